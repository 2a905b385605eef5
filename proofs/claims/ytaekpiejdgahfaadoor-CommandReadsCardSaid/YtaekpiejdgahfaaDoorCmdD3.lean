/- Commands: Decode of the program. -/
import Derived.Test.YtaekpiejdgahfaaDoorCmdD2
namespace Go.Proofs.YtaekpiejdgahfaaDoor
set_option linter.all false
open Go.RowKit
theorem below_fr {base : Nat} {w w' : World} (h : Below base w w') : Fr (fun k => k < base) w w' := ⟨h.os, h.tape, h.output, h.size, fun k _ hp => h.block k hp⟩
theorem Fr.over {P : Nat → Prop} {a b c : World} {x : Nat} (h : Fr P a b) (f : Fr (fun k => k ≠ x) b c) (hx : a.heap.size ≤ x) : Fr P a c :=
  ⟨f.os.trans h.os, f.tape.trans h.tape, f.output.trans h.output, Nat.le_trans h.size f.size, fun k hk hP => (f.block k (Nat.lt_of_lt_of_le hk h.size) (by omega)).trans (h.block k hk hP)⟩
theorem AV.bd {w : World} {P : Nat → Prop} {n c : Nat} {A : Option Addr} {l : List Auth} (h : AV w P A n c l) : AV w (fun k => P k ∧ k < w.heap.size) A n c l :=
  let ⟨vs, hr, he⟩ := h
  ⟨vs, hr.bd, he.1, fun i a ha => let ⟨N, nn, nc, V, vn, vc, h1, h2, h3⟩ := he.2 i a ha; ⟨N, nn, nc, V, vn, vc, h1, h2.bd, h3.bd⟩⟩
theorem BL.bd {w : World} {P : Nat → Prop} {n c : Nat} {A : Option Addr} {l : List (List UInt8)} (h : BL w P A n c l) : BL w (fun k => P k ∧ k < w.heap.size) A n c l :=
  let ⟨vs, hr, he⟩ := h
  ⟨vs, hr.bd, he.1, fun i a ha => let ⟨N, nn, nc, h1, h2⟩ := he.2 i a ha; ⟨N, nn, nc, h1, h2.bd⟩⟩
/-- rows above block b, below N, through what turns only g and b -/
theorem IV.keep {w w' : World} {g b N n c : Nat} {A : Option Addr} {l : List Int} (h : IV w (fun k => b < k ∧ k < N) A n c l) (f : Fr (fun k => k ≠ g ∧ k ≠ b ∧ k < N) w w') (hg : g < b) : IV w' (fun k => b < k ∧ k < w'.heap.size) A n c l :=
  Row.mono (Row.bd (h.fr (f.mono fun k hk => ⟨by omega, by omega, hk.2⟩))) fun k hk => ⟨hk.1.1, hk.2⟩
theorem AV.keep {w w' : World} {g b N n c : Nat} {A : Option Addr} {l : List Auth} (h : AV w (fun k => b < k ∧ k < N) A n c l) (f : Fr (fun k => k ≠ g ∧ k ≠ b ∧ k < N) w w') (hg : g < b) : AV w' (fun k => b < k ∧ k < w'.heap.size) A n c l :=
  AV.mono (AV.bd (h.fr (f.mono fun k hk => ⟨by omega, by omega, hk.2⟩))) fun k hk => ⟨hk.1.1, hk.2⟩
theorem BL.keep {w w' : World} {g b N n c : Nat} {A : Option Addr} {l : List (List UInt8)} (h : BL w (fun k => b < k ∧ k < N) A n c l) (f : Fr (fun k => k ≠ g ∧ k ≠ b ∧ k < N) w w') (hg : g < b) : BL w' (fun k => b < k ∧ k < w'.heap.size) A n c l :=
  BL.mono (BL.bd (h.fr (f.mono fun k hk => ⟨by omega, by omega, hk.2⟩))) fun k hk => ⟨hk.1.1, hk.2⟩
theorem decQ_zero {s : Shp} {r0 : Rd} {code : Int} (h : decE s r0 ≠ 0) : decQ s r0 code = zeroReq := by unfold decQ; rw [if_neg h]
/-- a request read, and the error -/
def ReqR (w : World) (q : Req) (er : Int) (e : Ending) (w' : World) : Prop :=
  ∃ r : RA, e = .returned (.tuple #[.agg #[.int .i64 q.code, .slice r.hA r.hn r.hc, .slice r.aA r.an r.ac, .slice r.iA r.iN r.ic, .slice r.bA r.bn r.bc], .int .i64 er]) ∧ ReqV w' (fun _ => True) q r ∧ Ext w w'
theorem ReqR.zero {w w' : World} {q : Req} {er : Int} (er' : Int) (hq : q = zeroReq) (he : er = er') (hE : Ext w w') : ReqR w q er (.returned (resV [.agg #[.int .i64 0, .slice none 0 0, .slice none 0 0, .slice none 0 0, .slice none 0 0], .int .i64 er'])) w' :=
  ⟨RA.nil, by rw [hq, he]; rfl, by rw [hq]; exact ReqV.zero _ _, hE⟩
set_option maxHeartbeats 2000000 in
set_option maxRecDepth 10000 in
theorem decodeP_calls {P : Nat → Prop} (w : World) (hT : Tabs w) (A : Option Addr) (n c : Nat) (l : List UInt8) (ha : BV w P A n c l) (hn : n ≤ 1000000) :
    Calls Tryd.prog 21 #[.slice A n c] w (ReqR w (decP l).1 (decP l).2) := by
  have hl := ha.len
  have hbd := shape_bounds (startC l)
  refine calls_enter Tryd.func21 rfl Tryd.ntmps21 rfl ?_
  have hE : Ext w w := Ext.refl w
  refine Wc.seq (fun K1 hK1 => ?_)
  refine Wc.keep [(0, _)] (.cons rfl (.nil)) ?_
  refine Wc.region ?_
  refine Wl.does rfl rfl rfl (Does.alB (.agg #[(.int .i64 0), (.slice none 0 0), (.slice none 0 0), (.slice none 0 0), (.slice none 0 0)]) rfl (by kernel_rfl) rfl) ?_
  rintro _ w0_0 ⟨b2, rfl, hs2, hb2, hx0_0⟩
  have hg2 : w.heap.size ≤ b2 := Nat.le_trans hE.size hs2
  replace hE := hE.trans hx0_0
  refine Wl.val rfl rfl rfl (Gives.assign rfl rfl) ?_
  refine Wl.nil ?_
  refine Wx.thenN (hK1 _ _ ?_)
  refine Wc.seq (fun K2 hK2 => ?_)
  refine Wc.keep [(0, _), (2, _)] (.cons rfl (.cons rfl (.nil))) ?_
  refine Wc.region ?_
  refine Wl.val rfl rfl rfl (Gives.move rfl rfl) ?_
  refine Wl.call rfl rfl rfl rfl Tryd.func39 rfl (by kernel_rfl) rfl (startP_calls _ (hT.ext hE) A n c l (ha.ext hE)) ?_
  rintro x1 w11 ⟨rfl, hQ1⟩
  refine ⟨_, rfl, ?_⟩
  have hx1 := hQ1.ext
  replace hb2 := hb2.ext hx1
  replace hE := hE.trans hx1
  refine Wl.val rfl rfl rfl (Gives.move rfl rfl) ?_
  refine Wl.val rfl rfl rfl (Gives.extract rfl rfl rfl) ?_
  refine Wl.val rfl rfl rfl (Gives.extract rfl rfl rfl) ?_
  refine Wl.val rfl rfl rfl (Gives.assign rfl rfl) ?_
  refine Wl.val rfl rfl rfl (Gives.assign rfl rfl) ?_
  refine Wl.nil ?_
  refine Wx.thenN (hK2 _ _ ?_)
  refine Wc.seq (fun K3 hK3 => ?_)
  refine Wc.seq (fun K4 hK4 => ?_)
  refine Wc.keep [(0, _), (2, _), (4, _), (5, _)] (.cons rfl (.cons rfl (.cons rfl (.cons rfl (.nil))))) ?_
  refine Wc.region ?_
  refine Wl.val rfl rfl rfl (Gives.move rfl rfl) ?_
  refine Wl.val rfl rfl rfl (Gives.neq rfl rfl rfl) ?_
  refine Wl.nil ?_
  refine Wx.thenN (hK4 _ _ ?_)
  refine Wc.cond _ rfl (fun h23 => ?_) (fun h23 => ?_)
  · (first | replace h23 := of_decide_eq_true h23 | replace h23 := nd_true h23 | skip)
    refine Wc.seq (fun K5 hK5 => ?_)
    refine Wc.keep [(2, _), (5, _)] (.cons rfl (.cons rfl (.nil))) ?_
    refine Wc.region ?_
    refine Wl.val rfl rfl rfl (Gives.buildS (pl := [(0, 1), (1, 1), (2, 1), (3, 1), (4, 1)]) (zv := (.agg #[(.int .i64 0), (.slice none 0 0), (.slice none 0 0), (.slice none 0 0), (.slice none 0 0)])) rfl Tryd.underlying33 (by kernel_rfl) (by kernel_rfl) rfl rfl) ?_
    refine Wl.val rfl rfl rfl (Gives.move rfl rfl) ?_
    refine Wl.acts rfl rfl (Does.stL 5 rfl rfl rfl hb2 (by kernel_rfl) rfl rfl rfl) ?_
    rintro _ w3_2 ⟨hbn, hF3_2⟩
    replace hE := Ext.over hE hF3_2 hg2
    replace hb2 := hbn
    clear hbn
    refine Wl.val rfl rfl rfl (Gives.assign rfl rfl) ?_
    refine Wl.nil ?_
    refine Wx.thenN (hK5 _ _ ?_)
    refine Wc.ret ?_
    refine Wx.thenR ?_
    refine Wx.ret [_, _] ⟨⟨_, rfl, res_blk hb2 Tryd.underlying33 rfl (by kernel_rfl)⟩, ⟨rfl, trivial⟩⟩ ?_
    exact ReqR.zero (startE l) (by unfold decP; rw [if_pos (by simpa using h23)]) (by unfold decP; rw [if_pos (by simpa using h23)]) hE
  · (first | replace h23 := of_decide_eq_false h23 | replace h23 := nd_false h23 | skip)
    refine Wc.skip ?_
    refine Wx.thenN (hK3 _ _ ?_)
    refine Wc.seq (fun K6 hK6 => ?_)
    refine Wc.keep [(0, _), (2, _), (4, _)] (.cons rfl (.cons rfl (.cons rfl (.nil)))) ?_
    refine Wc.region ?_
    refine Wl.val rfl rfl rfl (Gives.move rfl rfl) ?_
    refine Wl.call rfl rfl rfl rfl Tryd.func11 rfl (by kernel_rfl) rfl (shapeP_calls _ (hT.ext hE) (startC l)) ?_
    rintro x2 w12 ⟨rfl, hx2⟩
    refine ⟨_, rfl, ?_⟩
    generalize hsq : shapeS (startC l) = s at *
    replace hb2 := hb2.ext hx2
    replace hE := hE.trans hx2
    refine Wl.val rfl rfl rfl (Gives.move rfl rfl) ?_
    refine Wl.val rfl rfl rfl (Gives.extract rfl rfl rfl) ?_
    refine Wl.val rfl rfl rfl (Gives.extract rfl rfl rfl) ?_
    refine Wl.val rfl rfl rfl (Gives.extract rfl rfl rfl) ?_
    refine Wl.val rfl rfl rfl (Gives.extract rfl rfl rfl) ?_
    refine Wl.val rfl rfl rfl (Gives.extract rfl rfl rfl) ?_
    refine Wl.val rfl rfl rfl (Gives.assign rfl rfl) ?_
    refine Wl.val rfl rfl rfl (Gives.assign rfl rfl) ?_
    refine Wl.val rfl rfl rfl (Gives.assign rfl rfl) ?_
    refine Wl.val rfl rfl rfl (Gives.assign rfl rfl) ?_
    refine Wl.val rfl rfl rfl (Gives.assign rfl rfl) ?_
    refine Wl.nil ?_
    refine Wx.thenN (hK6 _ _ ?_)
    refine Wc.seq (fun K7 hK7 => ?_)
    refine Wc.seq (fun K8 hK8 => ?_)
    refine Wc.keep [(0, _), (2, _), (4, _), (6, _), (7, _), (8, _), (9, _), (10, _)] (.cons rfl (.cons rfl (.cons rfl (.cons rfl (.cons rfl (.cons rfl (.cons rfl (.cons rfl (.nil))))))))) ?_
    refine Wc.region ?_
    refine Wl.val rfl rfl rfl (Gives.move rfl rfl) ?_
    refine Wl.val rfl rfl rfl (Gives.not rfl rfl) ?_
    refine Wl.nil ?_
    refine Wx.thenN (hK8 _ _ ?_)
    refine Wc.cond _ rfl (fun h35 => ?_) (fun h35 => ?_)
    · (first | replace h35 := of_decide_eq_true h35 | replace h35 := nd_true h35 | skip)
      refine Wc.seq (fun K9 hK9 => ?_)
      refine Wc.keep [(2, _)] (.cons rfl (.nil)) ?_
      refine Wc.region ?_
      refine Wl.val rfl rfl rfl (Gives.buildS (pl := [(0, 1), (1, 1), (2, 1), (3, 1), (4, 1)]) (zv := (.agg #[(.int .i64 0), (.slice none 0 0), (.slice none 0 0), (.slice none 0 0), (.slice none 0 0)])) rfl Tryd.underlying33 (by kernel_rfl) (by kernel_rfl) rfl rfl) ?_
      refine Wl.acts rfl rfl (Does.stL 5 rfl rfl rfl hb2 (by kernel_rfl) rfl rfl rfl) ?_
      rintro _ w6_1 ⟨hbn, hF6_1⟩
      replace hE := Ext.over hE hF6_1 hg2
      replace hb2 := hbn
      clear hbn
      refine Wl.val rfl rfl rfl (Gives.assign rfl rfl) ?_
      refine Wl.nil ?_
      refine Wx.thenN (hK9 _ _ ?_)
      refine Wc.ret ?_
      refine Wx.thenR ?_
      refine Wx.ret [_, _] ⟨⟨_, rfl, res_blk hb2 Tryd.underlying33 rfl (by kernel_rfl)⟩, ⟨rfl, trivial⟩⟩ ?_
      exact ReqR.zero 6 (by unfold decP; rw [if_neg (by simpa using h23), hsq, if_pos (by simpa using h35)]) (by unfold decP; rw [if_neg (by simpa using h23), hsq, if_pos (by simpa using h35)]) hE
    · (first | replace h35 := of_decide_eq_false h35 | replace h35 := nd_false h35 | skip)
      refine Wc.skip ?_
      refine Wx.thenN (hK7 _ _ ?_)
      refine Wc.seq (fun K10 hK10 => ?_)
      refine Wc.keep [(0, _), (2, _), (4, _), (6, _), (7, _), (8, _), (9, _)] (.cons rfl (.cons rfl (.cons rfl (.cons rfl (.cons rfl (.cons rfl (.cons rfl (.nil)))))))) ?_
      have h5 : 5 ≤ n := by
        rcases Nat.lt_or_ge n 5 with h | h
        · exfalso
          unfold startE at h23
          rw [if_neg (by omega), if_pos (by omega)] at h23
          cases h23
        · exact h
      have hdec : decP l = (decQ s ⟨l.drop 5, 0, 0⟩ (startC l), decE s ⟨l.drop 5, 0, 0⟩) := by unfold decP; rw [if_neg (by simpa using h23), hsq, if_neg (by simpa using h35)]
      have hcut : BV w P (cutAddr A c 5 1) (n - 5) (c - 5) (l.drop 5) := BV.of_drop (Row.cut ha h5)
      generalize hr0 : (⟨l.drop 5, 0, 0⟩ : Rd) = r0 at *
      refine Wc.region ?_
      refine Wl.val rfl rfl rfl (Gives.move rfl rfl) ?_
      refine Wl.val rfl rfl rfl (Gives.cutLo rfl Tryd.underlying36 (by kernel_rfl) rfl 5 rfl rfl (by omega)) ?_
      refine Wl.call rfl rfl rfl rfl Tryd.func40 rfl (by kernel_rfl) rfl ((newP_rd _ _ _ _ (l.drop 5) (hcut.ext hE) (by omega)).mono fun _ _ h => NewRd.x h) ?_
      rintro x3 w13 ⟨g, A', n', c', rfl, hg, hR, hx3⟩
      refine ⟨_, rfl, ?_⟩
      rw [hr0] at hR
      have hgg : w.heap.size ≤ g := Nat.le_trans hE.size hg
      have hn2g : b2 ≠ g := hb2.ne hg
      have h2g : b2 < g := Nat.lt_of_lt_of_le hb2.lt hg
      replace hb2 := hb2.ext hx3
      replace hE := hE.trans hx3
      refine Wl.val rfl rfl rfl (Gives.assign rfl rfl) ?_
      refine Wl.nil ?_
      refine Wx.thenN (hK10 _ _ ?_)
      refine Wc.seq (fun K11 hK11 => ?_)
      refine Wc.keep [(2, _), (4, _), (6, _), (7, _), (8, _), (9, _), (11, _)] (.cons rfl (.cons rfl (.cons rfl (.cons rfl (.cons rfl (.cons rfl (.cons rfl (.nil)))))))) ?_
      refine Wc.region ?_
      refine Wl.val rfl rfl rfl (Gives.move rfl rfl) ?_
      refine Wl.val rfl rfl rfl (Gives.buildS (pl := [(0, 1), (1, 1), (2, 1), (3, 1), (4, 1)]) (zv := (.agg #[(.int .i64 0), (.slice none 0 0), (.slice none 0 0), (.slice none 0 0), (.slice none 0 0)])) rfl Tryd.underlying33 (by kernel_rfl) (by kernel_rfl) rfl rfl) ?_
      refine Wl.does rfl rfl rfl (Does.alB (.agg #[(.int .i64 0), (.slice none 0 0), (.slice none 0 0), (.slice none 0 0), (.slice none 0 0)]) rfl (by kernel_rfl) rfl) ?_
      rintro _ w8_2 ⟨b12, rfl, hs12, hb12, hx8_2⟩
      have hn2_12 : b2 ≠ b12 := hb2.ne hs12
      have hg12 : w.heap.size ≤ b12 := Nat.le_trans hE.size hs12
      replace hb2 := hb2.ext hx8_2
      replace hE := hE.trans hx8_2
      refine Wl.acts rfl rfl (Does.stL 5 rfl rfl rfl hb12 (by kernel_rfl) rfl rfl rfl) ?_
      rintro _ w8_3 ⟨hbn, hF8_3⟩
      replace hb2 := hb2.fr hF8_3 (by first | assumption | exact Ne.symm (by assumption))
      replace hE := Ext.over hE hF8_3 hg12
      replace hb12 := hbn
      clear hbn
      have hR1 := ((hR.ext hx8_2).fr hF8_3 (fun k hk => by omega)).up hs12
      clear hR
      have hgN : g < b12 := hR1.lt
      have hn12g : b12 ≠ g := by omega
      refine Wl.nil ?_
      refine Wx.thenN (hK11 _ _ ?_)
      refine Wc.seq (fun K12 hK12 => ?_)
      refine Wc.seq (fun K13 hK13 => ?_)
      refine Wc.keep [(2, _), (6, _), (7, _), (8, _), (9, _), (11, _), (12, _)] (.cons rfl (.cons rfl (.cons rfl (.cons rfl (.cons rfl (.cons rfl (.cons rfl (.nil)))))))) ?_
      refine Wc.region ?_
      refine Wl.val rfl rfl rfl (Gives.move rfl rfl) ?_
      refine Wl.val rfl rfl rfl (Gives.move rfl rfl) ?_
      refine Wl.nil ?_
      refine Wx.thenN (hK13 _ _ ?_)
      refine Wc.block ?_
      refine Wc.keep [(2, _), (7, _), (8, _), (9, _), (11, _), (12, _), (42, _), (43, _)] (.cons rfl (.cons rfl (.cons rfl (.cons rfl (.cons rfl (.cons rfl (.cons rfl (.cons rfl (.nil))))))))) ?_
      refine Wc.loopC (ι := Nat × Option Addr × Nat) [(2, _), (7, _), (8, _), (9, _), (11, _), (12, _), (42, _)] (fun | (i, _, _) => [(43, .int .i64 (i : Int))]) (fun | (i, B, c1), wr => i ≤ s.h.toNat ∧ RDX 92 wr g b12 A' n' c' (handU r0 i).1 ∧ OI wr (b12 + 1) B i c1 (handU r0 i).2 ∧ Blk wr b12 33 #[.int .i64 (startC l), .slice B i c1, .slice none 0 0, .slice none 0 0, .slice none 0 0] ∧ Blk wr b2 33 #[.int .i64 0, .slice none 0 0, .slice none 0 0, .slice none 0 0, .slice none 0 0] ∧ Ext w wr) (fun | (i, _, _) => s.h.toNat - i) ((0, none, 0)) (.cons (by first | exact rfl | exact look_int rfl (by omega) | exact look_slice rfl (by omega)) (.cons rfl (.cons rfl (.cons rfl (.cons rfl (.cons rfl (.cons rfl (.cons rfl (.nil))))))))) (⟨Nat.zero_le _, hR1, OI.nil_ _ _, hb12, hb2, hE⟩) ?_
      intro ⟨i, B, c1⟩ wr1 hJ KL1 hKL1
      clear hb12 hb2 hE hR1
      obtain ⟨hi, hR, hI, hb12, hb2, hE⟩ := hJ
      refine Wc.seq (fun K14 hK14 => ?_)
      refine Wc.keep [(2, _), (7, _), (8, _), (9, _), (11, _), (12, _), (42, _), (43, _)] (.cons rfl (.cons rfl (.cons rfl (.cons rfl (.cons rfl (.cons rfl (.cons rfl (.cons rfl (.nil))))))))) ?_
      refine Wc.region ?_
      refine Wl.val rfl rfl rfl (Gives.lss rfl rfl rfl) ?_
      refine Wl.nil ?_
      refine Wx.thenN (hK14 _ _ ?_)
      refine Wc.seq (fun K15 hK15 => ?_)
      refine Wc.cond _ rfl (fun h44 => ?_) (fun h44 => ?_)
      · (first | replace h44 := of_decide_eq_true h44 | replace h44 := nd_true h44 | skip)
        refine Wc.skip ?_
        refine Wx.thenN (hK15 _ _ ?_)
        refine Wc.seq (fun K16 hK16 => ?_)
        refine Wc.block ?_
        refine Wc.keep [(2, _), (7, _), (8, _), (9, _), (11, _), (12, _), (42, _), (43, _)] (.cons rfl (.cons rfl (.cons rfl (.cons rfl (.cons rfl (.cons rfl (.cons rfl (.cons rfl (.nil))))))))) ?_
        refine Wc.regionB (fun q => [1, 3].contains q) [g] (.read 0 (.read 1 (.read 2 (.call false 3 (.call false 4 .tail .none) .none)))) 5 (by kernel_rfl) (by kernel_rfl) (by kernel_rfl) ?_
        intro w11 hR11
        replace hb2 := hb2.ext hR11.ext
        replace hb12 := hb12.ext hR11.ext
        replace hE := hE.trans hR11.ext
        have hO11_2 : Old w11.heap.size [g] b2 := ⟨hb2.lt, ⟨by first | assumption | exact Ne.symm (by assumption), trivial⟩⟩
        have hO11_12 : Old w11.heap.size [g] b12 := ⟨hb12.lt, ⟨by first | assumption | exact Ne.symm (by assumption), trivial⟩⟩
        have hX := Ext.refl w11
        replace hR := hR.ext hR11.ext
        replace hI := hI.ext hR11.ext
        refine RunE.read rfl rfl rfl rfl (fun wS _ => (Gives.fieldAt 1 rfl Tryd.underlying33 rfl (by kernel_rfl) rfl rfl)) ?_
        refine RunE.readM rfl rfl rfl rfl rfl (fun wS hS => (Gives.ldK rfl (by kernel_rfl) rfl ((hb12.ext hX).fr hS hO11_12) rfl)) ?_
        refine RunE.read rfl rfl rfl rfl (fun wS _ => (Gives.move rfl rfl)) ?_
        refine RunE.turnC rfl rfl rfl rfl rfl Tryd.func41 rfl (by kernel_rfl) rfl (rUint_x _ g b12 A' n' c' _ 2 hR) ?_ RunE.none
        rintro x1 w111 ⟨rfl, hR1, hF1⟩
        refine ⟨_, rfl, ?_⟩
        refine ⟨hF1.mono (fun k h => h.2.1), ?_⟩
        replace hb2 := (hb2.ext hX).fr hF1 (by first | assumption | exact Ne.symm (by assumption))
        replace hb12 := (hb12.ext hX).fr hF1 (by first | assumption | exact Ne.symm (by assumption))
        replace hE := Ext.over (hE.trans hX) hF1 hgg
        replace hX := Ext.refl w111
        have hI1 := hI.fr hF1 (fun k hk => by omega)
        refine RunE.turn rfl rfl rfl rfl (Does.lit rfl Tryd.underlying29 infoI2 rfl rfl rfl rfl rfl) ?_ RunE.none
        rintro _ w112 ⟨g112, rfl, hs112, hk112, hx112⟩
        refine ⟨hx112.fr, ?_⟩
        replace hX := hX.trans hx112
        refine RunE.tail rfl ?_
        replace hb2 := hb2.ext hX
        replace hb12 := hb12.ext hX
        replace hE := hE.trans hX
        refine Wl.does rfl rfl rfl (Does.appI rfl rfl rfl (hI1.ext hx112) hk112 (by omega) hb12.lt) ?_
        rintro _ w113 ⟨B', c2, rfl, hI2, hB113⟩
        replace hb2 := Blk.bel hb2 hB113 (by omega)
        replace hb12 := Blk.bel hb12 hB113 (by omega)
        replace hE := Ext.step hE hB113 (by omega)
        have hR2 := (hR1.ext hx112).fr (below_fr hB113) (fun k hk => by omega)
        refine Wl.val rfl rfl rfl (Gives.fieldAt 1 rfl Tryd.underlying33 rfl (by kernel_rfl) rfl rfl) ?_
        refine Wl.acts rfl rfl (Does.stC rfl rfl rfl hb12 (by kernel_rfl) (Nat.le_of_ble_eq_true rfl) rfl) ?_
        rintro _ w11_7 ⟨hbn, hF11_7⟩
        replace hb2 := hb2.fr hF11_7 (by first | assumption | exact Ne.symm (by assumption))
        replace hE := Ext.over hE hF11_7 hg12
        replace hb12 := hbn
        clear hbn
        (try simp only [List.setIfInBounds_toArray, List.set_cons_zero, List.set_cons_succ, Nat.reduceAdd, Nat.zero_add] at hb12)
        replace hR2 := hR2.fr hF11_7 (fun k hk => by omega)
        replace hI2 := hI2.fr hF11_7 (fun k hk => by omega)
        refine Wl.nil ?_
        refine Wx.blockN ?_
        refine Wx.thenN (hK16 _ _ ?_)
        refine Wc.keep [(2, _), (7, _), (8, _), (9, _), (11, _), (12, _), (42, _), (43, _)] (.cons rfl (.cons rfl (.cons rfl (.cons rfl (.cons rfl (.cons rfl (.cons rfl (.cons rfl (.nil))))))))) ?_
        refine Wc.region ?_
        refine Wl.val rfl rfl rfl (Gives.add rfl rfl rfl (by first | exact IntWalk.i64_in _ (by omega) | exact u64_in _ (by omega) | exact u32_in _ (by omega) | exact u8_in _ (by omega) | exact rfl)) ?_
        refine Wl.val rfl rfl rfl (Gives.move rfl rfl) ?_
        refine Wl.nil ?_
        refine Wx.thenN ?_
        refine hKL1 (i + 1, B', c2) _ _ (.cons (by first | exact rfl | exact look_int rfl (by omega) | exact look_slice rfl (by omega)) (.cons rfl (.cons rfl (.cons rfl (.cons rfl (.cons rfl (.cons rfl (.cons rfl (.nil))))))))) ⟨by omega, hR2, hI2, hb12, hb2, hE⟩ (by show s.h.toNat - (i + 1) < s.h.toNat - i; omega)
      · (first | replace h44 := of_decide_eq_false h44 | replace h44 := nd_false h44 | skip)
        refine Wc.exit ?_
        refine Wx.thenE ?_
        refine Wx.thenE ?_
        refine Wx.hit ?_
        refine Wx.thenN (hK12 _ _ ?_)
        refine Wc.seq (fun K17 hK17 => ?_)
        refine Wc.seq (fun K18 hK18 => ?_)
        refine Wc.keep [(2, _), (7, _), (8, _), (9, _), (11, _), (12, _)] (.cons rfl (.cons rfl (.cons rfl (.cons rfl (.cons rfl (.cons rfl (.nil))))))) ?_
        have hih : s.h.toNat = i := by omega
        clear hi
        have hH : IV wr1 (fun k => b12 < k ∧ k < wr1.heap.size) B i c1 (stH s r0).2 := by
          have h := hI.iv (P := fun k => b12 < k) (fun k hk => hk)
          unfold stH
          rw [hih]
          exact Row.bd h
        have hR0 : RDX 92 wr1 g b12 A' n' c' (stH s r0).1 := by unfold stH; rw [hih]; exact hR
        clear hI hR
        have hN1 : b12 < wr1.heap.size := hb12.lt
        generalize hBn : i = hcnt at *
        generalize hNw : wr1.heap.size = N2 at *
        have hK0 : Fr (fun k => k ≠ g ∧ k ≠ b12 ∧ k < N2) wr1 wr1 := Fr.refl _ _
        refine Wc.region ?_
        refine Wl.val rfl rfl rfl (Gives.move rfl rfl) ?_
        refine Wl.val rfl rfl rfl (Gives.move rfl rfl) ?_
        refine Wl.nil ?_
        refine Wx.thenN (hK18 _ _ ?_)
        refine Wc.block ?_
        refine Wc.keep [(2, _), (8, _), (9, _), (11, _), (12, _), (53, _), (54, _)] (.cons rfl (.cons rfl (.cons rfl (.cons rfl (.cons rfl (.cons rfl (.cons rfl (.nil)))))))) ?_
        refine Wc.loopC (ι := Nat × Option Addr × Nat) [(2, _), (8, _), (9, _), (11, _), (12, _), (53, _)] (fun | (i, _, _) => [(54, .int .i64 (i : Int))]) (fun | (i, B2, c2), wr => i ≤ s.a.toNat ∧ RDX 92 wr g b12 A' n' c' (authU (stH s r0).1 i).1 ∧ OAu wr (fun k => b12 < k) N2 B2 i c2 (authU (stH s r0).1 i).2 ∧ Fr (fun k => k ≠ g ∧ k ≠ b12 ∧ k < N2) wr1 wr ∧ Blk wr b12 33 #[.int .i64 (startC l), .slice B hcnt c1, .slice B2 i c2, .slice none 0 0, .slice none 0 0] ∧ Blk wr b2 33 #[.int .i64 0, .slice none 0 0, .slice none 0 0, .slice none 0 0, .slice none 0 0] ∧ Ext w wr) (fun | (i, _, _) => s.a.toNat - i) ((0, none, 0)) (.cons (by first | exact rfl | exact look_int rfl (by omega) | exact look_slice rfl (by omega)) (.cons rfl (.cons rfl (.cons rfl (.cons rfl (.cons rfl (.cons rfl (.nil)))))))) (⟨Nat.zero_le _, hR0, OAu.nil_ _ _ _, hK0, hb12, hb2, hE⟩) ?_
        intro ⟨i, B2, c2⟩ wr2 hJ KL2 hKL2
        clear hb12 hb2 hE hR0 hK0
        obtain ⟨hi, hR, hU, hK, hb12, hb2, hE⟩ := hJ
        have hNs : N2 ≤ wr2.heap.size := by rw [← hNw]; exact hK.size
        refine Wc.seq (fun K19 hK19 => ?_)
        refine Wc.keep [(2, _), (8, _), (9, _), (11, _), (12, _), (53, _), (54, _)] (.cons rfl (.cons rfl (.cons rfl (.cons rfl (.cons rfl (.cons rfl (.cons rfl (.nil)))))))) ?_
        refine Wc.region ?_
        refine Wl.val rfl rfl rfl (Gives.lss rfl rfl rfl) ?_
        refine Wl.nil ?_
        refine Wx.thenN (hK19 _ _ ?_)
        refine Wc.seq (fun K20 hK20 => ?_)
        refine Wc.cond _ rfl (fun h55 => ?_) (fun h55 => ?_)
        · (first | replace h55 := of_decide_eq_true h55 | replace h55 := nd_true h55 | skip)
          refine Wc.skip ?_
          refine Wx.thenN (hK20 _ _ ?_)
          refine Wc.seq (fun K21 hK21 => ?_)
          refine Wc.block ?_
          refine Wc.seq (fun K22 hK22 => ?_)
          refine Wc.keep [(2, _), (8, _), (9, _), (11, _), (12, _), (53, _), (54, _)] (.cons rfl (.cons rfl (.cons rfl (.cons rfl (.cons rfl (.cons rfl (.cons rfl (.nil)))))))) ?_
          refine Wc.region ?_
          refine Wl.val rfl rfl rfl (Gives.move rfl rfl) ?_
          refine Wl.call rfl rfl rfl rfl Tryd.func41 rfl (by kernel_rfl) rfl (rUint_x _ g b12 A' n' c' _ 2 hR) ?_
          rintro x1 w151 ⟨rfl, hR1, hF1⟩
          refine ⟨_, rfl, ?_⟩
          replace hb2 := hb2.fr hF1 (by first | assumption | exact Ne.symm (by assumption))
          replace hb12 := hb12.fr hF1 (by first | assumption | exact Ne.symm (by assumption))
          replace hE := Ext.over hE hF1 hgg
          have hU1 := hU.fr hF1 (fun k hk => by omega) (fun k hk => by omega)
          have hs151 := hF1.size
          refine Wl.val rfl rfl rfl (Gives.buildS (pl := [(0, 1), (1, 1), (2, 1)]) (zv := (.agg #[(.int .i64 0), (.slice none 0 0), (.slice none 0 0)])) rfl Tryd.underlying38 (by kernel_rfl) (by kernel_rfl) rfl rfl) ?_
          refine Wl.does rfl rfl rfl (Does.alB (.agg #[(.int .i64 0), (.slice none 0 0), (.slice none 0 0)]) rfl (by kernel_rfl) rfl) ?_
          rintro _ w15_3 ⟨b13, rfl, hs13, hb13, hx15_3⟩
          have hn2_13 : b2 ≠ b13 := hb2.ne hs13
          have hn12_13 : b12 ≠ b13 := hb12.ne hs13
          have hg13 : w.heap.size ≤ b13 := Nat.le_trans hE.size hs13
          replace hb2 := hb2.ext hx15_3
          replace hb12 := hb12.ext hx15_3
          replace hE := hE.trans hx15_3
          refine Wl.acts rfl rfl (Does.stL 3 rfl rfl rfl hb13 (by kernel_rfl) rfl rfl rfl) ?_
          rintro _ w15_4 ⟨hbn, hF15_4⟩
          replace hb2 := hb2.fr hF15_4 (by first | assumption | exact Ne.symm (by assumption))
          replace hb12 := hb12.fr hF15_4 (by first | assumption | exact Ne.symm (by assumption))
          replace hE := Ext.over hE hF15_4 hg13
          replace hb13 := hbn
          clear hbn
          have hx15 := Ext.over hx15_3 hF15_4 hs13
          have hR2 := hR1.ext hx15
          have hG2 : Fr (fun k => k ≠ g) w151 w15_4 := hx15.fr
          have h13 : b12 < b13 := by omega
          have hn13g : b13 ≠ g := by omega
          have hlt13 : b13 < w15_4.heap.size := hb13.lt
          refine Wl.nil ?_
          refine Wx.thenN (hK22 _ _ ?_)
          refine Wc.seq (fun K23 hK23 => ?_)
          refine Wc.keep [(2, _), (8, _), (9, _), (11, _), (12, _), (13, _), (53, _), (54, _)] (.cons rfl (.cons rfl (.cons rfl (.cons rfl (.cons rfl (.cons rfl (.cons rfl (.cons rfl (.nil))))))))) ?_
          refine Wc.region ?_
          refine Wl.val rfl rfl rfl (Gives.move rfl rfl) ?_
          refine Wl.call rfl rfl rfl rfl Tryd.func42 rfl (by kernel_rfl) rfl (rBlob_x _ g b12 A' n' c' _ 128 hR2) ?_
          rintro x2 w161 ⟨S1, m1, k1, rfl, hO1, hR3, hF3⟩
          refine ⟨_, rfl, ?_⟩
          replace hb2 := hb2.fr hF3 (by first | assumption | exact Ne.symm (by assumption))
          replace hb12 := hb12.fr hF3 (by first | assumption | exact Ne.symm (by assumption))
          replace hb13 := hb13.fr hF3 (by first | assumption | exact Ne.symm (by assumption))
          replace hE := Ext.over hE hF3 hgg
          have hG3 := hG2.trans hF3
          have hA1 : BV w161 (fun k => b13 < k) S1 m1 k1 _ := hO1.bv (fun k hk => by omega)
          have hlt13b : b13 < w161.heap.size := hb13.lt
          refine Wl.val rfl rfl rfl (Gives.fieldAt 1 rfl Tryd.underlying38 rfl (by kernel_rfl) rfl rfl) ?_
          refine Wl.acts rfl rfl (Does.stC rfl rfl rfl hb13 (by kernel_rfl) (Nat.le_of_ble_eq_true rfl) rfl) ?_
          rintro _ w16_3 ⟨hbn, hF16_3⟩
          replace hb2 := hb2.fr hF16_3 (by first | assumption | exact Ne.symm (by assumption))
          replace hb12 := hb12.fr hF16_3 (by first | assumption | exact Ne.symm (by assumption))
          replace hE := Ext.over hE hF16_3 hg13
          replace hb13 := hbn
          clear hbn
          (try simp only [List.setIfInBounds_toArray, List.set_cons_zero, List.set_cons_succ, Nat.reduceAdd, Nat.zero_add] at hb13)
          have hR4 := hR3.fr hF16_3 (fun k hk => by omega)
          have hG4 := Fr.over hG3 hF16_3 hs13
          have hA2 := hA1.fr (hF16_3.mono (fun k hk => by omega))
          have hlt13c : b13 < w16_3.heap.size := hb13.lt
          refine Wl.nil ?_
          refine Wx.thenN (hK23 _ _ ?_)
          refine Wc.seq (fun K24 hK24 => ?_)
          refine Wc.keep [(2, _), (8, _), (9, _), (11, _), (12, _), (13, _), (53, _), (54, _)] (.cons rfl (.cons rfl (.cons rfl (.cons rfl (.cons rfl (.cons rfl (.cons rfl (.cons rfl (.nil))))))))) ?_
          refine Wc.region ?_
          refine Wl.val rfl rfl rfl (Gives.move rfl rfl) ?_
          refine Wl.call rfl rfl rfl rfl Tryd.func42 rfl (by kernel_rfl) rfl (rBlob_x _ g b12 A' n' c' _ 128 hR4) ?_
          rintro x3 w171 ⟨S2, m2, k2, rfl, hO2, hR5, hF5⟩
          refine ⟨_, rfl, ?_⟩
          replace hb2 := hb2.fr hF5 (by first | assumption | exact Ne.symm (by assumption))
          replace hb12 := hb12.fr hF5 (by first | assumption | exact Ne.symm (by assumption))
          replace hb13 := hb13.fr hF5 (by first | assumption | exact Ne.symm (by assumption))
          replace hE := Ext.over hE hF5 hgg
          have hG5 := hG4.trans hF5
          have hV1 : BV w171 (fun k => b13 < k) S2 m2 k2 _ := hO2.bv (fun k hk => by omega)
          have hA3 := hA2.fr (hF5.mono (fun k hk => by omega))
          refine Wl.val rfl rfl rfl (Gives.fieldAt 2 rfl Tryd.underlying38 rfl (by kernel_rfl) rfl rfl) ?_
          refine Wl.acts rfl rfl (Does.stC rfl rfl rfl hb13 (by kernel_rfl) (Nat.le_of_ble_eq_true rfl) rfl) ?_
          rintro _ w17_3 ⟨hbn, hF17_3⟩
          replace hb2 := hb2.fr hF17_3 (by first | assumption | exact Ne.symm (by assumption))
          replace hb12 := hb12.fr hF17_3 (by first | assumption | exact Ne.symm (by assumption))
          replace hE := Ext.over hE hF17_3 hg13
          replace hb13 := hbn
          clear hbn
          (try simp only [List.setIfInBounds_toArray, List.set_cons_zero, List.set_cons_succ, Nat.reduceAdd, Nat.zero_add] at hb13)
          have hR6 := hR5.fr hF17_3 (fun k hk => by omega)
          have hG6 := Fr.over hG5 hF17_3 hs13
          have hA4 := hA3.fr (hF17_3.mono (fun k hk => by omega))
          have hV2 := hV1.fr (hF17_3.mono (fun k hk => by omega))
          have hU6 := hU1.fr hG6 (fun k hk => by omega) (fun k hk => by omega)
          have hK6 := (hK.trans (hF1.mono (fun k hk => hk.1))).trans (hG6.mono (fun k hk => hk.1))
          refine Wl.nil ?_
          refine Wx.thenN (hK24 _ _ ?_)
          refine Wc.keep [(2, _), (8, _), (9, _), (11, _), (12, _), (13, _), (53, _), (54, _)] (.cons rfl (.cons rfl (.cons rfl (.cons rfl (.cons rfl (.cons rfl (.cons rfl (.cons rfl (.nil))))))))) ?_
          refine Wc.region ?_
          refine Wl.val rfl rfl rfl (Gives.fieldAt 2 rfl Tryd.underlying33 rfl (by kernel_rfl) rfl rfl) ?_
          refine Wl.val rfl rfl rfl (Gives.ldK rfl (by kernel_rfl) rfl hb12 rfl) ?_
          refine Wl.val rfl rfl rfl (Gives.ldW rfl (by kernel_rfl) rfl hb13 (by kernel_rfl)) ?_
          refine Wl.does rfl rfl rfl (Does.lit1 3 rfl Tryd.underlying30 infoU2 rfl rfl rfl) ?_
          rintro _ w183 ⟨g183, rfl, hs183, hk183, hx183⟩
          replace hb2 := hb2.ext hx183
          replace hb12 := hb12.ext hx183
          replace hb13 := hb13.ext hx183
          replace hE := hE.trans hx183
          obtain ⟨vs1, ho1⟩ := hU1.own
          have hA5 : BV w183 (NOwn w183 (fun k => b12 < k) (.slice B2 i c2)) S1 m1 k1 _ := BV.nown ((hA4.ext hx183).mono (fun k hk => ⟨by omega, by omega⟩)) ho1 hs13
          have hV5 : BV w183 (NOwn w183 (fun k => b12 < k) (.slice B2 i c2)) S2 m2 k2 _ := BV.nown ((hV2.ext hx183).mono (fun k hk => ⟨by omega, by omega⟩)) ho1 hs13
          refine Wl.does rfl rfl rfl (Does.appU (a := (authR (authU (stH s r0).1 i).1).2) rfl rfl rfl (hU6.ext hx183) hk183 hA5 hV5 (by omega) (by have := hb13.lt; omega)) ?_
          rintro _ w184 ⟨B', c3, rfl, hU7, hB184⟩
          replace hb2 := Blk.bel hb2 hB184 (by omega)
          replace hb12 := Blk.bel hb12 hB184 (by omega)
          replace hE := Ext.step hE hB184 (by omega)
          have hR7 := (hR6.ext hx183).fr (below_fr hB184) (fun k hk => by omega)
          have hK7 := (hK6.trans hx183.fr).trans ((below_fr hB184).mono (fun k hk => hk.2.2))
          refine Wl.val rfl rfl rfl (Gives.fieldAt 2 rfl Tryd.underlying33 rfl (by kernel_rfl) rfl rfl) ?_
          refine Wl.acts rfl rfl (Does.stC rfl rfl rfl hb12 (by kernel_rfl) (Nat.le_of_ble_eq_true rfl) rfl) ?_
          rintro _ w18_6 ⟨hbn, hF18_6⟩
          replace hb2 := hb2.fr hF18_6 (by first | assumption | exact Ne.symm (by assumption))
          replace hE := Ext.over hE hF18_6 hg12
          replace hb12 := hbn
          clear hbn
          (try simp only [List.setIfInBounds_toArray, List.set_cons_zero, List.set_cons_succ, Nat.reduceAdd, Nat.zero_add] at hb12)
          have hR8 := hR7.fr hF18_6 (fun k hk => by omega)
          have hU8 := hU7.fr hF18_6 (fun k hk => by omega) (fun k hk => by omega)
          have hK8 := hK7.trans (hF18_6.mono (fun k hk => hk.2.1))
          refine Wl.nil ?_
          refine Wx.blockN ?_
          refine Wx.thenN (hK21 _ _ ?_)
          refine Wc.keep [(2, _), (8, _), (9, _), (11, _), (12, _), (53, _), (54, _)] (.cons rfl (.cons rfl (.cons rfl (.cons rfl (.cons rfl (.cons rfl (.cons rfl (.nil)))))))) ?_
          refine Wc.region ?_
          refine Wl.val rfl rfl rfl (Gives.add rfl rfl rfl (by first | exact IntWalk.i64_in _ (by omega) | exact u64_in _ (by omega) | exact u32_in _ (by omega) | exact u8_in _ (by omega) | exact rfl)) ?_
          refine Wl.val rfl rfl rfl (Gives.move rfl rfl) ?_
          refine Wl.nil ?_
          refine Wx.thenN ?_
          refine hKL2 (i + 1, B', c3) _ _ (.cons (by first | exact rfl | exact look_int rfl (by omega) | exact look_slice rfl (by omega)) (.cons rfl (.cons rfl (.cons rfl (.cons rfl (.cons rfl (.cons rfl (.nil)))))))) ⟨by omega, hR8, hU8, hK8, hb12, hb2, hE⟩ (by show s.a.toNat - (i + 1) < s.a.toNat - i; omega)
        · (first | replace h55 := of_decide_eq_false h55 | replace h55 := nd_false h55 | skip)
          refine Wc.exit ?_
          refine Wx.thenE ?_
          refine Wx.thenE ?_
          refine Wx.hit ?_
          refine Wx.thenN (hK17 _ _ ?_)
          refine Wc.seq (fun K25 hK25 => ?_)
          refine Wc.seq (fun K26 hK26 => ?_)
          refine Wc.keep [(2, _), (8, _), (9, _), (11, _), (12, _)] (.cons rfl (.cons rfl (.cons rfl (.cons rfl (.cons rfl (.nil)))))) ?_
          have hia : s.a.toNat = i := by omega
          clear hi
          have hUv : AV wr2 (fun k => b12 < k ∧ k < wr2.heap.size) B2 i c2 (stU s r0).2 := by
            have h := hU.av (P := fun k => b12 < k) (fun k hk => by omega) (fun k hk => hk)
            unfold stU
            rw [hia]
            exact h.bd
          have hR0 : RDX 92 wr2 g b12 A' n' c' (stU s r0).1 := by unfold stU; rw [hia]; exact hR
          have hH2 := hH.keep hK hgN
          clear hU hR hK hH
          have hN2 : b12 < wr2.heap.size := hb12.lt
          generalize hBn2 : i = acnt at *
          generalize hNw2 : wr2.heap.size = N3 at *
          have hK0 : Fr (fun k => k ≠ g ∧ k ≠ b12 ∧ k < N3) wr2 wr2 := Fr.refl _ _
          refine Wc.region ?_
          refine Wl.val rfl rfl rfl (Gives.move rfl rfl) ?_
          refine Wl.val rfl rfl rfl (Gives.move rfl rfl) ?_
          refine Wl.nil ?_
          refine Wx.thenN (hK26 _ _ ?_)
          refine Wc.block ?_
          refine Wc.keep [(2, _), (9, _), (11, _), (12, _), (72, _), (73, _)] (.cons rfl (.cons rfl (.cons rfl (.cons rfl (.cons rfl (.cons rfl (.nil))))))) ?_
          refine Wc.loopC (ι := Nat × Option Addr × Nat) [(2, _), (9, _), (11, _), (12, _), (72, _)] (fun | (i, _, _) => [(73, .int .i64 (i : Int))]) (fun | (i, B3, c3), wr => i ≤ s.i.toNat ∧ RDX 92 wr g b12 A' n' c' (intU (stU s r0).1 i).1 ∧ OI wr N3 B3 i c3 (intU (stU s r0).1 i).2 ∧ Fr (fun k => k ≠ g ∧ k ≠ b12 ∧ k < N3) wr2 wr ∧ Blk wr b12 33 #[.int .i64 (startC l), .slice B hcnt c1, .slice B2 acnt c2, .slice B3 i c3, .slice none 0 0] ∧ Blk wr b2 33 #[.int .i64 0, .slice none 0 0, .slice none 0 0, .slice none 0 0, .slice none 0 0] ∧ Ext w wr) (fun | (i, _, _) => s.i.toNat - i) ((0, none, 0)) (.cons (by first | exact rfl | exact look_int rfl (by omega) | exact look_slice rfl (by omega)) (.cons rfl (.cons rfl (.cons rfl (.cons rfl (.cons rfl (.nil))))))) (⟨Nat.zero_le _, hR0, OI.nil_ _ _, hK0, hb12, hb2, hE⟩) ?_
          intro ⟨i, B3, c3⟩ wr3 hJ KL3 hKL3
          clear hb12 hb2 hE hR0 hK0
          obtain ⟨hi, hR, hI, hK, hb12, hb2, hE⟩ := hJ
          have hNs3 : N3 ≤ wr3.heap.size := by rw [← hNw2]; exact hK.size
          refine Wc.seq (fun K27 hK27 => ?_)
          refine Wc.keep [(2, _), (9, _), (11, _), (12, _), (72, _), (73, _)] (.cons rfl (.cons rfl (.cons rfl (.cons rfl (.cons rfl (.cons rfl (.nil))))))) ?_
          refine Wc.region ?_
          refine Wl.val rfl rfl rfl (Gives.lss rfl rfl rfl) ?_
          refine Wl.nil ?_
          refine Wx.thenN (hK27 _ _ ?_)
          refine Wc.seq (fun K28 hK28 => ?_)
          refine Wc.cond _ rfl (fun h74 => ?_) (fun h74 => ?_)
          · (first | replace h74 := of_decide_eq_true h74 | replace h74 := nd_true h74 | skip)
            refine Wc.skip ?_
            refine Wx.thenN (hK28 _ _ ?_)
            refine Wc.seq (fun K29 hK29 => ?_)
            refine Wc.block ?_
            refine Wc.seq (fun K30 hK30 => ?_)
            refine Wc.keep [(2, _), (9, _), (11, _), (12, _), (72, _), (73, _)] (.cons rfl (.cons rfl (.cons rfl (.cons rfl (.cons rfl (.cons rfl (.nil))))))) ?_
            refine Wc.region ?_
            refine Wl.val rfl rfl rfl (Gives.move rfl rfl) ?_
            refine Wl.call rfl rfl rfl rfl Tryd.func41 rfl (by kernel_rfl) rfl (rUint_x _ g b12 A' n' c' _ 8 hR) ?_
            rintro x1 w221 ⟨rfl, hR1, hF1⟩
            refine ⟨_, rfl, ?_⟩
            replace hb2 := hb2.fr hF1 (by first | assumption | exact Ne.symm (by assumption))
            replace hb12 := hb12.fr hF1 (by first | assumption | exact Ne.symm (by assumption))
            replace hE := Ext.over hE hF1 hgg
            have hI1 := hI.fr hF1 (fun k hk => by omega)
            have hK1 := hK.trans (hF1.mono (fun k hk => hk.1))
            refine Wl.val rfl rfl rfl (Gives.assign rfl rfl) ?_
            refine Wl.nil ?_
            refine Wx.thenN (hK30 _ _ ?_)
            refine Wc.seq (fun K31 hK31 => ?_)
            refine Wc.seq (fun K32 hK32 => ?_)
            refine Wc.keep [(2, _), (9, _), (11, _), (12, _), (14, _), (72, _), (73, _)] (.cons rfl (.cons rfl (.cons rfl (.cons rfl (.cons rfl (.cons rfl (.cons rfl (.nil)))))))) ?_
            refine Wc.region ?_
            refine Wl.val rfl rfl rfl (Gives.move rfl rfl) ?_
            refine Wl.val rfl rfl rfl (Gives.call rfl Tryd.func43 rfl (by kernel_rfl) rfl (rErr_x _ g b12 A' n' c' _ hR1)) ?_
            refine Wl.val rfl rfl rfl (Gives.eql rfl rfl rfl) ?_
            refine Wl.val rfl rfl rfl (Gives.move rfl rfl) ?_
            refine Wl.guard rfl rfl rfl (fun h80 => ?_) (fun h80 => ?_)
            · (first | replace h80 := of_decide_eq_true h80 | replace h80 := nd_true h80 | skip)
              refine Wl.val rfl rfl rfl (Gives.move rfl rfl) ?_
              refine Wl.val rfl rfl rfl (Gives.gtr rfl rfl rfl) ?_
              refine Wl.val rfl rfl rfl (Gives.pickT rfl rfl rfl rfl) ?_
              refine Wl.nil ?_
              refine Wx.thenN (hK32 _ _ ?_)
              refine Wc.cond _ rfl (fun h83 => ?_) (fun h83 => ?_)
              · (first | replace h83 := of_decide_eq_true h83 | replace h83 := nd_true h83 | skip)
                refine Wc.seq (fun K33 hK33 => ?_)
                refine Wc.keep [(2, _)] (.cons rfl (.nil)) ?_
                refine Wc.region ?_
                refine Wl.val rfl rfl rfl (Gives.buildS (pl := [(0, 1), (1, 1), (2, 1), (3, 1), (4, 1)]) (zv := (.agg #[(.int .i64 0), (.slice none 0 0), (.slice none 0 0), (.slice none 0 0), (.slice none 0 0)])) rfl Tryd.underlying33 (by kernel_rfl) (by kernel_rfl) rfl rfl) ?_
                refine Wl.acts rfl rfl (Does.stL 5 rfl rfl rfl hb2 (by kernel_rfl) rfl rfl rfl) ?_
                rintro _ w24_1 ⟨hbn, hF24_1⟩
                replace hb12 := hb12.fr hF24_1 (by first | assumption | exact Ne.symm (by assumption))
                replace hE := Ext.over hE hF24_1 hg2
                replace hb2 := hbn
                clear hbn
                refine Wl.val rfl rfl rfl (Gives.assign rfl rfl) ?_
                refine Wl.nil ?_
                refine Wx.thenN (hK33 _ _ ?_)
                refine Wc.ret ?_
                refine Wx.thenR ?_
                refine Wx.blockR ?_
                refine Wx.thenR ?_
                refine Wx.thenR ?_
                refine Wx.blockR ?_
                refine Wx.thenR ?_
                refine Wx.ret [_, _] ⟨⟨_, rfl, res_blk hb2 Tryd.underlying33 rfl (by kernel_rfl)⟩, ⟨rfl, trivial⟩⟩ ?_
                have h1 := early_i (by omega) h80 h83
                exact ReqR.zero 1 (by rw [hdec]; exact decQ_zero (by rw [h1]; decide)) (by rw [hdec]; exact h1) hE
              · (first | replace h83 := of_decide_eq_false h83 | replace h83 := nd_false h83 | skip)
                refine Wc.skip ?_
                refine Wx.thenN (hK31 _ _ ?_)
                refine Wc.keep [(2, _), (9, _), (11, _), (12, _), (14, _), (72, _), (73, _)] (.cons rfl (.cons rfl (.cons rfl (.cons rfl (.cons rfl (.cons rfl (.cons rfl (.nil)))))))) ?_
                refine Wc.region ?_
                refine Wl.val rfl rfl rfl (Gives.fieldAt 3 rfl Tryd.underlying33 rfl (by kernel_rfl) rfl rfl) ?_
                refine Wl.val rfl rfl rfl (Gives.ldK rfl (by kernel_rfl) rfl hb12 rfl) ?_
                refine Wl.val rfl rfl rfl (Gives.move rfl rfl) ?_
                refine Wl.does rfl rfl rfl (Does.lit rfl Tryd.underlying29 infoI2 rfl rfl rfl rfl rfl) ?_
                rintro _ w253 ⟨g253, rfl, hs253, hk253, hx253⟩
                replace hb2 := hb2.ext hx253
                replace hb12 := hb12.ext hx253
                replace hE := hE.trans hx253
                refine Wl.does rfl rfl rfl (Does.appI rfl rfl rfl (hI1.ext hx253) hk253 (by omega) (by have := hb12.lt; have := hF1.size; have := hx253.size; omega)) ?_
                rintro _ w254 ⟨B', c4, rfl, hI2, hB254⟩
                replace hb2 := Blk.bel hb2 hB254 (by omega)
                replace hb12 := Blk.bel hb12 hB254 (by omega)
                replace hE := Ext.step hE hB254 (by omega)
                have hR2 := (hR1.ext hx253).fr (below_fr hB254) (fun k hk => by omega)
                have hK2 := (hK1.trans hx253.fr).trans ((below_fr hB254).mono (fun k hk => hk.2.2))
                refine Wl.val rfl rfl rfl (Gives.fieldAt 3 rfl Tryd.underlying33 rfl (by kernel_rfl) rfl rfl) ?_
                refine Wl.acts rfl rfl (Does.stC rfl rfl rfl hb12 (by kernel_rfl) (Nat.le_of_ble_eq_true rfl) rfl) ?_
                rintro _ w25_6 ⟨hbn, hF25_6⟩
                replace hb2 := hb2.fr hF25_6 (by first | assumption | exact Ne.symm (by assumption))
                replace hE := Ext.over hE hF25_6 hg12
                replace hb12 := hbn
                clear hbn
                (try simp only [List.setIfInBounds_toArray, List.set_cons_zero, List.set_cons_succ, Nat.reduceAdd, Nat.zero_add] at hb12)
                have hR3 := hR2.fr hF25_6 (fun k hk => by omega)
                have hI3 := hI2.fr hF25_6 (fun k hk => by omega)
                have hK3 := hK2.trans (hF25_6.mono (fun k hk => hk.2.1))
                refine Wl.nil ?_
                refine Wx.blockN ?_
                refine Wx.thenN (hK29 _ _ ?_)
                refine Wc.keep [(2, _), (9, _), (11, _), (12, _), (72, _), (73, _)] (.cons rfl (.cons rfl (.cons rfl (.cons rfl (.cons rfl (.cons rfl (.nil))))))) ?_
                refine Wc.region ?_
                refine Wl.val rfl rfl rfl (Gives.add rfl rfl rfl (by first | exact IntWalk.i64_in _ (by omega) | exact u64_in _ (by omega) | exact u32_in _ (by omega) | exact u8_in _ (by omega) | exact rfl)) ?_
                refine Wl.val rfl rfl rfl (Gives.move rfl rfl) ?_
                refine Wl.nil ?_
                refine Wx.thenN ?_
                refine hKL3 (i + 1, B', c4) _ _ (.cons (by first | exact rfl | exact look_int rfl (by omega) | exact look_slice rfl (by omega)) (.cons rfl (.cons rfl (.cons rfl (.cons rfl (.cons rfl (.nil))))))) ⟨by omega, by show RDX _ _ _ _ _ _ _ (intR (intU (stU s r0).1 i).1).1; rw [intR_ok (Or.inr (by omega))]; exact hR3, hI3, hK3, hb12, hb2, hE⟩ (by show s.i.toNat - (i + 1) < s.i.toNat - i; omega)
            · (first | replace h80 := of_decide_eq_false h80 | replace h80 := nd_false h80 | skip)
              refine Wl.pass rfl rfl rfl ?_
              refine Wl.pass rfl rfl rfl ?_
              refine Wl.val rfl rfl rfl (Gives.pickF rfl rfl rfl rfl) ?_
              refine Wl.nil ?_
              refine Wx.thenN (hK32 _ _ ?_)
              refine Wc.condF rfl rfl ?_
              refine Wc.skip ?_
              refine Wx.thenN (hK31 _ _ ?_)
              refine Wc.keep [(2, _), (9, _), (11, _), (12, _), (14, _), (72, _), (73, _)] (.cons rfl (.cons rfl (.cons rfl (.cons rfl (.cons rfl (.cons rfl (.cons rfl (.nil)))))))) ?_
              refine Wc.region ?_
              refine Wl.val rfl rfl rfl (Gives.fieldAt 3 rfl Tryd.underlying33 rfl (by kernel_rfl) rfl rfl) ?_
              refine Wl.val rfl rfl rfl (Gives.ldK rfl (by kernel_rfl) rfl hb12 rfl) ?_
              refine Wl.val rfl rfl rfl (Gives.move rfl rfl) ?_
              refine Wl.does rfl rfl rfl (Does.lit rfl Tryd.underlying29 infoI2 rfl rfl rfl rfl rfl) ?_
              rintro _ w253 ⟨g253, rfl, hs253, hk253, hx253⟩
              replace hb2 := hb2.ext hx253
              replace hb12 := hb12.ext hx253
              replace hE := hE.trans hx253
              refine Wl.does rfl rfl rfl (Does.appI rfl rfl rfl (hI1.ext hx253) hk253 (by omega) (by have := hb12.lt; have := hF1.size; have := hx253.size; omega)) ?_
              rintro _ w254 ⟨B', c4, rfl, hI2, hB254⟩
              replace hb2 := Blk.bel hb2 hB254 (by omega)
              replace hb12 := Blk.bel hb12 hB254 (by omega)
              replace hE := Ext.step hE hB254 (by omega)
              have hR2 := (hR1.ext hx253).fr (below_fr hB254) (fun k hk => by omega)
              have hK2 := (hK1.trans hx253.fr).trans ((below_fr hB254).mono (fun k hk => hk.2.2))
              refine Wl.val rfl rfl rfl (Gives.fieldAt 3 rfl Tryd.underlying33 rfl (by kernel_rfl) rfl rfl) ?_
              refine Wl.acts rfl rfl (Does.stC rfl rfl rfl hb12 (by kernel_rfl) (Nat.le_of_ble_eq_true rfl) rfl) ?_
              rintro _ w25_6 ⟨hbn, hF25_6⟩
              replace hb2 := hb2.fr hF25_6 (by first | assumption | exact Ne.symm (by assumption))
              replace hE := Ext.over hE hF25_6 hg12
              replace hb12 := hbn
              clear hbn
              (try simp only [List.setIfInBounds_toArray, List.set_cons_zero, List.set_cons_succ, Nat.reduceAdd, Nat.zero_add] at hb12)
              have hR3 := hR2.fr hF25_6 (fun k hk => by omega)
              have hI3 := hI2.fr hF25_6 (fun k hk => by omega)
              have hK3 := hK2.trans (hF25_6.mono (fun k hk => hk.2.1))
              refine Wl.nil ?_
              refine Wx.blockN ?_
              refine Wx.thenN (hK29 _ _ ?_)
              refine Wc.keep [(2, _), (9, _), (11, _), (12, _), (72, _), (73, _)] (.cons rfl (.cons rfl (.cons rfl (.cons rfl (.cons rfl (.cons rfl (.nil))))))) ?_
              refine Wc.region ?_
              refine Wl.val rfl rfl rfl (Gives.add rfl rfl rfl (by first | exact IntWalk.i64_in _ (by omega) | exact u64_in _ (by omega) | exact u32_in _ (by omega) | exact u8_in _ (by omega) | exact rfl)) ?_
              refine Wl.val rfl rfl rfl (Gives.move rfl rfl) ?_
              refine Wl.nil ?_
              refine Wx.thenN ?_
              refine hKL3 (i + 1, B', c4) _ _ (.cons (by first | exact rfl | exact look_int rfl (by omega) | exact look_slice rfl (by omega)) (.cons rfl (.cons rfl (.cons rfl (.cons rfl (.cons rfl (.nil))))))) ⟨by omega, by show RDX _ _ _ _ _ _ _ (intR (intU (stU s r0).1 i).1).1; rw [intR_ok (Or.inl h80)]; exact hR3, hI3, hK3, hb12, hb2, hE⟩ (by show s.i.toNat - (i + 1) < s.i.toNat - i; omega)
          · (first | replace h74 := of_decide_eq_false h74 | replace h74 := nd_false h74 | skip)
            refine Wc.exit ?_
            refine Wx.thenE ?_
            refine Wx.thenE ?_
            refine Wx.hit ?_
            refine Wx.thenN (hK25 _ _ ?_)
            refine Wc.seq (fun K34 hK34 => ?_)
            refine Wc.keep [(2, _), (9, _), (11, _), (12, _)] (.cons rfl (.cons rfl (.cons rfl (.cons rfl (.nil))))) ?_
            have hii : s.i.toNat = i := by omega
            clear hi
            have hIv : IV wr3 (fun k => b12 < k ∧ k < wr3.heap.size) B3 i c3 (stI s r0).2 := by
              have h := hI.iv (P := fun k => b12 < k) (fun k hk => by omega)
              unfold stI
              rw [hii]
              exact Row.bd h
            have hR0 : RDX 92 wr3 g b12 A' n' c' (stI s r0).1 := by unfold stI; rw [hii]; exact hR
            have hH3 := hH2.keep hK hgN
            have hU3 := hUv.keep hK hgN
            clear hI hR hK hH2 hUv
            have hN3 : b12 < wr3.heap.size := hb12.lt
            generalize hBn3 : i = icnt at *
            have hn0 := rdUint_lo (stI s r0).1 1
            have hn255 := rdUint1_hi (stI s r0).1
            change 0 ≤ (stN s r0).2 at hn0
            change (stN s r0).2 ≤ 255 at hn255
            refine Wc.region ?_
            refine Wl.val rfl rfl rfl (Gives.move rfl rfl) ?_
            refine Wl.call rfl rfl rfl rfl Tryd.func41 rfl (by kernel_rfl) rfl (rUint_x _ g b12 A' n' c' _ 1 hR0) ?_
            rintro x1 w271 ⟨rfl, hR1, hF1⟩
            refine ⟨_, rfl, ?_⟩
            change RDX _ _ _ _ _ _ _ (stN s r0).1 at hR1
            replace hb2 := hb2.fr hF1 (by first | assumption | exact Ne.symm (by assumption))
            replace hb12 := hb12.fr hF1 (by first | assumption | exact Ne.symm (by assumption))
            replace hE := Ext.over hE hF1 hgg
            have hH4 := hH3.keep (g := g) (hF1.mono fun k hk => hk.1) hgN
            have hU4 := hU3.keep (g := g) (hF1.mono fun k hk => hk.1) hgN
            have hI4 := hIv.keep (g := g) (hF1.mono fun k hk => hk.1) hgN
            refine Wl.val rfl rfl rfl (Gives.assign rfl rfl) ?_
            refine Wl.nil ?_
            refine Wx.thenN (hK34 _ _ ?_)
            refine Wc.joinC (ι := Unit) [(2, _), (11, _), (12, _), (15, _)] (fun _ => []) (fun _ wJ => stR s r0 = (stN s r0).1 ∧ RDX 92 wJ g b12 A' n' c' (stN s r0).1 ∧ IV wJ (fun k => b12 < k ∧ k < wJ.heap.size) B hcnt c1 (stH s r0).2 ∧ AV wJ (fun k => b12 < k ∧ k < wJ.heap.size) B2 acnt c2 (stU s r0).2 ∧ IV wJ (fun k => b12 < k ∧ k < wJ.heap.size) B3 icnt c3 (stI s r0).2 ∧ Blk wJ b12 33 #[.int .i64 (startC l), .slice B hcnt c1, .slice B2 acnt c2, .slice B3 icnt c3, .slice none 0 0] ∧ Blk wJ b2 33 #[.int .i64 0, .slice none 0 0, .slice none 0 0, .slice none 0 0, .slice none 0 0] ∧ Ext w wJ) ?_ ?_ (.cons rfl (.cons rfl (.cons rfl (.cons rfl (.nil)))))
            · intro K35 hJ35
              refine Wc.seq (fun K36 hK36 => ?_)
              refine Wc.keep [(2, _), (9, _), (11, _), (12, _), (15, _)] (.cons rfl (.cons rfl (.cons rfl (.cons rfl (.cons rfl (.nil)))))) ?_
              refine Wc.region ?_
              refine Wl.val rfl rfl rfl (Gives.move rfl rfl) ?_
              refine Wl.val rfl rfl rfl (Gives.call rfl Tryd.func43 rfl (by kernel_rfl) rfl (rErr_x _ g b12 A' n' c' _ hR1)) ?_
              refine Wl.val rfl rfl rfl (Gives.eql rfl rfl rfl) ?_
              refine Wl.val rfl rfl rfl (Gives.move rfl rfl) ?_
              refine Wl.guard rfl rfl rfl (fun h97 => ?_) (fun h97 => ?_)
              · (first | replace h97 := of_decide_eq_true h97 | replace h97 := nd_true h97 | skip)
                refine Wl.val rfl rfl rfl (Gives.move rfl rfl) ?_
                refine Wl.val rfl rfl rfl (Gives.move rfl rfl) ?_
                refine Wl.val rfl rfl rfl (Gives.call rfl Tryd.func34 rfl (by kernel_rfl) rfl (counted_calls _ _ _ hn0 (by omega))) ?_
                refine Wl.val rfl rfl rfl (Gives.not rfl rfl) ?_
                refine Wl.val rfl rfl rfl (Gives.pickT rfl rfl rfl rfl) ?_
                refine Wl.nil ?_
                refine Wx.thenN (hK36 _ _ ?_)
                refine Wc.cond _ rfl (fun h102 => ?_) (fun h102 => ?_)
                · (first | replace h102 := of_decide_eq_true h102 | replace h102 := nd_true h102 | skip)
                  refine Wc.seq (fun K37 hK37 => ?_)
                  refine Wc.keep [(2, _)] (.cons rfl (.nil)) ?_
                  refine Wc.region ?_
                  refine Wl.val rfl rfl rfl (Gives.buildS (pl := [(0, 1), (1, 1), (2, 1), (3, 1), (4, 1)]) (zv := (.agg #[(.int .i64 0), (.slice none 0 0), (.slice none 0 0), (.slice none 0 0), (.slice none 0 0)])) rfl Tryd.underlying33 (by kernel_rfl) (by kernel_rfl) rfl rfl) ?_
                  refine Wl.acts rfl rfl (Does.stL 5 rfl rfl rfl hb2 (by kernel_rfl) rfl rfl rfl) ?_
                  rintro _ w29_1 ⟨hbn, hF29_1⟩
                  replace hb12 := hb12.fr hF29_1 (by first | assumption | exact Ne.symm (by assumption))
                  replace hE := Ext.over hE hF29_1 hg2
                  replace hb2 := hbn
                  clear hbn
                  refine Wl.val rfl rfl rfl (Gives.assign rfl rfl) ?_
                  refine Wl.nil ?_
                  refine Wx.thenN (hK37 _ _ ?_)
                  refine Wc.ret ?_
                  refine Wx.thenR ?_
                  refine Wx.ret [_, _] ⟨⟨_, rfl, res_blk hb2 Tryd.underlying33 rfl (by kernel_rfl)⟩, ⟨rfl, trivial⟩⟩ ?_
                  have h1 := early_n h97 (by simp at h102; exact h102)
                  exact ReqR.zero 1 (by rw [hdec]; exact decQ_zero (by rw [h1]; decide)) (by rw [hdec]; exact h1) hE
                · (first | replace h102 := of_decide_eq_false h102 | replace h102 := nd_false h102 | skip)
                  refine Wc.skip ?_
                  refine Wx.thenN ?_
                  refine hJ35 () _ _ (.cons rfl (.cons rfl (.cons rfl (.cons rfl (.nil))))) ⟨stR_ok (Or.inr (by simp at h102; exact h102)), hR1, hH4, hU4, hI4, hb12, hb2, hE⟩
              · (first | replace h97 := of_decide_eq_false h97 | replace h97 := nd_false h97 | skip)
                refine Wl.pass rfl rfl rfl ?_
                refine Wl.pass rfl rfl rfl ?_
                refine Wl.pass rfl rfl rfl ?_
                refine Wl.pass rfl rfl rfl ?_
                refine Wl.val rfl rfl rfl (Gives.pickF rfl rfl rfl rfl) ?_
                refine Wl.nil ?_
                refine Wx.thenN (hK36 _ _ ?_)
                refine Wc.condF rfl rfl ?_
                refine Wc.skip ?_
                refine Wx.thenN ?_
                refine hJ35 () _ _ (.cons rfl (.cons rfl (.cons rfl (.cons rfl (.nil))))) ⟨stR_ok (Or.inl h97), hR1, hH4, hU4, hI4, hb12, hb2, hE⟩
            intro _ wr4 hJ
            clear hb12 hb2 hE
            obtain ⟨hRR, hR0, hH4, hU4, hI4, hb12, hb2, hE⟩ := hJ
            refine Wc.seq (fun K38 hK38 => ?_)
            refine Wc.seq (fun K39 hK39 => ?_)
            refine Wc.keep [(2, _), (11, _), (12, _), (15, _)] (.cons rfl (.cons rfl (.cons rfl (.cons rfl (.nil))))) ?_
            have hRB : RDX 92 wr4 g b12 A' n' c' (stR s r0) := by rw [hRR]; exact hR0
            clear hR0
            have hN4 : b12 < wr4.heap.size := hb12.lt
            generalize hNw4 : wr4.heap.size = N4 at *
            have hK0 : Fr (fun k => k ≠ g ∧ k ≠ b12 ∧ k < N4) wr4 wr4 := Fr.refl _ _
            change Wc _ _ _ _ _ _
            generalize hcntN : (stN s r0).2 = nb at *
            have hcnt2 : (rdUint (stI s r0).1 1).2 = nb := hcntN
            rw [hcnt2]
            refine Wc.region ?_
            refine Wl.val rfl rfl rfl (Gives.move rfl rfl) ?_
            refine Wl.val rfl rfl rfl (Gives.move rfl rfl) ?_
            refine Wl.nil ?_
            refine Wx.thenN (hK39 _ _ ?_)
            refine Wc.block ?_
            refine Wc.keep [(2, _), (11, _), (12, _), (104, _), (105, _)] (.cons rfl (.cons rfl (.cons rfl (.cons rfl (.cons rfl (.nil)))))) ?_
            refine Wc.loopC (ι := Nat × Option Addr × Nat) [(2, _), (11, _), (12, _), (104, _)] (fun | (i, _, _) => [(105, .int .i64 (i : Int))]) (fun | (i, B4, c4), wr => i ≤ nb.toNat ∧ RDX 92 wr g b12 A' n' c' (blobU (stR s r0) 1024 i).1 ∧ OL wr (fun k => b12 < k) N4 B4 i c4 (blobU (stR s r0) 1024 i).2 ∧ Fr (fun k => k ≠ g ∧ k ≠ b12 ∧ k < N4) wr4 wr ∧ Blk wr b12 33 #[.int .i64 (startC l), .slice B hcnt c1, .slice B2 acnt c2, .slice B3 icnt c3, .slice B4 i c4] ∧ Blk wr b2 33 #[.int .i64 0, .slice none 0 0, .slice none 0 0, .slice none 0 0, .slice none 0 0] ∧ Ext w wr) (fun | (i, _, _) => nb.toNat - i) ((0, none, 0)) (.cons (by first | exact rfl | exact look_int rfl (by omega) | exact look_slice rfl (by omega)) (.cons rfl (.cons rfl (.cons rfl (.cons rfl (.nil)))))) (⟨Nat.zero_le _, hRB, OL.nil_ _ _ _, hK0, hb12, hb2, hE⟩) ?_
            intro ⟨i, B4, c4⟩ wr5 hJ KL4 hKL4
            clear hb12 hb2 hE hRB hK0
            obtain ⟨hi, hR, hL, hK, hb12, hb2, hE⟩ := hJ
            have hNs4 : N4 ≤ wr5.heap.size := by rw [← hNw4]; exact hK.size
            refine Wc.seq (fun K40 hK40 => ?_)
            refine Wc.keep [(2, _), (11, _), (12, _), (104, _), (105, _)] (.cons rfl (.cons rfl (.cons rfl (.cons rfl (.cons rfl (.nil)))))) ?_
            refine Wc.region ?_
            refine Wl.val rfl rfl rfl (Gives.lss rfl rfl rfl) ?_
            refine Wl.nil ?_
            refine Wx.thenN (hK40 _ _ ?_)
            refine Wc.seq (fun K41 hK41 => ?_)
            refine Wc.cond _ rfl (fun h106 => ?_) (fun h106 => ?_)
            · (first | replace h106 := of_decide_eq_true h106 | replace h106 := nd_true h106 | skip)
              refine Wc.skip ?_
              refine Wx.thenN (hK41 _ _ ?_)
              refine Wc.seq (fun K42 hK42 => ?_)
              refine Wc.block ?_
              refine Wc.keep [(2, _), (11, _), (12, _), (104, _), (105, _)] (.cons rfl (.cons rfl (.cons rfl (.cons rfl (.cons rfl (.nil)))))) ?_
              refine Wc.regionB (fun q => [1, 3].contains q) [g] (.read 0 (.read 1 (.read 2 (.call false 3 (.call false 4 .tail .none) .none)))) 5 (by kernel_rfl) (by kernel_rfl) (by kernel_rfl) ?_
              intro w32 hR32
              replace hb2 := hb2.ext hR32.ext
              replace hb12 := hb12.ext hR32.ext
              replace hE := hE.trans hR32.ext
              have hO32_2 : Old w32.heap.size [g] b2 := ⟨hb2.lt, ⟨by first | assumption | exact Ne.symm (by assumption), trivial⟩⟩
              have hO32_12 : Old w32.heap.size [g] b12 := ⟨hb12.lt, ⟨by first | assumption | exact Ne.symm (by assumption), trivial⟩⟩
              have hX := Ext.refl w32
              replace hR := hR.ext hR32.ext
              replace hL := hL.ext hR32.ext
              replace hK := hK.trans hR32.ext.fr
              have hs32 : N4 ≤ w32.heap.size := Nat.le_trans hNs4 hR32.ext.size
              refine RunE.read rfl rfl rfl rfl (fun wS _ => (Gives.fieldAt 4 rfl Tryd.underlying33 rfl (by kernel_rfl) rfl rfl)) ?_
              refine RunE.readM rfl rfl rfl rfl rfl (fun wS hS => (Gives.ldK rfl (by kernel_rfl) rfl ((hb12.ext hX).fr hS hO32_12) rfl)) ?_
              refine RunE.read rfl rfl rfl rfl (fun wS _ => (Gives.move rfl rfl)) ?_
              refine RunE.turnC rfl rfl rfl rfl rfl Tryd.func42 rfl (by kernel_rfl) rfl (rBlob_x _ g b12 A' n' c' _ 1024 hR) ?_ RunE.none
              rintro x1 w321 ⟨S1, m1, k1, rfl, hO1, hR1, hF1⟩
              refine ⟨_, rfl, ?_⟩
              refine ⟨hF1.mono (fun k h => h.2.1), ?_⟩
              replace hb2 := (hb2.ext hX).fr hF1 (by first | assumption | exact Ne.symm (by assumption))
              replace hb12 := (hb12.ext hX).fr hF1 (by first | assumption | exact Ne.symm (by assumption))
              replace hE := Ext.over (hE.trans hX) hF1 hgg
              replace hX := Ext.refl w321
              have hL1 := hL.fr hF1 (fun k hk => by omega) (fun k hk => by omega)
              have hK1 := hK.trans (hF1.mono (fun k hk => hk.1))
              have hs321 := hF1.size
              refine RunE.turn rfl rfl rfl rfl (Does.lit rfl Tryd.underlying31 infoL2 rfl rfl rfl rfl rfl) ?_ RunE.none
              rintro _ w322 ⟨g322, rfl, hs322, hk322, hx322⟩
              refine ⟨hx322.fr, ?_⟩
              replace hX := hX.trans hx322
              obtain ⟨vs1, ho1⟩ := hL.own
              have hC1 : BV w321 (fun k => b12 < k ∧ w32.heap.size ≤ k) S1 m1 k1 _ := hO1.bv (fun k hk => ⟨by omega, hk⟩)
              have hC2 : BV w322 (NOwn w322 (fun k => b12 < k) (.slice B4 i c4)) S1 m1 k1 _ := BV.nown (hC1.ext hx322) ho1 (Nat.le_refl _)
              have hs322b := hx322.size
              refine RunE.tail rfl ?_
              replace hb2 := hb2.ext hX
              replace hb12 := hb12.ext hX
              replace hE := hE.trans hX
              refine Wl.does rfl rfl rfl (Does.appL rfl rfl rfl (hL1.ext hx322) hk322 hC2 (by omega) (by omega)) ?_
              rintro _ w323 ⟨B', c5, rfl, hL2, hB323⟩
              replace hb2 := Blk.bel hb2 hB323 (by omega)
              replace hb12 := Blk.bel hb12 hB323 (by omega)
              replace hE := Ext.step hE hB323 (by omega)
              have hR2 := (hR1.ext hx322).fr (below_fr hB323) (fun k hk => by omega)
              have hK2 := (hK1.trans hx322.fr).trans ((below_fr hB323).mono (fun k hk => hk.2.2))
              refine Wl.val rfl rfl rfl (Gives.fieldAt 4 rfl Tryd.underlying33 rfl (by kernel_rfl) rfl rfl) ?_
              refine Wl.acts rfl rfl (Does.stC rfl rfl rfl hb12 (by kernel_rfl) (Nat.le_of_ble_eq_true rfl) rfl) ?_
              rintro _ w32_7 ⟨hbn, hF32_7⟩
              replace hb2 := hb2.fr hF32_7 (by first | assumption | exact Ne.symm (by assumption))
              replace hE := Ext.over hE hF32_7 hg12
              replace hb12 := hbn
              clear hbn
              (try simp only [List.setIfInBounds_toArray, List.set_cons_zero, List.set_cons_succ, Nat.reduceAdd, Nat.zero_add] at hb12)
              have hR3 := hR2.fr hF32_7 (fun k hk => by omega)
              have hL3 := hL2.fr hF32_7 (fun k hk => by omega) (fun k hk => by omega)
              have hK3 := hK2.trans (hF32_7.mono (fun k hk => hk.2.1))
              refine Wl.nil ?_
              refine Wx.blockN ?_
              refine Wx.thenN (hK42 _ _ ?_)
              refine Wc.keep [(2, _), (11, _), (12, _), (104, _), (105, _)] (.cons rfl (.cons rfl (.cons rfl (.cons rfl (.cons rfl (.nil)))))) ?_
              refine Wc.region ?_
              refine Wl.val rfl rfl rfl (Gives.add rfl rfl rfl (by first | exact IntWalk.i64_in _ (by omega) | exact u64_in _ (by omega) | exact u32_in _ (by omega) | exact u8_in _ (by omega) | exact rfl)) ?_
              refine Wl.val rfl rfl rfl (Gives.move rfl rfl) ?_
              refine Wl.nil ?_
              refine Wx.thenN ?_
              refine hKL4 (i + 1, B', c5) _ _ (.cons (by first | exact rfl | exact look_int rfl (by omega) | exact look_slice rfl (by omega)) (.cons rfl (.cons rfl (.cons rfl (.cons rfl (.nil)))))) ⟨by omega, hR3, hL3, hK3, hb12, hb2, hE⟩ (by show nb.toNat - (i + 1) < nb.toNat - i; omega)
            · (first | replace h106 := of_decide_eq_false h106 | replace h106 := nd_false h106 | skip)
              refine Wc.exit ?_
              refine Wx.thenE ?_
              refine Wx.thenE ?_
              refine Wx.hit ?_
              refine Wx.thenN (hK38 _ _ ?_)
              refine Wc.seq (fun K43 hK43 => ?_)
              refine Wc.seq (fun K44 hK44 => ?_)
              refine Wc.keep [(2, _), (11, _), (12, _)] (.cons rfl (.cons rfl (.cons rfl (.nil)))) ?_
              have hib : nb.toNat = i := by omega
              clear hi
              have hB5 : BL wr5 (fun k => b12 < k ∧ k < wr5.heap.size) B4 i c4 (stB s r0).2 := by
                have h := hL.bl (P := fun k => b12 < k) (fun k hk => by omega) (fun k hk => hk)
                unfold stB
                rw [hcntN, hib]
                exact h.bd
              have hRE : RDX 92 wr5 g b12 A' n' c' (stB s r0).1 := by unfold stB; rw [hcntN, hib]; exact hR
              have hH5 := hH4.keep hK hgN
              have hU5 := hU4.keep hK hgN
              have hI5 := hI4.keep hK hgN
              clear hL hR hK hH4 hU4 hI4
              refine Wc.region ?_
              refine Wl.val rfl rfl rfl (Gives.move rfl rfl) ?_
              refine Wl.call rfl rfl rfl rfl Tryd.func44 rfl (by kernel_rfl) rfl (rEnd_x _ g b12 A' n' c' _ hRE) ?_
              rintro x1 w341 ⟨rfl, hQ34⟩
              refine ⟨_, rfl, ?_⟩
              have hx34 := hQ34.ext
              replace hB5 := hB5.ext hx34
              replace hH5 := hH5.ext hx34
              replace hU5 := hU5.ext hx34
              replace hI5 := hI5.ext hx34
              replace hb2 := hb2.ext hx34
              replace hb12 := hb12.ext hx34
              replace hE := hE.trans hx34
              refine Wl.val rfl rfl rfl (Gives.assign rfl rfl) ?_
              refine Wl.nil ?_
              refine Wx.thenN (hK44 _ _ ?_)
              refine Wc.seq (fun K45 hK45 => ?_)
              refine Wc.keep [(2, _), (12, _), (16, _)] (.cons rfl (.cons rfl (.cons rfl (.nil)))) ?_
              refine Wc.region ?_
              refine Wl.val rfl rfl rfl (Gives.move rfl rfl) ?_
              refine Wl.val rfl rfl rfl (Gives.neq rfl rfl rfl) ?_
              refine Wl.nil ?_
              refine Wx.thenN (hK45 _ _ ?_)
              refine Wc.cond _ rfl (fun h118 => ?_) (fun h118 => ?_)
              · (first | replace h118 := of_decide_eq_true h118 | replace h118 := nd_true h118 | skip)
                refine Wc.seq (fun K46 hK46 => ?_)
                refine Wc.keep [(2, _), (16, _)] (.cons rfl (.cons rfl (.nil))) ?_
                refine Wc.region ?_
                refine Wl.val rfl rfl rfl (Gives.buildS (pl := [(0, 1), (1, 1), (2, 1), (3, 1), (4, 1)]) (zv := (.agg #[(.int .i64 0), (.slice none 0 0), (.slice none 0 0), (.slice none 0 0), (.slice none 0 0)])) rfl Tryd.underlying33 (by kernel_rfl) (by kernel_rfl) rfl rfl) ?_
                refine Wl.val rfl rfl rfl (Gives.move rfl rfl) ?_
                refine Wl.acts rfl rfl (Does.stL 5 rfl rfl rfl hb2 (by kernel_rfl) rfl rfl rfl) ?_
                rintro _ w36_2 ⟨hbn, hF36_2⟩
                replace hb12 := hb12.fr hF36_2 (by first | assumption | exact Ne.symm (by assumption))
                replace hE := Ext.over hE hF36_2 hg2
                replace hb2 := hbn
                clear hbn
                refine Wl.val rfl rfl rfl (Gives.assign rfl rfl) ?_
                refine Wl.nil ?_
                refine Wx.thenN (hK46 _ _ ?_)
                refine Wc.ret ?_
                refine Wx.thenR ?_
                refine Wx.ret [_, _] ⟨⟨_, rfl, res_blk hb2 Tryd.underlying33 rfl (by kernel_rfl)⟩, ⟨rfl, trivial⟩⟩ ?_
                have h1 : decE s r0 ≠ 0 := h118
                exact ReqR.zero (decE s r0) (by rw [hdec]; exact decQ_zero h1) (by rw [hdec]) hE
              · (first | replace h118 := of_decide_eq_false h118 | replace h118 := nd_false h118 | skip)
                refine Wc.skip ?_
                refine Wx.thenN (hK43 _ _ ?_)
                refine Wc.seq (fun K47 hK47 => ?_)
                refine Wc.keep [(2, _), (12, _)] (.cons rfl (.cons rfl (.nil))) ?_
                refine Wc.region ?_
                refine Wl.val rfl rfl rfl (Gives.ldW rfl (by kernel_rfl) rfl hb12 (by kernel_rfl)) ?_
                refine Wl.acts rfl rfl (Does.stL 5 rfl rfl rfl hb2 (by kernel_rfl) rfl rfl rfl) ?_
                rintro _ w37_1 ⟨hbn, hF37_1⟩
                replace hb12 := hb12.fr hF37_1 (by first | assumption | exact Ne.symm (by assumption))
                replace hE := Ext.over hE hF37_1 hg2
                replace hb2 := hbn
                clear hbn
                refine Wl.val rfl rfl rfl (Gives.assign rfl rfl) ?_
                refine Wl.nil ?_
                refine Wx.thenN (hK47 _ _ ?_)
                refine Wc.ret ?_
                refine Wx.ret [_, _] ⟨⟨_, rfl, res_blk hb2 Tryd.underlying33 rfl (by kernel_rfl)⟩, ⟨rfl, trivial⟩⟩ ?_
                have h1 : decE s r0 = 0 := h118
                have hq : decQ s r0 (startC l) = ⟨startC l, (stH s r0).2, (stU s r0).2, (stI s r0).2, (stB s r0).2⟩ := by unfold decQ; rw [if_pos h1]
                refine ⟨⟨B, hcnt, c1, B2, acnt, c2, B3, icnt, c3, B4, i, c4⟩, by rw [hdec, h1, hq]; rfl, ?_, hE⟩
                rw [hdec, hq]
                exact ⟨(hH5.fr (hF37_1.mono (fun k hk => by omega))).mono (fun _ _ => trivial), (hU5.fr (hF37_1.mono (fun k hk => by omega))).mono (fun _ _ => trivial), (hI5.fr (hF37_1.mono (fun k hk => by omega))).mono (fun _ _ => trivial), (hB5.fr (hF37_1.mono (fun k hk => by omega))).mono (fun _ _ => trivial)⟩
end Go.Proofs.YtaekpiejdgahfaaDoor
