/- Responses: reading, the program. -/
import Derived.Test.YtaekpiejdgahfaaDoorCmdR2
namespace Go.Proofs.YtaekpiejdgahfaaDoor
set_option linter.all false
open Go.RowKit
/-- what is handed back -/
def RspR (w : World) (x : Rsp) (er : Int) (e : Ending) (w' : World) : Prop :=
  ∃ r : RB, e = .returned (.tuple #[.agg #[.int .i64 x.err, .slice r.iA r.iN r.ic, .slice r.bA r.bn r.bc, .slice r.nA r.nn r.nc], .int .i64 er]) ∧ RspV w' (fun _ => True) x r ∧ Ext w w'
theorem RspR.zero {w w' : World} {l : List UInt8} (h : rspE l ≠ 0) (hE : Ext w w') : RspR w (rspQ l) (rspE l) (.returned (resV [.agg #[.int .i64 0, .slice none 0 0, .slice none 0 0, .slice none 0 0], .int .i64 (rspE l)])) w' :=
  ⟨RB.nil, by rw [rspQ_zero h]; rfl, by rw [rspQ_zero h]; exact RspV.zero _ _, hE⟩
theorem RspV.keep {w w' : World} {g b N : Nat} {x : Rsp} {r : RB} (h : RspV w (fun k => b < k ∧ k < N) x r) (f : Fr (fun k => k ≠ g ∧ k ≠ b ∧ k < N) w w') (hg : g < b) : RspV w' (fun k => b < k ∧ k < w'.heap.size) x r := ⟨h.is.keep f hg, h.bs.keep f hg, h.ns.keep f hg⟩
/-- the reader ahead of each list -/
def rsJ (l : List UInt8) (j : Nat) : Rd := if j = 0 then (rs3 l).1 else if j = 1 then (rs4 l).1 else (rs5 l).1
theorem rsJ0 (l : List UInt8) : rsJ l 0 = (rs3 l).1 := rfl
theorem rsJ2 (l : List UInt8) : rsJ l 2 = (rs5 l).1 := rfl
theorem rsJ_next (l : List UInt8) {j : Nat} (h : j < 2) : rsJ l (j + 1) = (listU (rsJ l j)).1 := by
  rcases (show j = 0 ∨ j = 1 by omega) with rfl | rfl <;> rfl
theorem get_set {cs : Array Value} {k : Nat} {v : Value} (h : k < cs.size) : (cs.setIfInBounds k v)[k]? = some v := by simp [h]
theorem infoPL : (Tryd.prog.info? 87).map (fun i => (i.zero, i.size)) = some (some (.pointer none), 1) := by kernel_rfl
set_option maxHeartbeats 2000000 in
set_option maxRecDepth 10000 in
theorem decRespP_calls {P : Nat → Prop} (w : World) (A : Option Addr) (n c : Nat) (l : List UInt8) (ha : BV w P A n c l) (hn : n ≤ 1000000) :
    Calls Tryd.prog 26 #[.slice A n c] w (RspR w (rspQ l) (rspE l)) := by
  have hl := ha.len
  refine calls_enter Tryd.func26 rfl Tryd.ntmps26 rfl ?_
  have hE : Ext w w := Ext.refl w
  refine Wc.seq (fun K1 hK1 => ?_)
  refine Wc.keep [(0, _)] (.cons rfl (.nil)) ?_
  refine Wc.region ?_
  refine Wl.does rfl rfl rfl (Does.alB (.agg #[(.int .i64 0), (.slice none 0 0), (.slice none 0 0), (.slice none 0 0)]) rfl (by kernel_rfl) rfl) ?_
  rintro _ w0_0 ⟨b2, rfl, hs2, hb2, hx0_0⟩
  have hg2 : w.heap.size ≤ b2 := Nat.le_trans hE.size hs2
  replace hE := hE.trans hx0_0
  refine Wl.val rfl rfl rfl (Gives.assign rfl rfl) ?_
  refine Wl.nil ?_
  refine Wx.thenN (hK1 _ _ ?_)
  refine Wc.seq (fun K2 hK2 => ?_)
  refine Wc.keep [(0, _), (2, _)] (.cons rfl (.cons rfl (.nil))) ?_
  refine Wc.region ?_
  refine Wl.val rfl rfl rfl (Gives.move rfl rfl) ?_
  refine Wl.call rfl rfl rfl rfl Tryd.func40 rfl (by kernel_rfl) rfl ((newP_rd _ _ _ _ l (ha.ext hE) (by omega)).mono fun _ _ h => NewRd.x h) ?_
  rintro x3 w13 ⟨g, A', n', c', rfl, hg, hR, hx3⟩
  refine ⟨_, rfl, ?_⟩
  have hgg : w.heap.size ≤ g := Nat.le_trans hE.size hg
  have hn2g : b2 ≠ g := hb2.ne hg
  have h2g : b2 < g := Nat.lt_of_lt_of_le hb2.lt hg
  replace hb2 := hb2.ext hx3
  replace hE := hE.trans hx3
  generalize hNr : w13.heap.size = N0 at hR
  refine Wl.val rfl rfl rfl (Gives.assign rfl rfl) ?_
  refine Wl.nil ?_
  refine Wx.thenN (hK2 _ _ ?_)
  refine Wc.seq (fun K3 hK3 => ?_)
  refine Wc.keep [(2, _), (4, _)] (.cons rfl (.cons rfl (.nil))) ?_
  refine Wc.region ?_
  refine Wl.val rfl rfl rfl (Gives.move rfl rfl) ?_
  refine Wl.call rfl rfl rfl rfl Tryd.func41 rfl (by kernel_rfl) rfl (rUint_x _ g N0 A' n' c' _ 1 hR) ?_
  rintro x4 w21 ⟨rfl, hR1, hF1⟩
  refine ⟨_, rfl, ?_⟩
  change RDX _ _ _ _ _ _ _ (rs1 l).1 at hR1
  replace hb2 := hb2.fr hF1 (by first | assumption | exact Ne.symm (by assumption))
  replace hE := Ext.over hE hF1 hgg
  have hcd : (rdUint ⟨l, 0, 0⟩ 1).2 = (rs1 l).2 := rfl
  rw [hcd]
  generalize he0 : (rs1 l).2 = e0 at *
  have hN0 : N0 ≤ w21.heap.size := by have := hF1.size; omega
  refine Wl.val rfl rfl rfl (Gives.buildS (pl := [(0, 1), (1, 1), (2, 1), (3, 1)]) (zv := (.agg #[(.int .i64 0), (.slice none 0 0), (.slice none 0 0), (.slice none 0 0)])) rfl Tryd.underlying54 (by kernel_rfl) (by kernel_rfl) rfl rfl) ?_
  refine Wl.does rfl rfl rfl (Does.alB (.agg #[(.int .i64 0), (.slice none 0 0), (.slice none 0 0), (.slice none 0 0)]) rfl (by kernel_rfl) rfl) ?_
  rintro _ w2_3 ⟨b5, rfl, hs5, hb5, hx2_3⟩
  have hn2_5 : b2 ≠ b5 := hb2.ne hs5
  have hg5 : w.heap.size ≤ b5 := Nat.le_trans hE.size hs5
  replace hb2 := hb2.ext hx2_3
  replace hE := hE.trans hx2_3
  refine Wl.acts rfl rfl (Does.stL 4 rfl rfl rfl hb5 (by kernel_rfl) rfl rfl rfl) ?_
  rintro _ w2_4 ⟨hbn, hF2_4⟩
  replace hb2 := hb2.fr hF2_4 (by first | assumption | exact Ne.symm (by assumption))
  replace hE := Ext.over hE hF2_4 hg5
  replace hb5 := hbn
  clear hbn
  have hR2 := ((hR1.ext hx2_3).fr hF2_4 (fun k hk => by omega)).up (show N0 ≤ b5 by omega)
  have hgN : g < b5 := hR2.lt
  have hn5g : b5 ≠ g := by omega
  refine Wl.nil ?_
  refine Wx.thenN (hK3 _ _ ?_)
  refine Wc.joinC (ι := RB) [(2, _), (4, _), (5, _)] (fun _ => []) (fun rb wr => RDX 92 wr g b5 A' n' c' (rsF l) ∧ RspV wr (fun k => b5 < k ∧ k < wr.heap.size) (rsX l) rb ∧ Blk wr b5 54 #[.int .i64 (rsX l).err, .slice rb.iA rb.iN rb.ic, .slice rb.bA rb.bn rb.bc, .slice rb.nA rb.nn rb.nc] ∧ Blk wr b2 54 #[.int .i64 0, .slice none 0 0, .slice none 0 0, .slice none 0 0] ∧ Ext w wr) ?_ ?_ (.cons rfl (.cons rfl (.cons rfl (.nil))))
  · intro K4 hJ4
    refine Wc.seq (fun K5 hK5 => ?_)
    refine Wc.keep [(2, _), (4, _), (5, _)] (.cons rfl (.cons rfl (.cons rfl (.nil)))) ?_
    refine Wc.region ?_
    refine Wl.val rfl rfl rfl (Gives.fieldAt 0 rfl Tryd.underlying54 rfl (by kernel_rfl) rfl rfl) ?_
    refine Wl.val rfl rfl rfl (Gives.ldK rfl (by kernel_rfl) rfl hb5 rfl) ?_
    refine Wl.val rfl rfl rfl (Gives.eql rfl rfl rfl) ?_
    refine Wl.nil ?_
    refine Wx.thenN (hK5 _ _ ?_)
    refine Wc.cond _ rfl (fun h16 => ?_) (fun h16 => ?_)
    · (first | replace h16 := of_decide_eq_true h16 | replace h16 := nd_true h16 | skip)
      refine Wc.seq (fun K6 hK6 => ?_)
      refine Wc.seq (fun K7 hK7 => ?_)
      refine Wc.keep [(2, _), (4, _), (5, _)] (.cons rfl (.cons rfl (.cons rfl (.nil)))) ?_
      refine Wc.region ?_
      refine Wl.val rfl rfl rfl (Gives.move rfl rfl) ?_
      refine Wl.call rfl rfl rfl rfl Tryd.func41 rfl (by kernel_rfl) rfl (rUint_x _ g b5 A' n' c' _ 1 hR2) ?_
      rintro x5 w41 ⟨rfl, hR3, hF2⟩
      refine ⟨_, rfl, ?_⟩
      change RDX _ _ _ _ _ _ _ (rs2 l).1 at hR3
      have hn0 := rdUint_lo (rs1 l).1 1
      have hn255 := rdUint1_hi (rs1 l).1
      change 0 ≤ (rs2 l).2 at hn0
      change (rs2 l).2 ≤ 255 at hn255
      have hcd2 : (rdUint (rs1 l).1 1).2 = (rs2 l).2 := rfl
      rw [hcd2]
      generalize hcnt : (rs2 l).2 = ni at *
      replace hb2 := hb2.fr hF2 (by first | assumption | exact Ne.symm (by assumption))
      replace hb5 := hb5.fr hF2 (by first | assumption | exact Ne.symm (by assumption))
      replace hE := Ext.over hE hF2 hgg
      refine Wl.val rfl rfl rfl (Gives.move rfl rfl) ?_
      refine Wl.nil ?_
      refine Wx.thenN (hK7 _ _ ?_)
      refine Wc.block ?_
      refine Wc.keep [(2, _), (4, _), (5, _), (18, _), (19, _)] (.cons rfl (.cons rfl (.cons rfl (.cons rfl (.cons rfl (.nil)))))) ?_
      refine Wc.loopC (ι := Nat × Option Addr × Nat) [(2, _), (4, _), (5, _), (18, _)] (fun | (i, _, _) => [(19, .int .i64 (i : Int))]) (fun | (i, B, c1), wr => i ≤ ni.toNat ∧ RDX 92 wr g b5 A' n' c' (numU (rs2 l).1 i).1 ∧ OI wr (b5 + 1) B i c1 (numU (rs2 l).1 i).2 ∧ Blk wr b5 54 (#[.int .i64 e0, .slice B i c1, .slice none 0 0, .slice none 0 0] : Array Value) ∧ Blk wr b2 54 #[.int .i64 0, .slice none 0 0, .slice none 0 0, .slice none 0 0] ∧ Ext w wr) (fun | (i, _, _) => ni.toNat - i) ((0, none, 0)) (.cons (by first | exact rfl | exact look_int rfl (by omega) | exact look_slice rfl (by omega)) (.cons rfl (.cons rfl (.cons rfl (.cons rfl (.nil)))))) (⟨Nat.zero_le _, hR3, OI.nil_ _ _, hb5, hb2, hE⟩) ?_
      intro ⟨i, B, c1⟩ wr1 hJ KL1 hKL1
      clear hb5 hb2 hE hR2
      obtain ⟨hi, hR, hI, hb5, hb2, hE⟩ := hJ
      refine Wc.seq (fun K8 hK8 => ?_)
      refine Wc.keep [(2, _), (4, _), (5, _), (18, _), (19, _)] (.cons rfl (.cons rfl (.cons rfl (.cons rfl (.cons rfl (.nil)))))) ?_
      refine Wc.region ?_
      refine Wl.val rfl rfl rfl (Gives.lss rfl rfl rfl) ?_
      refine Wl.nil ?_
      refine Wx.thenN (hK8 _ _ ?_)
      refine Wc.seq (fun K9 hK9 => ?_)
      refine Wc.cond _ rfl (fun h20 => ?_) (fun h20 => ?_)
      · (first | replace h20 := of_decide_eq_true h20 | replace h20 := nd_true h20 | skip)
        refine Wc.skip ?_
        refine Wx.thenN (hK9 _ _ ?_)
        refine Wc.seq (fun K10 hK10 => ?_)
        refine Wc.block ?_
        refine Wc.keep [(2, _), (4, _), (5, _), (18, _), (19, _)] (.cons rfl (.cons rfl (.cons rfl (.cons rfl (.cons rfl (.nil)))))) ?_
        refine Wc.regionB (fun q => [1, 3].contains q) [g] (.read 0 (.read 1 (.read 2 (.call false 3 (.call false 4 .tail .none) .none)))) 5 (by kernel_rfl) (by kernel_rfl) (by kernel_rfl) ?_
        intro w6 hR6
        replace hb2 := hb2.ext hR6.ext
        replace hb5 := hb5.ext hR6.ext
        replace hE := hE.trans hR6.ext
        have hO6_2 : Old w6.heap.size [g] b2 := ⟨hb2.lt, ⟨by first | assumption | exact Ne.symm (by assumption), trivial⟩⟩
        have hO6_5 : Old w6.heap.size [g] b5 := ⟨hb5.lt, ⟨by first | assumption | exact Ne.symm (by assumption), trivial⟩⟩
        have hX := Ext.refl w6
        replace hR := hR.ext hR6.ext
        replace hI := hI.ext hR6.ext
        refine RunE.read rfl rfl rfl rfl (fun wS _ => (Gives.fieldAt 1 rfl Tryd.underlying54 rfl (by kernel_rfl) rfl rfl)) ?_
        refine RunE.readM rfl rfl rfl rfl rfl (fun wS hS => (Gives.ldK rfl (by kernel_rfl) rfl ((hb5.ext hX).fr hS hO6_5) rfl)) ?_
        refine RunE.read rfl rfl rfl rfl (fun wS _ => (Gives.move rfl rfl)) ?_
        refine RunE.turnC rfl rfl rfl rfl rfl Tryd.func41 rfl (by kernel_rfl) rfl (rUint_x _ g b5 A' n' c' _ 8 hR) ?_ RunE.none
        rintro x1 w111 ⟨rfl, hR1, hF1⟩
        refine ⟨_, rfl, ?_⟩
        refine ⟨hF1.mono (fun k h => h.2.1), ?_⟩
        replace hb2 := (hb2.ext hX).fr hF1 (by first | assumption | exact Ne.symm (by assumption))
        replace hb5 := (hb5.ext hX).fr hF1 (by first | assumption | exact Ne.symm (by assumption))
        replace hE := Ext.over (hE.trans hX) hF1 hgg
        replace hX := Ext.refl w111
        have hI1 := hI.fr hF1 (fun k hk => by omega)
        refine RunE.turn rfl rfl rfl rfl (Does.lit rfl Tryd.underlying29 infoI2 rfl rfl rfl rfl rfl) ?_ RunE.none
        rintro _ w112 ⟨g112, rfl, hs112, hk112, hx112⟩
        refine ⟨hx112.fr, ?_⟩
        replace hX := hX.trans hx112
        refine RunE.tail rfl ?_
        replace hb2 := hb2.ext hX
        replace hb5 := hb5.ext hX
        replace hE := hE.trans hX
        refine Wl.does rfl rfl rfl (Does.appI rfl rfl rfl (hI1.ext hx112) hk112 (by omega) hb5.lt) ?_
        rintro _ w113 ⟨B', c2, rfl, hI2, hB113⟩
        replace hb2 := Blk.bel hb2 hB113 (by omega)
        replace hb5 := Blk.bel hb5 hB113 (by omega)
        replace hE := Ext.step hE hB113 (by omega)
        have hR2 := (hR1.ext hx112).fr (below_fr hB113) (fun k hk => by omega)
        refine Wl.val rfl rfl rfl (Gives.fieldAt 1 rfl Tryd.underlying54 rfl (by kernel_rfl) rfl rfl) ?_
        refine Wl.acts rfl rfl (Does.stC rfl rfl rfl hb5 (by kernel_rfl) (Nat.le_of_ble_eq_true rfl) rfl) ?_
        rintro _ w6_7 ⟨hbn, hF6_7⟩
        replace hb2 := hb2.fr hF6_7 (by first | assumption | exact Ne.symm (by assumption))
        replace hE := Ext.over hE hF6_7 hg5
        replace hb5 := hbn
        clear hbn
        (try simp only [List.setIfInBounds_toArray, List.set_cons_zero, List.set_cons_succ, Nat.reduceAdd, Nat.zero_add] at hb5)
        replace hR2 := hR2.fr hF6_7 (fun k hk => by omega)
        replace hI2 := hI2.fr hF6_7 (fun k hk => by omega)
        refine Wl.nil ?_
        refine Wx.blockN ?_
        refine Wx.thenN (hK10 _ _ ?_)
        refine Wc.keep [(2, _), (4, _), (5, _), (18, _), (19, _)] (.cons rfl (.cons rfl (.cons rfl (.cons rfl (.cons rfl (.nil)))))) ?_
        refine Wc.region ?_
        refine Wl.val rfl rfl rfl (Gives.add rfl rfl rfl (by first | exact IntWalk.i64_in _ (by omega) | exact u64_in _ (by omega) | exact u32_in _ (by omega) | exact u8_in _ (by omega) | exact rfl)) ?_
        refine Wl.val rfl rfl rfl (Gives.move rfl rfl) ?_
        refine Wl.nil ?_
        refine Wx.thenN ?_
        refine hKL1 (i + 1, B', c2) _ _ (.cons (by first | exact rfl | exact look_int rfl (by omega) | exact look_slice rfl (by omega)) (.cons rfl (.cons rfl (.cons rfl (.cons rfl (.nil)))))) ⟨by omega, hR2, hI2, hb5, hb2, hE⟩ (by show ni.toNat - (i + 1) < ni.toNat - i; omega)
      · (first | replace h20 := of_decide_eq_false h20 | replace h20 := nd_false h20 | skip)
        refine Wc.exit ?_
        refine Wx.thenE ?_
        refine Wx.thenE ?_
        refine Wx.hit ?_
        refine Wx.thenN (hK6 _ _ ?_)
        refine Wc.seq (fun K11 hK11 => ?_)
        refine Wc.keep [(2, _), (4, _), (5, _)] (.cons rfl (.cons rfl (.cons rfl (.nil)))) ?_
        have hih : ni.toNat = i := by omega
        clear hi
        have hH : IV wr1 (fun k => b5 < k ∧ k < wr1.heap.size) B i c1 (rs3 l).2 := by
          have h := hI.iv (P := fun k => b5 < k) (fun k hk => hk)
          unfold rs3
          rw [hcnt, hih]
          exact Row.bd h
        have hR0 : RDX 92 wr1 g b5 A' n' c' (rsJ l 0) := by rw [rsJ0]; unfold rs3; rw [hcnt, hih]; exact hR
        clear hI hR
        generalize hBn : i = icnt at *
        refine Wc.region ?_
        refine Wl.val rfl rfl rfl (Gives.fieldAt 2 rfl Tryd.underlying54 rfl (by kernel_rfl) rfl rfl) ?_
        refine Wl.val rfl rfl rfl (Gives.fieldAt 3 rfl Tryd.underlying54 rfl (by kernel_rfl) rfl rfl) ?_
        refine Wl.does rfl rfl rfl (Does.lit rfl Tryd.underlying88 infoPL rfl rfl rfl rfl rfl) ?_
        rintro _ w82 ⟨b31, rfl, hs31, hb31, hx82⟩
        have hlt5 : b5 < wr1.heap.size := hb5.lt
        have hn5_31 : b5 ≠ b31 := hb5.ne hs31
        have hn2_31 : b2 ≠ b31 := hb2.ne hs31
        have hR0' := hR0.ext hx82
        have hH2 : IV w82 (fun k => b5 < k ∧ k < w82.heap.size) B icnt c1 (rs3 l).2 := (hH.ext hx82).mono (fun k hk => ⟨hk.1, by have := hx82.size; omega⟩)
        replace hb2 := hb2.ext hx82
        replace hb5 := hb5.ext hx82
        replace hE := hE.trans hx82
        have hn31g : b31 ≠ g := by omega
        refine Wl.val rfl rfl rfl (Gives.lenS rfl Tryd.underlying88 rfl) ?_
        refine Wl.val rfl rfl rfl (Gives.move rfl rfl) ?_
        refine Wl.nil ?_
        refine Wx.thenN (hK11 _ _ ?_)
        refine Wc.block ?_
        refine Wc.keep [(2, _), (4, _), (5, _), (31, _), (32, _), (33, _)] (.cons rfl (.cons rfl (.cons rfl (.cons rfl (.cons rfl (.cons rfl (.nil))))))) ?_
        refine Wc.loopC (ι := Nat × (Option Addr × Nat × Nat) × (Option Addr × Nat × Nat)) [(2, _), (4, _), (5, _), (31, _), (32, _)] (fun | (j, _, _) => [(33, .int .i64 (j : Int))]) (fun | (j, (B2, n2, c2), (B3, n3, c3)), wr => j ≤ 2 ∧ RDX 92 wr g b5 A' n' c' (rsJ l j) ∧ RspV wr (fun k => b5 < k ∧ k < wr.heap.size) ⟨e0, (rs3 l).2, if 1 ≤ j then (rs4 l).2 else [], if 2 ≤ j then (rs5 l).2 else []⟩ ⟨B, icnt, c1, B2, n2, c2, B3, n3, c3⟩ ∧ (j = 0 → (B2, n2, c2) = (none, 0, 0)) ∧ (j ≤ 1 → (B3, n3, c3) = (none, 0, 0)) ∧ Blk wr b5 54 (#[.int .i64 e0, .slice B icnt c1, .slice B2 n2 c2, .slice B3 n3 c3] : Array Value) ∧ Blk wr b31 87 #[.pointer (some ⟨b5, 0 + 2, none⟩), .pointer (some ⟨b5, 0 + 3, none⟩)] ∧ Blk wr b2 54 #[.int .i64 0, .slice none 0 0, .slice none 0 0, .slice none 0 0] ∧ Ext w wr) (fun | (j, _, _) => 2 - j) ((0, (none, 0, 0), (none, 0, 0))) (.cons (by first | exact rfl | exact look_int rfl (by omega) | exact look_slice rfl (by omega)) (.cons rfl (.cons rfl (.cons rfl (.cons rfl (.cons rfl (.nil))))))) (⟨by omega, hR0', ⟨hH2, BL.nil_ _ _, BL.nil_ _ _⟩, fun _ => rfl, fun _ => rfl, hb5, hb31, hb2, hE⟩) ?_
        intro ⟨j, ⟨B2, n2, c2⟩, ⟨B3, n3, c3⟩⟩ wr2 hJ KL2 hKL2
        clear hb5 hb2 hb31 hE hR0' hH2
        obtain ⟨hj, hR, hV, hj0, hj1, hb5, hb31, hb2, hE⟩ := hJ
        refine Wc.seq (fun K12 hK12 => ?_)
        refine Wc.keep [(2, _), (4, _), (5, _), (31, _), (32, _), (33, _)] (.cons rfl (.cons rfl (.cons rfl (.cons rfl (.cons rfl (.cons rfl (.nil))))))) ?_
        refine Wc.region ?_
        refine Wl.val rfl rfl rfl (Gives.lss rfl rfl rfl) ?_
        refine Wl.nil ?_
        refine Wx.thenN (hK12 _ _ ?_)
        refine Wc.seq (fun K13 hK13 => ?_)
        refine Wc.cond _ rfl (fun h34 => ?_) (fun h34 => ?_)
        · (first | replace h34 := of_decide_eq_true h34 | replace h34 := nd_true h34 | skip)
          refine Wc.skip ?_
          refine Wx.thenN (hK13 _ _ ?_)
          refine Wc.seq (fun K14 hK14 => ?_)
          refine Wc.block ?_
          refine Wc.seq (fun K15 hK15 => ?_)
          refine Wc.keep [(2, _), (4, _), (5, _), (31, _), (32, _), (33, _)] (.cons rfl (.cons rfl (.cons rfl (.cons rfl (.cons rfl (.cons rfl (.nil))))))) ?_
          have hcell : wr2.cell? ⟨b31, 0 + j, none⟩ = some (.pointer (some ⟨b5, 2 + j, none⟩)) := by
            rcases (show j = 0 ∨ j = 1 by omega) with rfl | rfl <;> exact (hb31.cell _).trans rfl
          have hcs : (#[.int .i64 e0, .slice B icnt c1, .slice B2 n2 c2, .slice B3 n3 c3] : Array Value) = ((#[.int .i64 e0, .slice B icnt c1, .slice B2 n2 c2, .slice B3 n3 c3] : Array Value)).setIfInBounds (2 + j) (.slice none 0 0) := by
            rcases (show j = 0 ∨ j = 1 by omega) with rfl | rfl
            · have := hj0 rfl
              simp only [Prod.mk.injEq] at this
              obtain ⟨rfl, rfl, rfl⟩ := this
              rfl
            · have := hj1 (by omega)
              simp only [Prod.mk.injEq] at this
              obtain ⟨rfl, rfl, rfl⟩ := this
              rfl
          refine Wc.region ?_
          refine Wl.val rfl rfl rfl (Gives.ixS (i := _) rfl Tryd.underlying88 (by kernel_rfl) rfl rfl rfl (by omega)) ?_
          refine Wl.val rfl rfl rfl (Gives.ldC rfl (by kernel_rfl) rfl hcell) ?_
          refine Wl.val rfl rfl rfl (Gives.assign rfl rfl) ?_
          refine Wl.nil ?_
          refine Wx.thenN (hK15 _ _ ?_)
          refine Wc.seq (fun K16 hK16 => ?_)
          refine Wc.keep [(2, _), (4, _), (5, _), (7, _), (31, _), (32, _), (33, _)] (.cons rfl (.cons rfl (.cons rfl (.cons rfl (.cons rfl (.cons rfl (.cons rfl (.nil)))))))) ?_
          refine Wc.region ?_
          refine Wl.val rfl rfl rfl (Gives.move rfl rfl) ?_
          refine Wl.call rfl rfl rfl rfl Tryd.func41 rfl (by kernel_rfl) rfl (rUint_x _ g b5 A' n' c' _ 1 hR) ?_
          rintro x6 w111 ⟨rfl, hR1, hF3⟩
          refine ⟨_, rfl, ?_⟩
          have hV1 := hV.keep (g := g) (hF3.mono fun k hk => hk.1) hgN
          have hm0 := rdUint_lo (rsJ l j) 1
          have hm255 := rdUint1_hi (rsJ l j)
          replace hb2 := hb2.fr hF3 (by first | assumption | exact Ne.symm (by assumption))
          replace hb5 := hb5.fr hF3 (by first | assumption | exact Ne.symm (by assumption))
          replace hb31 := hb31.fr hF3 (by first | assumption | exact Ne.symm (by assumption))
          replace hE := Ext.over hE hF3 hgg
          refine Wl.val rfl rfl rfl (Gives.move rfl rfl) ?_
          rw [hcs] at hb5
          generalize hcsq : (#[.int .i64 e0, .slice B icnt c1, .slice B2 n2 c2, .slice B3 n3 c3] : Array Value) = cs at *
          have hcsz : cs.size = 4 := by rw [← hcsq]; rfl
          have hN4 : b5 < w111.heap.size := hb5.lt
          have hN31 : b31 < w111.heap.size := hb31.lt
          generalize hNw4 : w111.heap.size = N4 at *
          have hK0 : Fr (fun k => k ≠ g ∧ k ≠ b5 ∧ k < N4) w111 w111 := Fr.refl _ _
          generalize hnb : (rdUint (rsJ l j) 1).2 = nb at *
          refine Wl.nil ?_
          refine Wx.thenN (hK16 _ _ ?_)
          refine Wc.block ?_
          refine Wc.keep [(2, _), (4, _), (5, _), (7, _), (31, _), (32, _), (33, _), (38, _), (39, _)] (.cons rfl (.cons rfl (.cons rfl (.cons rfl (.cons rfl (.cons rfl (.cons rfl (.cons rfl (.cons rfl (.nil)))))))))) ?_
          refine Wc.loopC (ι := Nat × Option Addr × Nat) [(2, _), (4, _), (5, _), (7, _), (31, _), (32, _), (33, _), (38, _)] (fun | (i, _, _) => [(39, .int .i64 (i : Int))]) (fun | (i, B4, c4), wr => i ≤ nb.toNat ∧ RDX 92 wr g b5 A' n' c' (blobU (rdUint (rsJ l j) 1).1 1024 i).1 ∧ OL wr (fun k => b5 < k) N4 B4 i c4 (blobU (rdUint (rsJ l j) 1).1 1024 i).2 ∧ Fr (fun k => k ≠ g ∧ k ≠ b5 ∧ k < N4) w111 wr ∧ Blk wr b5 54 (cs.setIfInBounds (2 + j) (.slice B4 i c4)) ∧ Blk wr b31 87 #[.pointer (some ⟨b5, 0 + 2, none⟩), .pointer (some ⟨b5, 0 + 3, none⟩)] ∧ Blk wr b2 54 #[.int .i64 0, .slice none 0 0, .slice none 0 0, .slice none 0 0] ∧ Ext w wr) (fun | (i, _, _) => nb.toNat - i) ((0, none, 0)) (.cons (by first | exact rfl | exact look_int rfl (by omega) | exact look_slice rfl (by omega)) (.cons rfl (.cons rfl (.cons rfl (.cons rfl (.cons rfl (.cons rfl (.cons rfl (.cons rfl (.nil)))))))))) (⟨Nat.zero_le _, hR1, OL.nil_ _ _ _, hK0, hb5, hb31, hb2, hE⟩) ?_
          intro ⟨i, B4, c4⟩ wr5 hJ KL3 hKL3
          clear hb5 hb2 hb31 hE hK0
          obtain ⟨hi, hR, hL, hK, hb5, hb31, hb2, hE⟩ := hJ
          have hNs4 : N4 ≤ wr5.heap.size := by rw [← hNw4]; exact hK.size
          refine Wc.seq (fun K17 hK17 => ?_)
          refine Wc.keep [(2, _), (4, _), (5, _), (7, _), (31, _), (32, _), (33, _), (38, _), (39, _)] (.cons rfl (.cons rfl (.cons rfl (.cons rfl (.cons rfl (.cons rfl (.cons rfl (.cons rfl (.cons rfl (.nil)))))))))) ?_
          refine Wc.region ?_
          refine Wl.val rfl rfl rfl (Gives.lss rfl rfl rfl) ?_
          refine Wl.nil ?_
          refine Wx.thenN (hK17 _ _ ?_)
          refine Wc.seq (fun K18 hK18 => ?_)
          refine Wc.cond _ rfl (fun h40 => ?_) (fun h40 => ?_)
          · (first | replace h40 := of_decide_eq_true h40 | replace h40 := nd_true h40 | skip)
            refine Wc.skip ?_
            refine Wx.thenN (hK18 _ _ ?_)
            refine Wc.seq (fun K19 hK19 => ?_)
            refine Wc.block ?_
            refine Wc.keep [(2, _), (4, _), (5, _), (7, _), (31, _), (32, _), (33, _), (38, _), (39, _)] (.cons rfl (.cons rfl (.cons rfl (.cons rfl (.cons rfl (.cons rfl (.cons rfl (.cons rfl (.cons rfl (.nil)))))))))) ?_
            refine Wc.regionB (fun q => [3, 5].contains q) [g] (.read 0 (.read 1 (.read 2 (.read 3 (.read 4 (.call false 5 (.call false 6 (.call true 7 .tail .none) .none) .none)))))) 8 (by kernel_rfl) (by kernel_rfl) (by kernel_rfl) ?_
            intro w13 hR13
            replace hb2 := hb2.ext hR13.ext
            replace hb5 := hb5.ext hR13.ext
            replace hb31 := hb31.ext hR13.ext
            replace hE := hE.trans hR13.ext
            have hO13_2 : Old w13.heap.size [g] b2 := ⟨hb2.lt, ⟨by first | assumption | exact Ne.symm (by assumption), trivial⟩⟩
            have hO13_5 : Old w13.heap.size [g] b5 := ⟨hb5.lt, ⟨by first | assumption | exact Ne.symm (by assumption), trivial⟩⟩
            have hO13_31 : Old w13.heap.size [g] b31 := ⟨hb31.lt, ⟨by first | assumption | exact Ne.symm (by assumption), trivial⟩⟩
            have hX := Ext.refl w13
            replace hR := hR.ext hR13.ext
            replace hL := hL.ext hR13.ext
            replace hK := hK.trans hR13.ext.fr
            have hs32 : N4 ≤ w13.heap.size := Nat.le_trans hNs4 hR13.ext.size
            refine RunE.read rfl rfl rfl rfl (fun wS _ => (Gives.move rfl rfl)) ?_
            refine RunE.read rfl rfl rfl rfl (fun wS _ => (Gives.move rfl rfl)) ?_
            refine RunE.read rfl rfl rfl rfl (fun wS _ => (Gives.nilCheck rfl rfl)) ?_
            refine RunE.readM rfl rfl rfl rfl rfl (fun wS hS => (Gives.ldC rfl (by kernel_rfl) rfl ((((hb5.ext hX).fr hS hO13_5).cell _).trans (get_set (by omega))))) ?_
            refine RunE.read rfl rfl rfl rfl (fun wS _ => (Gives.move rfl rfl)) ?_
            refine RunE.turnC rfl rfl rfl rfl rfl Tryd.func42 rfl (by kernel_rfl) rfl (rBlob_x _ g b5 A' n' c' _ 1024 hR) ?_ RunE.none
            rintro x1 w321 ⟨S1, m1, k1, rfl, hO1, hR1, hF1⟩
            refine ⟨_, rfl, ?_⟩
            refine ⟨hF1.mono (fun k h => h.2.1), ?_⟩
            replace hb2 := (hb2.ext hX).fr hF1 (by first | assumption | exact Ne.symm (by assumption))
            replace hb5 := (hb5.ext hX).fr hF1 (by first | assumption | exact Ne.symm (by assumption))
            replace hb31 := (hb31.ext hX).fr hF1 (by first | assumption | exact Ne.symm (by assumption))
            replace hE := Ext.over (hE.trans hX) hF1 hgg
            replace hX := Ext.refl w321
            have hL1 := hL.fr hF1 (fun k hk => by omega) (fun k hk => by omega)
            have hK1 := hK.trans (hF1.mono (fun k hk => hk.1))
            have hs321 := hF1.size
            refine RunE.turn rfl rfl rfl rfl (Does.lit rfl Tryd.underlying31 infoL2 rfl rfl rfl rfl rfl) ?_ RunE.none
            rintro _ w322 ⟨g322, rfl, hs322, hk322, hx322⟩
            refine ⟨hx322.fr, ?_⟩
            replace hX := hX.trans hx322
            obtain ⟨vs1, ho1⟩ := hL.own
            have hC1 : BV w321 (fun k => b5 < k ∧ w13.heap.size ≤ k) S1 m1 k1 _ := hO1.bv (fun k hk => ⟨by omega, hk⟩)
            have hC2 : BV w322 (NOwn w322 (fun k => b5 < k) (.slice B4 i c4)) S1 m1 k1 _ := BV.nown (hC1.ext hx322) ho1 (Nat.le_refl _)
            have hs322b := hx322.size
            refine RunE.free rfl rfl rfl rfl (Does.appL rfl rfl rfl (hL1.ext hx322) hk322 hC2 (by omega) (by omega)) ?_ RunE.none
            rintro _ w323 ⟨B', c5, rfl, hL2, hB323⟩
            replace hb2 := Blk.bel (hb2.ext hX) hB323 (by omega)
            replace hb5 := Blk.bel (hb5.ext hX) hB323 (by omega)
            replace hb31 := Blk.bel (hb31.ext hX) hB323 (by omega)
            replace hE := Ext.step (hE.trans hX) hB323 (by omega)
            replace hX := Ext.refl w323
            have hR2 := (hR1.ext hx322).fr (below_fr hB323) (fun k hk => by omega)
            have hK2 := (hK1.trans hx322.fr).trans ((below_fr hB323).mono (fun k hk => hk.2.2))
            refine RunE.tail rfl ?_
            replace hb2 := hb2.ext hX
            replace hb5 := hb5.ext hX
            replace hb31 := hb31.ext hX
            replace hE := hE.trans hX
            refine Wl.val rfl rfl rfl (Gives.nilCheck rfl rfl) ?_
            refine Wl.acts rfl rfl (Does.stC (i := 2 + j) rfl rfl rfl hb5 (by kernel_rfl) (by simp [hcsz]; omega) rfl) ?_
            rintro _ w139 ⟨hbn, hF13_9⟩
            replace hb2 := hb2.fr hF13_9 (by first | assumption | exact Ne.symm (by assumption))
            replace hb31 := hb31.fr hF13_9 (by first | assumption | exact Ne.symm (by assumption))
            replace hE := Ext.over hE hF13_9 hg5
            replace hb5 := hbn
            rw [Array.setIfInBounds_setIfInBounds] at hb5
            have hR3 := hR2.fr hF13_9 (fun k hk => by omega)
            have hL3 := hL2.fr hF13_9 (fun k hk => by omega) (fun k hk => by omega)
            have hK3 := hK2.trans (hF13_9.mono (fun k hk => hk.2.1))
            refine Wl.nil ?_
            refine Wx.blockN ?_
            refine Wx.thenN (hK19 _ _ ?_)
            refine Wc.keep [(2, _), (4, _), (5, _), (7, _), (31, _), (32, _), (33, _), (38, _), (39, _)] (.cons rfl (.cons rfl (.cons rfl (.cons rfl (.cons rfl (.cons rfl (.cons rfl (.cons rfl (.cons rfl (.nil)))))))))) ?_
            refine Wc.region ?_
            refine Wl.val rfl rfl rfl (Gives.add rfl rfl rfl (by first | exact IntWalk.i64_in _ (by omega) | exact u64_in _ (by omega) | exact u32_in _ (by omega) | exact u8_in _ (by omega) | exact rfl)) ?_
            refine Wl.val rfl rfl rfl (Gives.move rfl rfl) ?_
            refine Wl.nil ?_
            refine Wx.thenN ?_
            refine hKL3 (i + 1, B', c5) _ _ (.cons (by first | exact rfl | exact look_int rfl (by omega) | exact look_slice rfl (by omega)) (.cons rfl (.cons rfl (.cons rfl (.cons rfl (.cons rfl (.cons rfl (.cons rfl (.cons rfl (.nil)))))))))) ⟨by omega, hR3, hL3, hK3, hb5, hb31, hb2, hE⟩ (by show nb.toNat - (i + 1) < nb.toNat - i; omega)
          · (first | replace h40 := of_decide_eq_false h40 | replace h40 := nd_false h40 | skip)
            refine Wc.exit ?_
            refine Wx.thenE ?_
            refine Wx.thenE ?_
            refine Wx.hit ?_
            refine Wx.blockN ?_
            refine Wx.thenN (hK14 _ _ ?_)
            refine Wc.keep [(2, _), (4, _), (5, _), (31, _), (32, _), (33, _)] (.cons rfl (.cons rfl (.cons rfl (.cons rfl (.cons rfl (.cons rfl (.nil))))))) ?_
            have hib : nb.toNat = i := by omega
            clear hi
            have hB5 : BL wr5 (fun k => b5 < k ∧ k < wr5.heap.size) B4 i c4 (listU (rsJ l j)).2 := by
              have h := hL.bl (P := fun k => b5 < k) (fun k hk => by omega) (fun k hk => hk)
              unfold listU
              rw [hnb, hib]
              exact h.bd
            have hRE : RDX 92 wr5 g b5 A' n' c' (rsJ l (j + 1)) := by rw [rsJ_next l (by omega)]; unfold listU; rw [hnb, hib]; exact hR
            have hV5 := hV1.keep hK hgN
            clear hL hR hK hV hV1
            rw [← hcsq] at hb5
            refine Wc.region ?_
            refine Wl.val rfl rfl rfl (Gives.add rfl rfl rfl (by first | exact IntWalk.i64_in _ (by omega) | exact u64_in _ (by omega) | exact u32_in _ (by omega) | exact u8_in _ (by omega) | exact rfl)) ?_
            refine Wl.val rfl rfl rfl (Gives.move rfl rfl) ?_
            refine Wl.nil ?_
            refine Wx.thenN ?_
            rcases (show j = 0 ∨ j = 1 by omega) with rfl | rfl
            · have hq := hj1 (by omega)
              simp only [Prod.mk.injEq] at hq
              obtain ⟨rfl, rfl, rfl⟩ := hq
              refine hKL2 (1, (B4, i, c4), (none, 0, 0)) _ _ (.cons (by first | exact rfl | exact look_int rfl (by omega) | exact look_slice rfl (by omega)) (.cons rfl (.cons rfl (.cons rfl (.cons rfl (.cons rfl (.nil))))))) ⟨by omega, hRE, ⟨hV5.is, hB5, hV5.ns⟩, fun h => by omega, fun _ => rfl, hb5, hb31, hb2, hE⟩ (by show 2 - 1 < 2 - 0; omega)
            · refine hKL2 (2, (B2, n2, c2), (B4, i, c4)) _ _ (.cons (by first | exact rfl | exact look_int rfl (by omega) | exact look_slice rfl (by omega)) (.cons rfl (.cons rfl (.cons rfl (.cons rfl (.cons rfl (.nil))))))) ⟨by omega, hRE, ⟨hV5.is, hV5.bs, hB5⟩, fun h => by omega, fun h => by omega, hb5, hb31, hb2, hE⟩ (by show 2 - 2 < 2 - 1; omega)
        · (first | replace h34 := of_decide_eq_false h34 | replace h34 := nd_false h34 | skip)
          refine Wc.exit ?_
          refine Wx.thenE ?_
          refine Wx.thenE ?_
          refine Wx.hit ?_
          refine Wx.thenN ?_
          obtain rfl : j = 2 := by omega
          have hF : rsF l = (rs5 l).1 := by unfold rsF; rw [he0, if_pos h16]
          have hX' : rsX l = ⟨e0, (rs3 l).2, (rs4 l).2, (rs5 l).2⟩ := by unfold rsX; rw [he0, if_pos h16, h16]
          rw [rsJ2] at hR
          refine hJ4 ⟨B, icnt, c1, B2, n2, c2, B3, n3, c3⟩ _ _ (.cons rfl (.cons rfl (.cons rfl (.nil)))) ⟨by rw [hF]; exact hR, by rw [hX']; exact hV, by rw [hX']; exact hb5, hb2, hE⟩
    · (first | replace h16 := of_decide_eq_false h16 | replace h16 := nd_false h16 | skip)
      refine Wc.skip ?_
      refine Wx.thenN ?_
      have hF : rsF l = (rs1 l).1 := by unfold rsF; rw [he0, if_neg h16]
      have hX' : rsX l = ⟨e0, [], [], []⟩ := by unfold rsX; rw [he0, if_neg h16]
      refine hJ4 RB.nil _ _ (.cons rfl (.cons rfl (.cons rfl (.nil)))) ⟨by rw [hF]; exact hR2, by rw [hX']; exact ⟨IV.nil_ _ _, BL.nil_ _ _, BL.nil_ _ _⟩, by rw [hX']; exact hb5, hb2, hE⟩
  intro rb wJ hJ
  clear hb5 hb2 hE hR2
  obtain ⟨hR, hV, hb5, hb2, hE⟩ := hJ
  refine Wc.seq (fun K20 hK20 => ?_)
  refine Wc.seq (fun K21 hK21 => ?_)
  refine Wc.keep [(2, _), (4, _), (5, _)] (.cons rfl (.cons rfl (.cons rfl (.nil)))) ?_
  refine Wc.region ?_
  refine Wl.val rfl rfl rfl (Gives.move rfl rfl) ?_
  refine Wl.call rfl rfl rfl rfl Tryd.func44 rfl (by kernel_rfl) rfl (rEnd_x _ g b5 A' n' c' _ hR) ?_
  rintro x9 w161 ⟨rfl, hQ16⟩
  refine ⟨_, rfl, ?_⟩
  have hx16 := hQ16.ext
  replace hV := hV.ext hx16
  change Wl _ _ _ _ _ _ _
  replace hb2 := hb2.ext hx16
  replace hb5 := hb5.ext hx16
  replace hE := hE.trans hx16
  refine Wl.val rfl rfl rfl (Gives.assign rfl rfl) ?_
  refine Wl.nil ?_
  refine Wx.thenN (hK21 _ _ ?_)
  refine Wc.seq (fun K22 hK22 => ?_)
  refine Wc.keep [(2, _), (5, _), (8, _)] (.cons rfl (.cons rfl (.cons rfl (.nil)))) ?_
  refine Wc.region ?_
  refine Wl.val rfl rfl rfl (Gives.move rfl rfl) ?_
  refine Wl.val rfl rfl rfl (Gives.neq rfl rfl rfl) ?_
  refine Wl.nil ?_
  refine Wx.thenN (hK22 _ _ ?_)
  refine Wc.cond _ rfl (fun h55 => ?_) (fun h55 => ?_)
  · (first | replace h55 := of_decide_eq_true h55 | replace h55 := nd_true h55 | skip)
    refine Wc.seq (fun K23 hK23 => ?_)
    refine Wc.keep [(2, _), (8, _)] (.cons rfl (.cons rfl (.nil))) ?_
    refine Wc.region ?_
    refine Wl.val rfl rfl rfl (Gives.buildS (pl := [(0, 1), (1, 1), (2, 1), (3, 1)]) (zv := (.agg #[(.int .i64 0), (.slice none 0 0), (.slice none 0 0), (.slice none 0 0)])) rfl Tryd.underlying54 (by kernel_rfl) (by kernel_rfl) rfl rfl) ?_
    refine Wl.val rfl rfl rfl (Gives.move rfl rfl) ?_
    refine Wl.acts rfl rfl (Does.stL 4 rfl rfl rfl hb2 (by kernel_rfl) rfl rfl rfl) ?_
    rintro _ w18_2 ⟨hbn, hF18_2⟩
    replace hb5 := hb5.fr hF18_2 (by first | assumption | exact Ne.symm (by assumption))
    replace hE := Ext.over hE hF18_2 hg2
    replace hb2 := hbn
    clear hbn
    refine Wl.val rfl rfl rfl (Gives.assign rfl rfl) ?_
    refine Wl.nil ?_
    refine Wx.thenN (hK23 _ _ ?_)
    refine Wc.ret ?_
    refine Wx.thenR ?_
    refine Wx.ret [_, _] ⟨⟨_, rfl, res_blk hb2 Tryd.underlying54 rfl (by kernel_rfl)⟩, ⟨rfl, trivial⟩⟩ ?_
    exact RspR.zero (l := l) h55 hE
  · (first | replace h55 := of_decide_eq_false h55 | replace h55 := nd_false h55 | skip)
    refine Wc.skip ?_
    refine Wx.thenN (hK20 _ _ ?_)
    refine Wc.seq (fun K24 hK24 => ?_)
    refine Wc.keep [(2, _), (5, _)] (.cons rfl (.cons rfl (.nil))) ?_
    refine Wc.region ?_
    refine Wl.val rfl rfl rfl (Gives.ldW rfl (by kernel_rfl) rfl hb5 (by kernel_rfl)) ?_
    refine Wl.acts rfl rfl (Does.stL 4 rfl rfl rfl hb2 (by kernel_rfl) rfl rfl rfl) ?_
    rintro _ w19_1 ⟨hbn, hF19_1⟩
    replace hb5 := hb5.fr hF19_1 (by first | assumption | exact Ne.symm (by assumption))
    replace hE := Ext.over hE hF19_1 hg2
    replace hb2 := hbn
    clear hbn
    refine Wl.val rfl rfl rfl (Gives.assign rfl rfl) ?_
    refine Wl.nil ?_
    refine Wx.thenN (hK24 _ _ ?_)
    refine Wc.ret ?_
    refine Wx.ret [_, _] ⟨⟨_, rfl, res_blk hb2 Tryd.underlying54 rfl (by kernel_rfl)⟩, ⟨rfl, trivial⟩⟩ ?_
    have h1 : rspE l = 0 := h55
    have hq : rspQ l = rsX l := by unfold rspQ; rw [if_pos h1]
    refine ⟨rb, by rw [hq, h1]; rfl, ?_, hE⟩
    rw [hq]
    exact (hV.fr (hF19_1.mono (fun k hk => by omega))).mono (fun _ _ => trivial)
end Go.Proofs.YtaekpiejdgahfaaDoor
