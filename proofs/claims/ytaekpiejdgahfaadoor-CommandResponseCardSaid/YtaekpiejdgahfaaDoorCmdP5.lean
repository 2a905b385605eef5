/- Commands: Encode of the program; the reference's Check and Encode. -/
import Derived.Test.YtaekpiejdgahfaaDoorCmdP4
namespace Go.Proofs.YtaekpiejdgahfaaDoor
set_option linter.all false
open Go.RowKit
set_option maxRecDepth 10000 in
theorem encodeP_calls {P : Nat → Prop} (w : World) (hT : Tabs w) (q : Req) (r : RA) (hq : ReqV w P q r) (hsm : FewQ q) :
    Calls Tryd.prog 16 #[.agg #[.int .i64 q.code, .slice r.hA r.hn r.hc, .slice r.aA r.an r.ac, .slice r.iA r.iN r.ic, .slice r.bA r.bn r.bc]] w fun e w' => ∃ S m c, e = .returned (.tuple #[.slice S m c, .int .i64 (checkS q)]) ∧ OB w' w.heap.size 5 S m c (encS q) ∧ Ext w w' := by
  have hq0 := hq
  have hsm0 := hsm
  obtain ⟨hA, hn, hc, aA, an, ac, iA, iN, ic, bA, bn, bc⟩ := r
  have hhs : IV w P hA hn hc q.hs := hq.hs
  have hus : AV w P aA an ac q.us := hq.us
  have his : IV w P iA iN ic q.is := hq.is
  have hbs : BL w P bA bn bc q.bs := hq.bs
  have hlh := hhs.len
  have hla := hus.len
  have hli := his.len
  have hlb := hbs.len
  obtain ⟨hs1, hs2, hs3, hs4⟩ := hsm
  clear hq
  show Calls Tryd.prog _ #[.agg #[.int .i64 q.code, .slice hA hn hc, .slice aA an ac, .slice iA iN ic, .slice bA bn bc]] w _
  refine calls_enter Tryd.func16 rfl Tryd.ntmps16 rfl ?_
  have hE : Ext w w := Ext.refl w
  refine Wc.seq (fun K1 hK1 => ?_)
  refine Wc.keep [(0, _)] (.cons rfl (.nil)) ?_
  refine Wc.region ?_
  refine Wl.does rfl rfl rfl (Does.boxA rfl rfl) ?_
  rintro _ w0_0 ⟨b1, rfl, hs1, hb1, hx0_0⟩
  have hg1 : w.heap.size ≤ b1 := Nat.le_trans hE.size hs1
  replace hE := hE.trans hx0_0
  refine Wl.val rfl rfl rfl (Gives.assign rfl rfl) ?_
  refine Wl.val rfl rfl rfl (Gives.assign rfl rfl) ?_
  refine Wl.nil ?_
  refine Wx.thenN (hK1 _ _ ?_)
  refine Wc.seq (fun K2 hK2 => ?_)
  refine Wc.seq (fun K3 hK3 => ?_)
  refine Wc.keep [(1, _)] (.cons rfl (.nil)) ?_
  refine Wc.region ?_
  refine Wl.val rfl rfl rfl (Gives.ldW rfl (by kernel_rfl) rfl hb1 (by kernel_rfl)) ?_
  refine Wl.call rfl rfl rfl rfl Tryd.func18 rfl (by kernel_rfl) rfl (checkP_calls (P := P) _ (hT.ext hE) q ⟨hA, hn, hc, aA, an, ac, iA, iN, ic, bA, bn, bc⟩ (hq0.ext hE) hsm0) ?_
  rintro x1 w11 ⟨rfl, hx1⟩
  refine ⟨_, rfl, ?_⟩
  replace hb1 := hb1.ext hx1
  replace hE := hE.trans hx1
  refine Wl.val rfl rfl rfl (Gives.assign rfl rfl) ?_
  refine Wl.nil ?_
  refine Wx.thenN (hK3 _ _ ?_)
  refine Wc.seq (fun K4 hK4 => ?_)
  refine Wc.keep [(1, _), (4, _)] (.cons rfl (.cons rfl (.nil))) ?_
  refine Wc.region ?_
  refine Wl.val rfl rfl rfl (Gives.move rfl rfl) ?_
  refine Wl.val rfl rfl rfl (Gives.neq rfl rfl rfl) ?_
  refine Wl.nil ?_
  refine Wx.thenN (hK4 _ _ ?_)
  refine Wc.cond _ rfl (fun h8 => ?_) (fun h8 => ?_)
  · (first | replace h8 := of_decide_eq_true h8 | replace h8 := nd_true h8 | skip)
    refine Wc.seq (fun K5 hK5 => ?_)
    refine Wc.keep [(4, _)] (.cons rfl (.nil)) ?_
    refine Wc.region ?_
    refine Wl.val rfl rfl rfl (Gives.move rfl rfl) ?_
    refine Wl.val rfl rfl rfl (Gives.assign rfl rfl) ?_
    refine Wl.val rfl rfl rfl (Gives.assign rfl rfl) ?_
    refine Wl.nil ?_
    refine Wx.thenN (hK5 _ _ ?_)
    refine Wc.ret ?_
    refine Wx.thenR ?_
    refine Wx.ret [_, _] ⟨rfl, ⟨rfl, trivial⟩⟩ ?_
    exact ⟨none, 0, 0, rfl, by unfold encS; rw [if_neg (by simpa using h8)]; exact OB.nil_ _ _ _, hE⟩
  · (first | replace h8 := of_decide_eq_false h8 | replace h8 := nd_false h8 | skip)
    refine Wc.skip ?_
    refine Wx.thenN (hK2 _ _ ?_)
    refine Wc.seq (fun K6 hK6 => ?_)
    refine Wc.keep [(1, _)] (.cons rfl (.nil)) ?_
    refine Wc.region ?_
    refine Wl.val rfl rfl rfl (Gives.ldW rfl (by kernel_rfl) rfl hb1 (by kernel_rfl)) ?_
    refine Wl.call rfl rfl rfl rfl Tryd.func32 rfl (by kernel_rfl) rfl (writeP_calls (P := P) _ (hT.ext hE) q ⟨hA, hn, hc, aA, an, ac, iA, iN, ic, bA, bn, bc⟩ (hq0.ext hE) (small0 hsm0 (by simpa using h8))) ?_
    rintro x2 w12 ⟨S, m, c, rfl, hO, hx2⟩
    refine ⟨_, rfl, ?_⟩
    replace hO := hO.mono hE.size
    replace hb1 := hb1.ext hx2
    replace hE := hE.trans hx2
    refine Wl.val rfl rfl rfl (Gives.assign rfl rfl) ?_
    refine Wl.val rfl rfl rfl (Gives.assign rfl rfl) ?_
    refine Wl.nil ?_
    refine Wx.thenN (hK6 _ _ ?_)
    refine Wc.ret ?_
    refine Wx.ret [_, _] ⟨rfl, ⟨rfl, trivial⟩⟩ ?_
    have h8' : checkS q = 0 := by simpa using h8
    exact ⟨S, m, c, by rw [h8']; rfl, by unfold encS; rw [if_pos h8']; exact hO, hE⟩
theorem all_false {α : Type} (p : α → Bool) (l : List α) (i : Nat) (x : α) (h : l[i]? = some x) (hx : p x = false) : l.all p = false := by
  cases hl : l.all p with
  | false => rfl
  | true => rw [List.all_eq_true] at hl; rw [hl x (List.mem_of_getElem? h)] at hx; cases hx
set_option maxRecDepth 10000 in
theorem longR_calls {P : Nat → Prop} (w : World) (q : Req) (r : RA) (hq : ReqV w P q r) (hsm : FewQ q) :
    Calls Tryd.prog 38 #[.agg #[.int .i64 q.code, .slice r.hA r.hn r.hc, .slice r.aA r.an r.ac, .slice r.iA r.iN r.ic, .slice r.bA r.bn r.bc]] w fun e w' => e = .returned (.bool (longS q)) ∧ Ext w w' := by
  have hq0 := hq
  have hsm0 := hsm
  obtain ⟨hA, hn, hc, aA, an, ac, iA, iN, ic, bA, bn, bc⟩ := r
  have hhs : IV w P hA hn hc q.hs := hq.hs
  have hus : AV w P aA an ac q.us := hq.us
  have his : IV w P iA iN ic q.is := hq.is
  have hbs : BL w P bA bn bc q.bs := hq.bs
  have hlh := hhs.len
  have hla := hus.len
  have hli := his.len
  have hlb := hbs.len
  obtain ⟨hs1, hs2, hs3, hs4⟩ := hsm
  clear hq
  show Calls Tryd.prog _ #[.agg #[.int .i64 q.code, .slice hA hn hc, .slice aA an ac, .slice iA iN ic, .slice bA bn bc]] w _
  refine calls_enter Tryd.func38 rfl Tryd.ntmps38 rfl ?_
  have hE : Ext w w := Ext.refl w
  refine Wc.seq (fun K1 hK1 => ?_)
  refine Wc.keep [(0, _)] (.cons rfl (.nil)) ?_
  refine Wc.region ?_
  refine Wl.does rfl rfl rfl (Does.boxA rfl rfl) ?_
  rintro _ w0_0 ⟨b1, rfl, hs1, hb1, hx0_0⟩
  have hg1 : w.heap.size ≤ b1 := Nat.le_trans hE.size hs1
  replace hE := hE.trans hx0_0
  refine Wl.val rfl rfl rfl (Gives.assign rfl rfl) ?_
  refine Wl.nil ?_
  refine Wx.thenN (hK1 _ _ ?_)
  refine Wc.seq (fun K2 hK2 => ?_)
  refine Wc.seq (fun K3 hK3 => ?_)
  refine Wc.keep [(1, _)] (.cons rfl (.nil)) ?_
  refine Wc.region ?_
  refine Wl.val rfl rfl rfl (Gives.assign rfl rfl) ?_
  refine Wl.nil ?_
  refine Wx.thenN (hK3 _ _ ?_)
  refine Wc.block ?_
  refine Wc.keep [(1, _), (3, _)] (.cons rfl (.cons rfl (.nil))) ?_
  refine Wc.loopC (ι := Nat) [(1, _)] (fun i => [(3, .int .i64 (i : Int))]) (fun i wr => i ≤ an ∧ (q.us.take i).all authShort = true ∧ Blk wr b1 33 #[.int .i64 q.code, .slice hA hn hc, .slice aA an ac, .slice iA iN ic, .slice bA bn bc] ∧ Ext w wr) (fun i => an - i) (0) (.cons (by first | exact rfl | exact look_int rfl (by omega) | exact look_slice rfl (by omega)) (.cons rfl (.nil))) (⟨Nat.zero_le _, by simp, hb1, hE⟩) ?_
  intro i wr hJ KL1 hKL1
  clear hb1 hE
  obtain ⟨hi, hB, hb1, hE⟩ := hJ
  refine Wc.seq (fun K4 hK4 => ?_)
  refine Wc.seq (fun K5 hK5 => ?_)
  refine Wc.keep [(1, _), (3, _)] (.cons rfl (.cons rfl (.nil))) ?_
  refine Wc.region ?_
  refine Wl.val rfl rfl rfl (Gives.move rfl rfl) ?_
  refine Wl.val rfl rfl rfl (Gives.fieldAt 2 rfl Tryd.underlying33 rfl (by kernel_rfl) rfl rfl) ?_
  refine Wl.val rfl rfl rfl (Gives.ldK rfl (by kernel_rfl) rfl hb1 rfl) ?_
  refine Wl.val rfl rfl rfl (Gives.lenS rfl Tryd.underlying30 rfl) ?_
  refine Wl.val rfl rfl rfl (Gives.lss rfl rfl rfl) ?_
  refine Wl.nil ?_
  refine Wx.thenN (hK5 _ _ ?_)
  refine Wc.cond _ rfl (fun h9 => ?_) (fun h9 => ?_)
  · (first | replace h9 := of_decide_eq_true h9 | replace h9 := nd_true h9 | skip)
    refine Wc.skip ?_
    refine Wx.thenN (hK4 _ _ ?_)
    refine Wc.seq (fun K6 hK6 => ?_)
    refine Wc.block ?_
    refine Wc.seq (fun K7 hK7 => ?_)
    refine Wc.keep [(1, _), (3, _)] (.cons rfl (.cons rfl (.nil))) ?_
    obtain ⟨xb, xo, rfl, hbw, a, N, nn, nc, V, vn, vc, ha, hrg, hN0, hV0⟩ := (hus.ext hE).at_ (show i < an by omega)
    have hnn := hN0.len
    have hvn := hV0.len
    refine Wc.region ?_
    refine Wl.val rfl rfl rfl (Gives.fieldAt 2 rfl Tryd.underlying33 rfl (by kernel_rfl) rfl rfl) ?_
    refine Wl.val rfl rfl rfl (Gives.ldK rfl (by kernel_rfl) rfl hb1 rfl) ?_
    refine Wl.val rfl rfl rfl (Gives.move rfl rfl) ?_
    refine Wl.val rfl rfl rfl (Gives.ixSZ (i := _) (sz := 3) rfl Tryd.underlying30 (by kernel_rfl) rfl rfl rfl (by omega)) ?_
    refine Wl.val rfl rfl rfl (Gives.fieldAt 1 rfl Tryd.underlying38 rfl (by kernel_rfl) rfl rfl) ?_
    refine Wl.val rfl rfl rfl (Gives.ldC rfl (by kernel_rfl) rfl (hrg 1 _ rfl)) ?_
    refine Wl.val rfl rfl rfl (Gives.lenS rfl Tryd.underlying36 rfl) ?_
    refine Wl.val rfl rfl rfl (Gives.gtr rfl rfl rfl) ?_
    refine Wl.val rfl rfl rfl (Gives.move rfl rfl) ?_
    refine Wl.guard rfl rfl rfl (fun h20 => ?_) (fun h20 => ?_)
    · (first | replace h20 := of_decide_eq_false h20 | replace h20 := nd_false h20 | skip)
      refine Wl.val rfl rfl rfl (Gives.fieldAt 2 rfl Tryd.underlying33 rfl (by kernel_rfl) rfl rfl) ?_
      refine Wl.val rfl rfl rfl (Gives.ldK rfl (by kernel_rfl) rfl hb1 rfl) ?_
      refine Wl.val rfl rfl rfl (Gives.move rfl rfl) ?_
      refine Wl.val rfl rfl rfl (Gives.ixSZ (i := _) (sz := 3) rfl Tryd.underlying30 (by kernel_rfl) rfl rfl rfl (by omega)) ?_
      refine Wl.val rfl rfl rfl (Gives.fieldAt 2 rfl Tryd.underlying38 rfl (by kernel_rfl) rfl rfl) ?_
      refine Wl.val rfl rfl rfl (Gives.ldC rfl (by kernel_rfl) rfl (hrg 2 _ rfl)) ?_
      refine Wl.val rfl rfl rfl (Gives.lenS rfl Tryd.underlying36 rfl) ?_
      refine Wl.val rfl rfl rfl (Gives.gtr rfl rfl rfl) ?_
      refine Wl.val rfl rfl rfl (Gives.pickF rfl rfl rfl rfl) ?_
      refine Wl.nil ?_
      refine Wx.thenN (hK7 _ _ ?_)
      refine Wc.cond _ rfl (fun h29 => ?_) (fun h29 => ?_)
      · (first | replace h29 := of_decide_eq_true h29 | replace h29 := nd_true h29 | skip)
        refine Wc.seq (fun K8 hK8 => ?_)
        refine Wc.keep [] (.nil) ?_
        refine Wc.region ?_
        refine Wl.val rfl rfl rfl (Gives.assign rfl rfl) ?_
        refine Wl.nil ?_
        refine Wx.thenN (hK8 _ _ ?_)
        refine Wc.ret ?_
        refine Wx.blockR ?_
        refine Wx.thenR ?_
        refine Wx.thenR ?_
        refine Wx.blockR ?_
        refine Wx.thenR ?_
        refine Wx.ret [_] ⟨rfl, trivial⟩ ?_
        exact ⟨rb (by unfold longS; rw [all_false authShort q.us i a ha (by unfold authShort; rw [hvn, decide_eq_false (p := (vn : Int) ≤ 128) (by omega)]; simp)]; rfl), hE⟩
      · (first | replace h29 := of_decide_eq_false h29 | replace h29 := nd_false h29 | skip)
        refine Wc.skip ?_
        refine Wx.blockN ?_
        refine Wx.thenN (hK6 _ _ ?_)
        refine Wc.keep [(1, _), (3, _)] (.cons rfl (.cons rfl (.nil))) ?_
        refine Wc.region ?_
        refine Wl.val rfl rfl rfl (Gives.move rfl rfl) ?_
        refine Wl.val rfl rfl rfl (Gives.add rfl rfl rfl (by first | exact IntWalk.i64_in _ (by omega) | exact u64_in _ (by omega) | exact u32_in _ (by omega) | exact u8_in _ (by omega) | exact rfl)) ?_
        refine Wl.val rfl rfl rfl (Gives.assign rfl rfl) ?_
        refine Wl.nil ?_
        refine Wx.thenN ?_
        refine hKL1 (i + 1) _ _ (.cons (by first | exact rfl | exact look_int rfl (by omega) | exact look_slice rfl (by omega)) (.cons rfl (.nil))) ⟨by omega, by rw [all_take _ _ _ _ ha, hB]; unfold authShort; rw [hnn, hvn, decide_eq_true (by omega), decide_eq_true (by omega)]; rfl, hb1, hE⟩ (by omega)
    · (first | replace h20 := of_decide_eq_true h20 | replace h20 := nd_true h20 | skip)
      refine Wl.pass rfl rfl rfl ?_
      refine Wl.pass rfl rfl rfl ?_
      refine Wl.pass rfl rfl rfl ?_
      refine Wl.pass rfl rfl rfl ?_
      refine Wl.pass rfl rfl rfl ?_
      refine Wl.pass rfl rfl rfl ?_
      refine Wl.pass rfl rfl rfl ?_
      refine Wl.pass rfl rfl rfl ?_
      refine Wl.val rfl rfl rfl (Gives.pickT rfl rfl rfl rfl) ?_
      refine Wl.nil ?_
      refine Wx.thenN (hK7 _ _ ?_)
      refine Wc.condT rfl rfl ?_
      refine Wc.seq (fun K9 hK9 => ?_)
      refine Wc.keep [] (.nil) ?_
      refine Wc.region ?_
      refine Wl.val rfl rfl rfl (Gives.assign rfl rfl) ?_
      refine Wl.nil ?_
      refine Wx.thenN (hK9 _ _ ?_)
      refine Wc.ret ?_
      refine Wx.blockR ?_
      refine Wx.thenR ?_
      refine Wx.thenR ?_
      refine Wx.blockR ?_
      refine Wx.thenR ?_
      refine Wx.ret [_] ⟨rfl, trivial⟩ ?_
      exact ⟨rb (by unfold longS; rw [all_false authShort q.us i a ha (by unfold authShort; rw [hnn, decide_eq_false (by omega)]; rfl)]; rfl), hE⟩
  · (first | replace h9 := of_decide_eq_false h9 | replace h9 := nd_false h9 | skip)
    refine Wc.exit ?_
    refine Wx.thenE ?_
    refine Wx.thenE ?_
    refine Wx.hit ?_
    refine Wx.thenN (hK2 _ _ ?_)
    refine Wc.seq (fun K10 hK10 => ?_)
    refine Wc.seq (fun K11 hK11 => ?_)
    refine Wc.keep [(1, _)] (.cons rfl (.nil)) ?_
    obtain rfl : an = i := by omega
    rw [all_all _ _ _ hla] at hB
    refine Wc.region ?_
    refine Wl.val rfl rfl rfl (Gives.assign rfl rfl) ?_
    refine Wl.nil ?_
    refine Wx.thenN (hK11 _ _ ?_)
    refine Wc.block ?_
    refine Wc.keep [(1, _), (4, _)] (.cons rfl (.cons rfl (.nil))) ?_
    refine Wc.loopC (ι := Nat) [(1, _)] (fun i => [(4, .int .i64 (i : Int))]) (fun i wr => i ≤ bn ∧ (q.bs.take i).all blobShort = true ∧ Blk wr b1 33 #[.int .i64 q.code, .slice hA hn hc, .slice aA an ac, .slice iA iN ic, .slice bA bn bc] ∧ Ext w wr) (fun i => bn - i) (0) (.cons (by first | exact rfl | exact look_int rfl (by omega) | exact look_slice rfl (by omega)) (.cons rfl (.nil))) (⟨Nat.zero_le _, by simp, hb1, hE⟩) ?_
    intro j wr hJ KL2 hKL2
    clear hb1 hE
    obtain ⟨hj, hB2, hb1, hE⟩ := hJ
    refine Wc.seq (fun K12 hK12 => ?_)
    refine Wc.seq (fun K13 hK13 => ?_)
    refine Wc.keep [(1, _), (4, _)] (.cons rfl (.cons rfl (.nil))) ?_
    refine Wc.region ?_
    refine Wl.val rfl rfl rfl (Gives.move rfl rfl) ?_
    refine Wl.val rfl rfl rfl (Gives.fieldAt 4 rfl Tryd.underlying33 rfl (by kernel_rfl) rfl rfl) ?_
    refine Wl.val rfl rfl rfl (Gives.ldK rfl (by kernel_rfl) rfl hb1 rfl) ?_
    refine Wl.val rfl rfl rfl (Gives.lenS rfl Tryd.underlying31 rfl) ?_
    refine Wl.val rfl rfl rfl (Gives.lss rfl rfl rfl) ?_
    refine Wl.nil ?_
    refine Wx.thenN (hK13 _ _ ?_)
    refine Wc.cond _ rfl (fun h34 => ?_) (fun h34 => ?_)
    · (first | replace h34 := of_decide_eq_true h34 | replace h34 := nd_true h34 | skip)
      refine Wc.skip ?_
      refine Wx.thenN (hK12 _ _ ?_)
      refine Wc.seq (fun K14 hK14 => ?_)
      refine Wc.block ?_
      refine Wc.seq (fun K15 hK15 => ?_)
      refine Wc.keep [(1, _), (4, _)] (.cons rfl (.cons rfl (.nil))) ?_
      obtain ⟨xb, xo, rfl, hbw, z, zA, zn, zc, hz, hcell, hZ⟩ := (hbs.ext hE).at' (show j < bn by omega)
      have hzn := hZ.len
      refine Wc.region ?_
      refine Wl.val rfl rfl rfl (Gives.fieldAt 4 rfl Tryd.underlying33 rfl (by kernel_rfl) rfl rfl) ?_
      refine Wl.val rfl rfl rfl (Gives.ldK rfl (by kernel_rfl) rfl hb1 rfl) ?_
      refine Wl.val rfl rfl rfl (Gives.move rfl rfl) ?_
      refine Wl.val rfl rfl rfl (Gives.ixS (i := _) rfl Tryd.underlying31 (by kernel_rfl) rfl rfl rfl (by omega)) ?_
      refine Wl.val rfl rfl rfl (Gives.ldC rfl (by kernel_rfl) rfl hcell) ?_
      refine Wl.val rfl rfl rfl (Gives.lenS rfl Tryd.underlying36 rfl) ?_
      refine Wl.val rfl rfl rfl (Gives.gtr rfl rfl rfl) ?_
      refine Wl.nil ?_
      refine Wx.thenN (hK15 _ _ ?_)
      refine Wc.cond _ rfl (fun h43 => ?_) (fun h43 => ?_)
      · (first | replace h43 := of_decide_eq_true h43 | replace h43 := nd_true h43 | skip)
        refine Wc.seq (fun K16 hK16 => ?_)
        refine Wc.keep [] (.nil) ?_
        refine Wc.region ?_
        refine Wl.val rfl rfl rfl (Gives.assign rfl rfl) ?_
        refine Wl.nil ?_
        refine Wx.thenN (hK16 _ _ ?_)
        refine Wc.ret ?_
        refine Wx.blockR ?_
        refine Wx.thenR ?_
        refine Wx.thenR ?_
        refine Wx.blockR ?_
        refine Wx.thenR ?_
        refine Wx.ret [_] ⟨rfl, trivial⟩ ?_
        exact ⟨rb (by unfold longS; rw [all_false blobShort q.bs j z hz (by unfold blobShort; rw [hzn, decide_eq_false (by omega)]), hB]; rfl), hE⟩
      · (first | replace h43 := of_decide_eq_false h43 | replace h43 := nd_false h43 | skip)
        refine Wc.skip ?_
        refine Wx.blockN ?_
        refine Wx.thenN (hK14 _ _ ?_)
        refine Wc.keep [(1, _), (4, _)] (.cons rfl (.cons rfl (.nil))) ?_
        refine Wc.region ?_
        refine Wl.val rfl rfl rfl (Gives.move rfl rfl) ?_
        refine Wl.val rfl rfl rfl (Gives.add rfl rfl rfl (by first | exact IntWalk.i64_in _ (by omega) | exact u64_in _ (by omega) | exact u32_in _ (by omega) | exact u8_in _ (by omega) | exact rfl)) ?_
        refine Wl.val rfl rfl rfl (Gives.assign rfl rfl) ?_
        refine Wl.nil ?_
        refine Wx.thenN ?_
        refine hKL2 (j + 1) _ _ (.cons (by first | exact rfl | exact look_int rfl (by omega) | exact look_slice rfl (by omega)) (.cons rfl (.nil))) ⟨by omega, by rw [all_take _ _ _ _ hz, hB2]; unfold blobShort; rw [hzn, decide_eq_true (by omega)]; rfl, hb1, hE⟩ (by omega)
    · (first | replace h34 := of_decide_eq_false h34 | replace h34 := nd_false h34 | skip)
      refine Wc.exit ?_
      refine Wx.thenE ?_
      refine Wx.thenE ?_
      refine Wx.hit ?_
      refine Wx.thenN (hK10 _ _ ?_)
      refine Wc.seq (fun K17 hK17 => ?_)
      refine Wc.keep [(1, _)] (.cons rfl (.nil)) ?_
      obtain rfl : bn = j := by omega
      rw [all_all _ _ _ hlb] at hB2
      refine Wc.region ?_
      refine Wl.val rfl rfl rfl (Gives.ldW rfl (by kernel_rfl) rfl hb1 (by kernel_rfl)) ?_
      refine Wl.call rfl rfl rfl rfl Tryd.func33 rfl (by kernel_rfl) rfl (formR_calls (P := P) _ q ⟨hA, hn, hc, aA, an, ac, iA, iN, ic, bA, bn, bc⟩ (hq0.ext hE) (small_of hsm0 (by rw [hB, hB2]; rfl))) ?_
      rintro x2 w12 ⟨S, m, c, rfl, hO, hx2⟩
      refine ⟨_, rfl, ?_⟩
      have hOl := hO.len
      replace hb1 := hb1.ext hx2
      replace hE := hE.trans hx2
      refine Wl.val rfl rfl rfl (Gives.lenS rfl Tryd.underlying36 rfl) ?_
      refine Wl.val rfl rfl rfl (Gives.gtr rfl rfl rfl) ?_
      refine Wl.val rfl rfl rfl (Gives.assign rfl rfl) ?_
      refine Wl.nil ?_
      refine Wx.thenN (hK17 _ _ ?_)
      refine Wc.ret ?_
      refine Wx.ret [_] ⟨rfl, trivial⟩ ?_
      refine ⟨rb ?_, hE⟩
      unfold longS
      rw [hB, hB2, hOl, Bool.eq_iff_iff]
      simp
      try omega
theorem arg_f {q : Req} {s : Shp} (h : argF q s = false) : argOk q s = false := by unfold argOk; rw [h]; simp
theorem arg_h {q : Req} {s : Shp} (h : q.hs.all wordS = false) : argOk q s = false := by unfold argOk; rw [h]; simp
theorem arg_u {q : Req} {s : Shp} (h : q.us.all authW = false) : argOk q s = false := by unfold argOk; rw [h]; simp
theorem arg_i {q : Req} {s : Shp} (h : q.is.all timeS = false) : argOk q s = false := by unfold argOk; rw [h]; simp
set_option maxHeartbeats 1000000 in
set_option maxRecDepth 10000 in
theorem checkR_calls {P : Nat → Prop} (w : World) (q : Req) (r : RA) (hq : ReqV w P q r) (hsm : FewQ q) :
    Calls Tryd.prog 19 #[.agg #[.int .i64 q.code, .slice r.hA r.hn r.hc, .slice r.aA r.an r.ac, .slice r.iA r.iN r.ic, .slice r.bA r.bn r.bc]] w fun e w' => e = .returned (.int .i64 (checkS q)) ∧ Ext w w' := by
  have hq0 := hq
  have hsm0 := hsm
  obtain ⟨hA, hn, hc, aA, an, ac, iA, iN, ic, bA, bn, bc⟩ := r
  have hhs : IV w P hA hn hc q.hs := hq.hs
  have hus : AV w P aA an ac q.us := hq.us
  have his : IV w P iA iN ic q.is := hq.is
  have hbs : BL w P bA bn bc q.bs := hq.bs
  have hlh := hhs.len
  have hla := hus.len
  have hli := his.len
  have hlb := hbs.len
  obtain ⟨hs1, hs2, hs3, hs4⟩ := hsm
  clear hq
  show Calls Tryd.prog _ #[.agg #[.int .i64 q.code, .slice hA hn hc, .slice aA an ac, .slice iA iN ic, .slice bA bn bc]] w _
  have hbd := shape_bounds q.code
  refine calls_enter Tryd.func19 rfl Tryd.ntmps19 rfl ?_
  have hE : Ext w w := Ext.refl w
  refine Wc.seq (fun K1 hK1 => ?_)
  refine Wc.keep [(0, _)] (.cons rfl (.nil)) ?_
  refine Wc.region ?_
  refine Wl.does rfl rfl rfl (Does.boxA rfl rfl) ?_
  rintro _ w0_0 ⟨b1, rfl, hs1, hb1, hx0_0⟩
  have hg1 : w.heap.size ≤ b1 := Nat.le_trans hE.size hs1
  replace hE := hE.trans hx0_0
  refine Wl.val rfl rfl rfl (Gives.assign rfl rfl) ?_
  refine Wl.nil ?_
  refine Wx.thenN (hK1 _ _ ?_)
  refine Wc.seq (fun K2 hK2 => ?_)
  refine Wc.keep [(1, _)] (.cons rfl (.nil)) ?_
  refine Wc.region ?_
  refine Wl.val rfl rfl rfl (Gives.fieldAt 0 rfl Tryd.underlying33 rfl (by kernel_rfl) rfl rfl) ?_
  refine Wl.val rfl rfl rfl (Gives.ldK rfl (by kernel_rfl) rfl hb1 rfl) ?_
  refine Wl.call rfl rfl rfl rfl Tryd.func12 rfl (by kernel_rfl) rfl (shapeR_calls _ q.code) ?_
  rintro x1 w11 ⟨rfl, hx1⟩
  refine ⟨_, rfl, ?_⟩
  generalize hsq : shapeS q.code = s at *
  replace hb1 := hb1.ext hx1
  replace hE := hE.trans hx1
  refine Wl.val rfl rfl rfl (Gives.move rfl rfl) ?_
  refine Wl.val rfl rfl rfl (Gives.extract rfl rfl rfl) ?_
  refine Wl.val rfl rfl rfl (Gives.extract rfl rfl rfl) ?_
  refine Wl.does rfl rfl rfl (Does.alB (.agg #[(.int .i64 0), (.int .i64 0), (.int .i64 0), (.int .i64 0)]) rfl (by kernel_rfl) rfl) ?_
  rintro _ w1_6 ⟨b3, rfl, hs3, hb3, hx1_6⟩
  have hn1_3 : b1 ≠ b3 := hb1.ne hs3
  have hg3 : w.heap.size ≤ b3 := Nat.le_trans hE.size hs3
  replace hb1 := hb1.ext hx1_6
  replace hE := hE.trans hx1_6
  refine Wl.acts rfl rfl (Does.stL 4 rfl rfl rfl hb3 (by kernel_rfl) rfl rfl rfl) ?_
  rintro _ w1_7 ⟨hbn, hF1_7⟩
  replace hb1 := hb1.fr hF1_7 (by first | assumption | exact Ne.symm (by assumption))
  replace hE := Ext.over hE hF1_7 hg3
  replace hb3 := hbn
  clear hbn
  refine Wl.val rfl rfl rfl (Gives.assign rfl rfl) ?_
  refine Wl.nil ?_
  refine Wx.thenN (hK2 _ _ ?_)
  refine Wc.seq (fun K3 hK3 => ?_)
  refine Wc.seq (fun K4 hK4 => ?_)
  refine Wc.keep [(1, _), (3, _), (4, _)] (.cons rfl (.cons rfl (.cons rfl (.nil)))) ?_
  refine Wc.region ?_
  refine Wl.val rfl rfl rfl (Gives.move rfl rfl) ?_
  refine Wl.val rfl rfl rfl (Gives.not rfl rfl) ?_
  refine Wl.nil ?_
  refine Wx.thenN (hK4 _ _ ?_)
  refine Wc.cond _ rfl (fun h29 => ?_) (fun h29 => ?_)
  · (first | replace h29 := of_decide_eq_true h29 | replace h29 := nd_true h29 | skip)
    refine Wc.seq (fun K5 hK5 => ?_)
    refine Wc.keep [] (.nil) ?_
    refine Wc.region ?_
    refine Wl.val rfl rfl rfl (Gives.assign rfl rfl) ?_
    refine Wl.nil ?_
    refine Wx.thenN (hK5 _ _ ?_)
    refine Wc.ret ?_
    refine Wx.thenR ?_
    refine Wx.ret [_] ⟨rfl, trivial⟩ ?_
    exact ⟨errI (check6 hsq h29), hE⟩
  · (first | replace h29 := of_decide_eq_false h29 | replace h29 := nd_false h29 | skip)
    refine Wc.skip ?_
    refine Wx.thenN (hK3 _ _ ?_)
    refine Wc.seq (fun K6 hK6 => ?_)
    refine Wc.seq (fun K7 hK7 => ?_)
    refine Wc.keep [(1, _), (3, _)] (.cons rfl (.cons rfl (.nil))) ?_
    refine Wc.region ?_
    refine Wl.val rfl rfl rfl (Gives.fieldAt 1 rfl Tryd.underlying33 rfl (by kernel_rfl) rfl rfl) ?_
    refine Wl.val rfl rfl rfl (Gives.ldK rfl (by kernel_rfl) rfl hb1 rfl) ?_
    refine Wl.val rfl rfl rfl (Gives.lenS rfl Tryd.underlying29 rfl) ?_
    refine Wl.val rfl rfl rfl (Gives.ixA (i := 0) rfl Tryd.underlying25 (by kernel_rfl) rfl rfl rfl (by omega)) ?_
    refine Wl.val rfl rfl rfl (Gives.ldK rfl (by kernel_rfl) rfl hb3 rfl) ?_
    refine Wl.val rfl rfl rfl (Gives.neq rfl rfl rfl) ?_
    refine Wl.val rfl rfl rfl (Gives.move rfl rfl) ?_
    refine Wl.guard rfl rfl rfl (fun h22 => ?_) (fun h22 => ?_)
    · (first | replace h22 := of_decide_eq_false h22 | replace h22 := nd_false h22 | skip)
      refine Wl.val rfl rfl rfl (Gives.fieldAt 2 rfl Tryd.underlying33 rfl (by kernel_rfl) rfl rfl) ?_
      refine Wl.val rfl rfl rfl (Gives.ldK rfl (by kernel_rfl) rfl hb1 rfl) ?_
      refine Wl.val rfl rfl rfl (Gives.lenS rfl Tryd.underlying30 rfl) ?_
      refine Wl.val rfl rfl rfl (Gives.ixA (i := 1) rfl Tryd.underlying25 (by kernel_rfl) rfl rfl rfl (by omega)) ?_
      refine Wl.val rfl rfl rfl (Gives.ldK rfl (by kernel_rfl) rfl hb3 rfl) ?_
      refine Wl.val rfl rfl rfl (Gives.neq rfl rfl rfl) ?_
      refine Wl.val rfl rfl rfl (Gives.pickF rfl rfl rfl rfl) ?_
      refine Wl.val rfl rfl rfl (Gives.move rfl rfl) ?_
      refine Wl.guard rfl rfl rfl (fun h30 => ?_) (fun h30 => ?_)
      · (first | replace h30 := of_decide_eq_false h30 | replace h30 := nd_false h30 | skip)
        refine Wl.val rfl rfl rfl (Gives.fieldAt 3 rfl Tryd.underlying33 rfl (by kernel_rfl) rfl rfl) ?_
        refine Wl.val rfl rfl rfl (Gives.ldK rfl (by kernel_rfl) rfl hb1 rfl) ?_
        refine Wl.val rfl rfl rfl (Gives.lenS rfl Tryd.underlying29 rfl) ?_
        refine Wl.val rfl rfl rfl (Gives.ixA (i := 2) rfl Tryd.underlying25 (by kernel_rfl) rfl rfl rfl (by omega)) ?_
        refine Wl.val rfl rfl rfl (Gives.ldK rfl (by kernel_rfl) rfl hb3 rfl) ?_
        refine Wl.val rfl rfl rfl (Gives.neq rfl rfl rfl) ?_
        refine Wl.val rfl rfl rfl (Gives.pickF rfl rfl rfl rfl) ?_
        refine Wl.val rfl rfl rfl (Gives.move rfl rfl) ?_
        refine Wl.guard rfl rfl rfl (fun h38 => ?_) (fun h38 => ?_)
        · (first | replace h38 := of_decide_eq_false h38 | replace h38 := nd_false h38 | skip)
          refine Wl.val rfl rfl rfl (Gives.ixA (i := 3) rfl Tryd.underlying25 (by kernel_rfl) rfl rfl rfl (by omega)) ?_
          refine Wl.val rfl rfl rfl (Gives.ldK rfl (by kernel_rfl) rfl hb3 rfl) ?_
          refine Wl.val rfl rfl rfl (Gives.fieldAt 4 rfl Tryd.underlying33 rfl (by kernel_rfl) rfl rfl) ?_
          refine Wl.val rfl rfl rfl (Gives.ldK rfl (by kernel_rfl) rfl hb1 rfl) ?_
          refine Wl.val rfl rfl rfl (Gives.lenS rfl Tryd.underlying31 rfl) ?_
          refine Wl.val rfl rfl rfl (Gives.call rfl Tryd.func36 rfl (by kernel_rfl) rfl (fits_calls _ _ _)) ?_
          refine Wl.val rfl rfl rfl (Gives.not rfl rfl) ?_
          refine Wl.val rfl rfl rfl (Gives.pickF rfl rfl rfl rfl) ?_
          refine Wl.nil ?_
          refine Wx.thenN (hK7 _ _ ?_)
          refine Wc.cond _ rfl (fun h46 => ?_) (fun h46 => ?_)
          · (first | replace h46 := of_decide_eq_true h46 | replace h46 := nd_true h46 | skip)
            refine Wc.seq (fun K8 hK8 => ?_)
            refine Wc.keep [] (.nil) ?_
            refine Wc.region ?_
            refine Wl.val rfl rfl rfl (Gives.assign rfl rfl) ?_
            refine Wl.nil ?_
            refine Wx.thenN (hK8 _ _ ?_)
            refine Wc.ret ?_
            refine Wx.thenR ?_
            refine Wx.ret [_] ⟨rfl, trivial⟩ ?_
            exact ⟨errI (check1 hsq h29 (arg_f (by unfold argF; rw [hlb]; simp at h46; rw [h46]; simp))), hE⟩
          · (first | replace h46 := of_decide_eq_false h46 | replace h46 := nd_false h46 | skip)
            refine Wc.skip ?_
            refine Wx.thenN (hK6 _ _ ?_)
            refine Wc.seq (fun K9 hK9 => ?_)
            refine Wc.seq (fun K10 hK10 => ?_)
            refine Wc.keep [(1, _)] (.cons rfl (.nil)) ?_
            clear hb3
            have hF : argF q s = true := by
              simp at h22 h30 h38 h46
              unfold argF
              rw [hlh, hla, hli, hlb, decide_eq_true (by omega), decide_eq_true (by omega), decide_eq_true (by omega), h46]; rfl
            refine Wc.region ?_
            refine Wl.val rfl rfl rfl (Gives.assign rfl rfl) ?_
            refine Wl.nil ?_
            refine Wx.thenN (hK10 _ _ ?_)
            refine Wc.block ?_
            refine Wc.keep [(1, _), (5, _)] (.cons rfl (.cons rfl (.nil))) ?_
            refine Wc.loopC (ι := Nat) [(1, _)] (fun i => [(5, .int .i64 (i : Int))]) (fun i wr => i ≤ hn ∧ (q.hs.take i).all wordS = true ∧ Blk wr b1 33 #[.int .i64 q.code, .slice hA hn hc, .slice aA an ac, .slice iA iN ic, .slice bA bn bc] ∧ Ext w wr) (fun i => hn - i) (0) (.cons (by first | exact rfl | exact look_int rfl (by omega) | exact look_slice rfl (by omega)) (.cons rfl (.nil))) (⟨Nat.zero_le _, by simp, hb1, hE⟩) ?_
            intro i wr hJ KL1 hKL1
            clear hb1 hE
            obtain ⟨hi, hB, hb1, hE⟩ := hJ
            refine Wc.seq (fun K11 hK11 => ?_)
            refine Wc.seq (fun K12 hK12 => ?_)
            refine Wc.keep [(1, _), (5, _)] (.cons rfl (.cons rfl (.nil))) ?_
            refine Wc.region ?_
            refine Wl.val rfl rfl rfl (Gives.move rfl rfl) ?_
            refine Wl.val rfl rfl rfl (Gives.fieldAt 1 rfl Tryd.underlying33 rfl (by kernel_rfl) rfl rfl) ?_
            refine Wl.val rfl rfl rfl (Gives.ldK rfl (by kernel_rfl) rfl hb1 rfl) ?_
            refine Wl.val rfl rfl rfl (Gives.lenS rfl Tryd.underlying29 rfl) ?_
            refine Wl.val rfl rfl rfl (Gives.lss rfl rfl rfl) ?_
            refine Wl.nil ?_
            refine Wx.thenN (hK12 _ _ ?_)
            refine Wc.cond _ rfl (fun h51 => ?_) (fun h51 => ?_)
            · (first | replace h51 := of_decide_eq_true h51 | replace h51 := nd_true h51 | skip)
              refine Wc.skip ?_
              refine Wx.thenN (hK11 _ _ ?_)
              refine Wc.seq (fun K13 hK13 => ?_)
              refine Wc.block ?_
              refine Wc.seq (fun K14 hK14 => ?_)
              refine Wc.keep [(1, _), (5, _)] (.cons rfl (.cons rfl (.nil))) ?_
              obtain ⟨xb, xo, rfl, hbw, z, hz, hcell⟩ := (hhs.ext hE).at_ (show i < hn by omega)
              refine Wc.region ?_
              refine Wl.val rfl rfl rfl (Gives.fieldAt 1 rfl Tryd.underlying33 rfl (by kernel_rfl) rfl rfl) ?_
              refine Wl.val rfl rfl rfl (Gives.ldK rfl (by kernel_rfl) rfl hb1 rfl) ?_
              refine Wl.val rfl rfl rfl (Gives.move rfl rfl) ?_
              refine Wl.val rfl rfl rfl (Gives.ixS (i := _) rfl Tryd.underlying29 (by kernel_rfl) rfl rfl rfl (by omega)) ?_
              refine Wl.val rfl rfl rfl (Gives.ldC rfl (by kernel_rfl) rfl hcell) ?_
              refine Wl.val rfl rfl rfl (Gives.call rfl Tryd.func37 rfl (by kernel_rfl) rfl (number_calls _ _)) ?_
              refine Wl.val rfl rfl rfl (Gives.not rfl rfl) ?_
              refine Wl.nil ?_
              refine Wx.thenN (hK14 _ _ ?_)
              refine Wc.cond _ rfl (fun h60 => ?_) (fun h60 => ?_)
              · (first | replace h60 := of_decide_eq_true h60 | replace h60 := nd_true h60 | skip)
                refine Wc.seq (fun K15 hK15 => ?_)
                refine Wc.keep [] (.nil) ?_
                refine Wc.region ?_
                refine Wl.val rfl rfl rfl (Gives.assign rfl rfl) ?_
                refine Wl.nil ?_
                refine Wx.thenN (hK15 _ _ ?_)
                refine Wc.ret ?_
                refine Wx.blockR ?_
                refine Wx.thenR ?_
                refine Wx.thenR ?_
                refine Wx.blockR ?_
                refine Wx.thenR ?_
                refine Wx.ret [_] ⟨rfl, trivial⟩ ?_
                exact ⟨errI (check1 hsq h29 (arg_h (all_false wordS q.hs i z hz (by simpa using h60)))), hE⟩
              · (first | replace h60 := of_decide_eq_false h60 | replace h60 := nd_false h60 | skip)
                refine Wc.skip ?_
                refine Wx.blockN ?_
                refine Wx.thenN (hK13 _ _ ?_)
                refine Wc.keep [(1, _), (5, _)] (.cons rfl (.cons rfl (.nil))) ?_
                refine Wc.region ?_
                refine Wl.val rfl rfl rfl (Gives.move rfl rfl) ?_
                refine Wl.val rfl rfl rfl (Gives.add rfl rfl rfl (by first | exact IntWalk.i64_in _ (by omega) | exact u64_in _ (by omega) | exact u32_in _ (by omega) | exact u8_in _ (by omega) | exact rfl)) ?_
                refine Wl.val rfl rfl rfl (Gives.assign rfl rfl) ?_
                refine Wl.nil ?_
                refine Wx.thenN ?_
                refine hKL1 (i + 1) _ _ (.cons (by first | exact rfl | exact look_int rfl (by omega) | exact look_slice rfl (by omega)) (.cons rfl (.nil))) ⟨by omega, by rw [all_take _ _ _ _ hz, hB]; simpa using h60, hb1, hE⟩ (by omega)
            · (first | replace h51 := of_decide_eq_false h51 | replace h51 := nd_false h51 | skip)
              refine Wc.exit ?_
              refine Wx.thenE ?_
              refine Wx.thenE ?_
              refine Wx.hit ?_
              refine Wx.thenN (hK9 _ _ ?_)
              refine Wc.seq (fun K16 hK16 => ?_)
              refine Wc.seq (fun K17 hK17 => ?_)
              refine Wc.keep [(1, _)] (.cons rfl (.nil)) ?_
              obtain rfl : hn = i := by omega
              rw [all_all _ _ _ hlh] at hB
              have hB1 := hB
              clear hB
              refine Wc.region ?_
              refine Wl.val rfl rfl rfl (Gives.assign rfl rfl) ?_
              refine Wl.nil ?_
              refine Wx.thenN (hK17 _ _ ?_)
              refine Wc.block ?_
              refine Wc.keep [(1, _), (6, _)] (.cons rfl (.cons rfl (.nil))) ?_
              refine Wc.loopC (ι := Nat) [(1, _)] (fun i => [(6, .int .i64 (i : Int))]) (fun i wr => i ≤ an ∧ (q.us.take i).all authW = true ∧ Blk wr b1 33 #[.int .i64 q.code, .slice hA hn hc, .slice aA an ac, .slice iA iN ic, .slice bA bn bc] ∧ Ext w wr) (fun i => an - i) (0) (.cons (by first | exact rfl | exact look_int rfl (by omega) | exact look_slice rfl (by omega)) (.cons rfl (.nil))) (⟨Nat.zero_le _, by simp, hb1, hE⟩) ?_
              intro i wr hJ KL2 hKL2
              clear hb1 hE
              obtain ⟨hi, hB, hb1, hE⟩ := hJ
              refine Wc.seq (fun K18 hK18 => ?_)
              refine Wc.seq (fun K19 hK19 => ?_)
              refine Wc.keep [(1, _), (6, _)] (.cons rfl (.cons rfl (.nil))) ?_
              refine Wc.region ?_
              refine Wl.val rfl rfl rfl (Gives.move rfl rfl) ?_
              refine Wl.val rfl rfl rfl (Gives.fieldAt 2 rfl Tryd.underlying33 rfl (by kernel_rfl) rfl rfl) ?_
              refine Wl.val rfl rfl rfl (Gives.ldK rfl (by kernel_rfl) rfl hb1 rfl) ?_
              refine Wl.val rfl rfl rfl (Gives.lenS rfl Tryd.underlying30 rfl) ?_
              refine Wl.val rfl rfl rfl (Gives.lss rfl rfl rfl) ?_
              refine Wl.nil ?_
              refine Wx.thenN (hK19 _ _ ?_)
              refine Wc.cond _ rfl (fun h65 => ?_) (fun h65 => ?_)
              · (first | replace h65 := of_decide_eq_true h65 | replace h65 := nd_true h65 | skip)
                refine Wc.skip ?_
                refine Wx.thenN (hK18 _ _ ?_)
                refine Wc.seq (fun K20 hK20 => ?_)
                refine Wc.block ?_
                refine Wc.seq (fun K21 hK21 => ?_)
                refine Wc.keep [(1, _), (6, _)] (.cons rfl (.cons rfl (.nil))) ?_
                obtain ⟨xb, xo, rfl, hbw, a, N, nn, nc, V, vn, vc, ha, hrg, hN0, hV0⟩ := (hus.ext hE).at_ (show i < an by omega)
                refine Wc.region ?_
                refine Wl.val rfl rfl rfl (Gives.fieldAt 2 rfl Tryd.underlying33 rfl (by kernel_rfl) rfl rfl) ?_
                refine Wl.val rfl rfl rfl (Gives.ldK rfl (by kernel_rfl) rfl hb1 rfl) ?_
                refine Wl.val rfl rfl rfl (Gives.move rfl rfl) ?_
                refine Wl.val rfl rfl rfl (Gives.ixSZ (i := _) (sz := 3) rfl Tryd.underlying30 (by kernel_rfl) rfl rfl rfl (by omega)) ?_
                refine Wl.val rfl rfl rfl (Gives.fieldAt 0 rfl Tryd.underlying38 rfl (by kernel_rfl) rfl rfl) ?_
                refine Wl.val rfl rfl rfl (Gives.ldC rfl (by kernel_rfl) rfl (hrg 0 _ rfl)) ?_
                refine Wl.val rfl rfl rfl (Gives.call rfl Tryd.func37 rfl (by kernel_rfl) rfl (number_calls _ _)) ?_
                refine Wl.val rfl rfl rfl (Gives.not rfl rfl) ?_
                refine Wl.nil ?_
                refine Wx.thenN (hK21 _ _ ?_)
                refine Wc.cond _ rfl (fun h75 => ?_) (fun h75 => ?_)
                · (first | replace h75 := of_decide_eq_true h75 | replace h75 := nd_true h75 | skip)
                  refine Wc.seq (fun K22 hK22 => ?_)
                  refine Wc.keep [] (.nil) ?_
                  refine Wc.region ?_
                  refine Wl.val rfl rfl rfl (Gives.assign rfl rfl) ?_
                  refine Wl.nil ?_
                  refine Wx.thenN (hK22 _ _ ?_)
                  refine Wc.ret ?_
                  refine Wx.blockR ?_
                  refine Wx.thenR ?_
                  refine Wx.thenR ?_
                  refine Wx.blockR ?_
                  refine Wx.thenR ?_
                  refine Wx.ret [_] ⟨rfl, trivial⟩ ?_
                  exact ⟨errI (check1 hsq h29 (arg_u (all_false authW q.us i a ha (by simpa [authW] using h75)))), hE⟩
                · (first | replace h75 := of_decide_eq_false h75 | replace h75 := nd_false h75 | skip)
                  refine Wc.skip ?_
                  refine Wx.blockN ?_
                  refine Wx.thenN (hK20 _ _ ?_)
                  refine Wc.keep [(1, _), (6, _)] (.cons rfl (.cons rfl (.nil))) ?_
                  refine Wc.region ?_
                  refine Wl.val rfl rfl rfl (Gives.move rfl rfl) ?_
                  refine Wl.val rfl rfl rfl (Gives.add rfl rfl rfl (by first | exact IntWalk.i64_in _ (by omega) | exact u64_in _ (by omega) | exact u32_in _ (by omega) | exact u8_in _ (by omega) | exact rfl)) ?_
                  refine Wl.val rfl rfl rfl (Gives.assign rfl rfl) ?_
                  refine Wl.nil ?_
                  refine Wx.thenN ?_
                  refine hKL2 (i + 1) _ _ (.cons (by first | exact rfl | exact look_int rfl (by omega) | exact look_slice rfl (by omega)) (.cons rfl (.nil))) ⟨by omega, by rw [all_take _ _ _ _ ha, hB]; simpa [authW] using h75, hb1, hE⟩ (by omega)
              · (first | replace h65 := of_decide_eq_false h65 | replace h65 := nd_false h65 | skip)
                refine Wc.exit ?_
                refine Wx.thenE ?_
                refine Wx.thenE ?_
                refine Wx.hit ?_
                refine Wx.thenN (hK16 _ _ ?_)
                refine Wc.seq (fun K23 hK23 => ?_)
                refine Wc.seq (fun K24 hK24 => ?_)
                refine Wc.keep [(1, _)] (.cons rfl (.nil)) ?_
                obtain rfl : an = i := by omega
                rw [all_all _ _ _ hla] at hB
                have hB2 := hB
                clear hB
                refine Wc.region ?_
                refine Wl.val rfl rfl rfl (Gives.assign rfl rfl) ?_
                refine Wl.nil ?_
                refine Wx.thenN (hK24 _ _ ?_)
                refine Wc.block ?_
                refine Wc.keep [(1, _), (7, _)] (.cons rfl (.cons rfl (.nil))) ?_
                refine Wc.loopC (ι := Nat) [(1, _)] (fun i => [(7, .int .i64 (i : Int))]) (fun i wr => i ≤ iN ∧ (q.is.take i).all timeS = true ∧ Blk wr b1 33 #[.int .i64 q.code, .slice hA hn hc, .slice aA an ac, .slice iA iN ic, .slice bA bn bc] ∧ Ext w wr) (fun i => iN - i) (0) (.cons (by first | exact rfl | exact look_int rfl (by omega) | exact look_slice rfl (by omega)) (.cons rfl (.nil))) (⟨Nat.zero_le _, by simp, hb1, hE⟩) ?_
                intro i wr hJ KL3 hKL3
                clear hb1 hE
                obtain ⟨hi, hB, hb1, hE⟩ := hJ
                refine Wc.seq (fun K25 hK25 => ?_)
                refine Wc.seq (fun K26 hK26 => ?_)
                refine Wc.keep [(1, _), (7, _)] (.cons rfl (.cons rfl (.nil))) ?_
                refine Wc.region ?_
                refine Wl.val rfl rfl rfl (Gives.move rfl rfl) ?_
                refine Wl.val rfl rfl rfl (Gives.fieldAt 3 rfl Tryd.underlying33 rfl (by kernel_rfl) rfl rfl) ?_
                refine Wl.val rfl rfl rfl (Gives.ldK rfl (by kernel_rfl) rfl hb1 rfl) ?_
                refine Wl.val rfl rfl rfl (Gives.lenS rfl Tryd.underlying29 rfl) ?_
                refine Wl.val rfl rfl rfl (Gives.lss rfl rfl rfl) ?_
                refine Wl.nil ?_
                refine Wx.thenN (hK26 _ _ ?_)
                refine Wc.cond _ rfl (fun h80 => ?_) (fun h80 => ?_)
                · (first | replace h80 := of_decide_eq_true h80 | replace h80 := nd_true h80 | skip)
                  refine Wc.skip ?_
                  refine Wx.thenN (hK25 _ _ ?_)
                  refine Wc.seq (fun K27 hK27 => ?_)
                  refine Wc.block ?_
                  refine Wc.seq (fun K28 hK28 => ?_)
                  refine Wc.keep [(1, _), (7, _)] (.cons rfl (.cons rfl (.nil))) ?_
                  obtain ⟨xb, xo, rfl, hbw, z, hz, hcell⟩ := (his.ext hE).at_ (show i < iN by omega)
                  refine Wc.region ?_
                  refine Wl.val rfl rfl rfl (Gives.fieldAt 3 rfl Tryd.underlying33 rfl (by kernel_rfl) rfl rfl) ?_
                  refine Wl.val rfl rfl rfl (Gives.ldK rfl (by kernel_rfl) rfl hb1 rfl) ?_
                  refine Wl.val rfl rfl rfl (Gives.move rfl rfl) ?_
                  refine Wl.val rfl rfl rfl (Gives.ixS (i := _) rfl Tryd.underlying29 (by kernel_rfl) rfl rfl rfl (by omega)) ?_
                  refine Wl.val rfl rfl rfl (Gives.ldC rfl (by kernel_rfl) rfl hcell) ?_
                  refine Wl.val rfl rfl rfl (Gives.lss rfl rfl rfl) ?_
                  refine Wl.val rfl rfl rfl (Gives.move rfl rfl) ?_
                  refine Wl.guard rfl rfl rfl (fun h89 => ?_) (fun h89 => ?_)
                  · (first | replace h89 := of_decide_eq_false h89 | replace h89 := nd_false h89 | skip)
                    refine Wl.val rfl rfl rfl (Gives.fieldAt 3 rfl Tryd.underlying33 rfl (by kernel_rfl) rfl rfl) ?_
                    refine Wl.val rfl rfl rfl (Gives.ldK rfl (by kernel_rfl) rfl hb1 rfl) ?_
                    refine Wl.val rfl rfl rfl (Gives.move rfl rfl) ?_
                    refine Wl.val rfl rfl rfl (Gives.ixS (i := _) rfl Tryd.underlying29 (by kernel_rfl) rfl rfl rfl (by omega)) ?_
                    refine Wl.val rfl rfl rfl (Gives.ldC rfl (by kernel_rfl) rfl hcell) ?_
                    refine Wl.val rfl rfl rfl (Gives.gtr rfl rfl rfl) ?_
                    refine Wl.val rfl rfl rfl (Gives.pickF rfl rfl rfl rfl) ?_
                    refine Wl.nil ?_
                    refine Wx.thenN (hK28 _ _ ?_)
                    refine Wc.cond _ rfl (fun h96 => ?_) (fun h96 => ?_)
                    · (first | replace h96 := of_decide_eq_true h96 | replace h96 := nd_true h96 | skip)
                      refine Wc.seq (fun K29 hK29 => ?_)
                      refine Wc.keep [] (.nil) ?_
                      refine Wc.region ?_
                      refine Wl.val rfl rfl rfl (Gives.assign rfl rfl) ?_
                      refine Wl.nil ?_
                      refine Wx.thenN (hK29 _ _ ?_)
                      refine Wc.ret ?_
                      refine Wx.blockR ?_
                      refine Wx.thenR ?_
                      refine Wx.thenR ?_
                      refine Wx.blockR ?_
                      refine Wx.thenR ?_
                      refine Wx.ret [_] ⟨rfl, trivial⟩ ?_
                      exact ⟨errI (check1 hsq h29 (arg_i (all_false timeS q.is i z hz (by unfold timeS; rw [decide_eq_false (p := z ≤ 1099511627776) (by omega)]; simp)))), hE⟩
                    · (first | replace h96 := of_decide_eq_false h96 | replace h96 := nd_false h96 | skip)
                      refine Wc.skip ?_
                      refine Wx.blockN ?_
                      refine Wx.thenN (hK27 _ _ ?_)
                      refine Wc.keep [(1, _), (7, _)] (.cons rfl (.cons rfl (.nil))) ?_
                      refine Wc.region ?_
                      refine Wl.val rfl rfl rfl (Gives.move rfl rfl) ?_
                      refine Wl.val rfl rfl rfl (Gives.add rfl rfl rfl (by first | exact IntWalk.i64_in _ (by omega) | exact u64_in _ (by omega) | exact u32_in _ (by omega) | exact u8_in _ (by omega) | exact rfl)) ?_
                      refine Wl.val rfl rfl rfl (Gives.assign rfl rfl) ?_
                      refine Wl.nil ?_
                      refine Wx.thenN ?_
                      refine hKL3 (i + 1) _ _ (.cons (by first | exact rfl | exact look_int rfl (by omega) | exact look_slice rfl (by omega)) (.cons rfl (.nil))) ⟨by omega, by rw [all_take _ _ _ _ hz, hB]; unfold timeS; rw [decide_eq_true (by omega), decide_eq_true (by omega)]; rfl, hb1, hE⟩ (by omega)
                  · (first | replace h89 := of_decide_eq_true h89 | replace h89 := nd_true h89 | skip)
                    refine Wl.pass rfl rfl rfl ?_
                    refine Wl.pass rfl rfl rfl ?_
                    refine Wl.pass rfl rfl rfl ?_
                    refine Wl.pass rfl rfl rfl ?_
                    refine Wl.pass rfl rfl rfl ?_
                    refine Wl.pass rfl rfl rfl ?_
                    refine Wl.val rfl rfl rfl (Gives.pickT rfl rfl rfl rfl) ?_
                    refine Wl.nil ?_
                    refine Wx.thenN (hK28 _ _ ?_)
                    refine Wc.condT rfl rfl ?_
                    refine Wc.seq (fun K30 hK30 => ?_)
                    refine Wc.keep [] (.nil) ?_
                    refine Wc.region ?_
                    refine Wl.val rfl rfl rfl (Gives.assign rfl rfl) ?_
                    refine Wl.nil ?_
                    refine Wx.thenN (hK30 _ _ ?_)
                    refine Wc.ret ?_
                    refine Wx.blockR ?_
                    refine Wx.thenR ?_
                    refine Wx.thenR ?_
                    refine Wx.blockR ?_
                    refine Wx.thenR ?_
                    refine Wx.ret [_] ⟨rfl, trivial⟩ ?_
                    exact ⟨errI (check1 hsq h29 (arg_i (all_false timeS q.is i z hz (by unfold timeS; rw [decide_eq_false (by omega)]; rfl)))), hE⟩
                · (first | replace h80 := of_decide_eq_false h80 | replace h80 := nd_false h80 | skip)
                  refine Wc.exit ?_
                  refine Wx.thenE ?_
                  refine Wx.thenE ?_
                  refine Wx.hit ?_
                  refine Wx.thenN (hK23 _ _ ?_)
                  refine Wc.seq (fun K31 hK31 => ?_)
                  refine Wc.seq (fun K32 hK32 => ?_)
                  refine Wc.keep [(1, _)] (.cons rfl (.nil)) ?_
                  obtain rfl : iN = i := by omega
                  rw [all_all _ _ _ hli] at hB
                  have hArg : argOk q s = true := by unfold argOk; rw [hF, hB1, hB2, hB]; rfl
                  refine Wc.region ?_
                  refine Wl.val rfl rfl rfl (Gives.ldW rfl (by kernel_rfl) rfl hb1 (by kernel_rfl)) ?_
                  refine Wl.call rfl rfl rfl rfl Tryd.func38 rfl (by kernel_rfl) rfl (longR_calls (P := P) _ q ⟨hA, hn, hc, aA, an, ac, iA, iN, ic, bA, bn, bc⟩ (hq0.ext hE) hsm0) ?_
                  rintro x2 w12 ⟨rfl, hx2⟩
                  refine ⟨_, rfl, ?_⟩
                  replace hb1 := hb1.ext hx2
                  replace hE := hE.trans hx2
                  refine Wl.nil ?_
                  refine Wx.thenN (hK32 _ _ ?_)
                  refine Wc.cond _ rfl (fun h98 => ?_) (fun h98 => ?_)
                  · (first | replace h98 := of_decide_eq_true h98 | replace h98 := nd_true h98 | skip)
                    refine Wc.seq (fun K33 hK33 => ?_)
                    refine Wc.keep [] (.nil) ?_
                    refine Wc.region ?_
                    refine Wl.val rfl rfl rfl (Gives.assign rfl rfl) ?_
                    refine Wl.nil ?_
                    refine Wx.thenN (hK33 _ _ ?_)
                    refine Wc.ret ?_
                    refine Wx.thenR ?_
                    refine Wx.ret [_] ⟨rfl, trivial⟩ ?_
                    exact ⟨errI (check4 hsq h29 hArg h98), hE⟩
                  · (first | replace h98 := of_decide_eq_false h98 | replace h98 := nd_false h98 | skip)
                    refine Wc.skip ?_
                    refine Wx.thenN (hK31 _ _ ?_)
                    refine Wc.seq (fun K34 hK34 => ?_)
                    refine Wc.keep [] (.nil) ?_
                    refine Wc.region ?_
                    refine Wl.val rfl rfl rfl (Gives.assign rfl rfl) ?_
                    refine Wl.nil ?_
                    refine Wx.thenN (hK34 _ _ ?_)
                    refine Wc.ret ?_
                    refine Wx.ret [_] ⟨rfl, trivial⟩ ?_
                    exact ⟨errI (check0 hsq h29 hArg h98), hE⟩
        · (first | replace h38 := of_decide_eq_true h38 | replace h38 := nd_true h38 | skip)
          refine Wl.pass rfl rfl rfl ?_
          refine Wl.pass rfl rfl rfl ?_
          refine Wl.pass rfl rfl rfl ?_
          refine Wl.pass rfl rfl rfl ?_
          refine Wl.pass rfl rfl rfl ?_
          refine Wl.pass rfl rfl rfl ?_
          refine Wl.pass rfl rfl rfl ?_
          refine Wl.val rfl rfl rfl (Gives.pickT rfl rfl rfl rfl) ?_
          refine Wl.nil ?_
          refine Wx.thenN (hK7 _ _ ?_)
          refine Wc.condT rfl rfl ?_
          refine Wc.seq (fun K35 hK35 => ?_)
          refine Wc.keep [] (.nil) ?_
          refine Wc.region ?_
          refine Wl.val rfl rfl rfl (Gives.assign rfl rfl) ?_
          refine Wl.nil ?_
          refine Wx.thenN (hK35 _ _ ?_)
          refine Wc.ret ?_
          refine Wx.thenR ?_
          refine Wx.ret [_] ⟨rfl, trivial⟩ ?_
          exact ⟨errI (check1 hsq h29 (arg_f (by unfold argF; rw [hli]; (try simp at h38); rw [decide_eq_false (p := (iN : Int) = s.i) (by omega)]; simp))), hE⟩
      · (first | replace h30 := of_decide_eq_true h30 | replace h30 := nd_true h30 | skip)
        refine Wl.pass rfl rfl rfl ?_
        refine Wl.pass rfl rfl rfl ?_
        refine Wl.pass rfl rfl rfl ?_
        refine Wl.pass rfl rfl rfl ?_
        refine Wl.pass rfl rfl rfl ?_
        refine Wl.pass rfl rfl rfl ?_
        refine Wl.val rfl rfl rfl (Gives.pickT rfl rfl rfl rfl) ?_
        refine Wl.val rfl rfl rfl (Gives.move rfl rfl) ?_
        refine Wl.guardF rfl rfl rfl rfl ?_
        refine Wl.pass rfl rfl rfl ?_
        refine Wl.pass rfl rfl rfl ?_
        refine Wl.pass rfl rfl rfl ?_
        refine Wl.pass rfl rfl rfl ?_
        refine Wl.pass rfl rfl rfl ?_
        refine Wl.pass rfl rfl rfl ?_
        refine Wl.pass rfl rfl rfl ?_
        refine Wl.val rfl rfl rfl (Gives.pickT rfl rfl rfl rfl) ?_
        refine Wl.nil ?_
        refine Wx.thenN (hK7 _ _ ?_)
        refine Wc.condT rfl rfl ?_
        refine Wc.seq (fun K36 hK36 => ?_)
        refine Wc.keep [] (.nil) ?_
        refine Wc.region ?_
        refine Wl.val rfl rfl rfl (Gives.assign rfl rfl) ?_
        refine Wl.nil ?_
        refine Wx.thenN (hK36 _ _ ?_)
        refine Wc.ret ?_
        refine Wx.thenR ?_
        refine Wx.ret [_] ⟨rfl, trivial⟩ ?_
        exact ⟨errI (check1 hsq h29 (arg_f (by unfold argF; rw [hla]; (try simp at h30); rw [decide_eq_false (p := (an : Int) = s.a) (by omega)]; simp))), hE⟩
    · (first | replace h22 := of_decide_eq_true h22 | replace h22 := nd_true h22 | skip)
      refine Wl.pass rfl rfl rfl ?_
      refine Wl.pass rfl rfl rfl ?_
      refine Wl.pass rfl rfl rfl ?_
      refine Wl.pass rfl rfl rfl ?_
      refine Wl.pass rfl rfl rfl ?_
      refine Wl.pass rfl rfl rfl ?_
      refine Wl.val rfl rfl rfl (Gives.pickT rfl rfl rfl rfl) ?_
      refine Wl.val rfl rfl rfl (Gives.move rfl rfl) ?_
      refine Wl.guardF rfl rfl rfl rfl ?_
      refine Wl.pass rfl rfl rfl ?_
      refine Wl.pass rfl rfl rfl ?_
      refine Wl.pass rfl rfl rfl ?_
      refine Wl.pass rfl rfl rfl ?_
      refine Wl.pass rfl rfl rfl ?_
      refine Wl.pass rfl rfl rfl ?_
      refine Wl.val rfl rfl rfl (Gives.pickT rfl rfl rfl rfl) ?_
      refine Wl.val rfl rfl rfl (Gives.move rfl rfl) ?_
      refine Wl.guardF rfl rfl rfl rfl ?_
      refine Wl.pass rfl rfl rfl ?_
      refine Wl.pass rfl rfl rfl ?_
      refine Wl.pass rfl rfl rfl ?_
      refine Wl.pass rfl rfl rfl ?_
      refine Wl.pass rfl rfl rfl ?_
      refine Wl.pass rfl rfl rfl ?_
      refine Wl.pass rfl rfl rfl ?_
      refine Wl.val rfl rfl rfl (Gives.pickT rfl rfl rfl rfl) ?_
      refine Wl.nil ?_
      refine Wx.thenN (hK7 _ _ ?_)
      refine Wc.condT rfl rfl ?_
      refine Wc.seq (fun K37 hK37 => ?_)
      refine Wc.keep [] (.nil) ?_
      refine Wc.region ?_
      refine Wl.val rfl rfl rfl (Gives.assign rfl rfl) ?_
      refine Wl.nil ?_
      refine Wx.thenN (hK37 _ _ ?_)
      refine Wc.ret ?_
      refine Wx.thenR ?_
      refine Wx.ret [_] ⟨rfl, trivial⟩ ?_
      exact ⟨errI (check1 hsq h29 (arg_f (by unfold argF; rw [hlh]; (try simp at h22); rw [decide_eq_false (p := (hn : Int) = s.h) (by omega)]; simp))), hE⟩
set_option maxRecDepth 10000 in
theorem encodeR_calls {P : Nat → Prop} (w : World) (q : Req) (r : RA) (hq : ReqV w P q r) (hsm : FewQ q) :
    Calls Tryd.prog 17 #[.agg #[.int .i64 q.code, .slice r.hA r.hn r.hc, .slice r.aA r.an r.ac, .slice r.iA r.iN r.ic, .slice r.bA r.bn r.bc]] w fun e w' => ∃ S m c, e = .returned (.tuple #[.slice S m c, .int .i64 (checkS q)]) ∧ OB w' w.heap.size 5 S m c (encS q) ∧ Ext w w' := by
  have hq0 := hq
  have hsm0 := hsm
  obtain ⟨hA, hn, hc, aA, an, ac, iA, iN, ic, bA, bn, bc⟩ := r
  have hhs : IV w P hA hn hc q.hs := hq.hs
  have hus : AV w P aA an ac q.us := hq.us
  have his : IV w P iA iN ic q.is := hq.is
  have hbs : BL w P bA bn bc q.bs := hq.bs
  have hlh := hhs.len
  have hla := hus.len
  have hli := his.len
  have hlb := hbs.len
  obtain ⟨hs1, hs2, hs3, hs4⟩ := hsm
  clear hq
  show Calls Tryd.prog _ #[.agg #[.int .i64 q.code, .slice hA hn hc, .slice aA an ac, .slice iA iN ic, .slice bA bn bc]] w _
  refine calls_enter Tryd.func17 rfl Tryd.ntmps17 rfl ?_
  have hE : Ext w w := Ext.refl w
  refine Wc.seq (fun K1 hK1 => ?_)
  refine Wc.keep [(0, _)] (.cons rfl (.nil)) ?_
  refine Wc.region ?_
  refine Wl.does rfl rfl rfl (Does.boxA rfl rfl) ?_
  rintro _ w0_0 ⟨b1, rfl, hs1, hb1, hx0_0⟩
  have hg1 : w.heap.size ≤ b1 := Nat.le_trans hE.size hs1
  replace hE := hE.trans hx0_0
  refine Wl.val rfl rfl rfl (Gives.assign rfl rfl) ?_
  refine Wl.val rfl rfl rfl (Gives.assign rfl rfl) ?_
  refine Wl.nil ?_
  refine Wx.thenN (hK1 _ _ ?_)
  refine Wc.seq (fun K2 hK2 => ?_)
  refine Wc.seq (fun K3 hK3 => ?_)
  refine Wc.keep [(1, _)] (.cons rfl (.nil)) ?_
  refine Wc.region ?_
  refine Wl.val rfl rfl rfl (Gives.ldW rfl (by kernel_rfl) rfl hb1 (by kernel_rfl)) ?_
  refine Wl.call rfl rfl rfl rfl Tryd.func19 rfl (by kernel_rfl) rfl (checkR_calls (P := P) _ q ⟨hA, hn, hc, aA, an, ac, iA, iN, ic, bA, bn, bc⟩ (hq0.ext hE) hsm0) ?_
  rintro x1 w11 ⟨rfl, hx1⟩
  refine ⟨_, rfl, ?_⟩
  replace hb1 := hb1.ext hx1
  replace hE := hE.trans hx1
  refine Wl.val rfl rfl rfl (Gives.assign rfl rfl) ?_
  refine Wl.nil ?_
  refine Wx.thenN (hK3 _ _ ?_)
  refine Wc.seq (fun K4 hK4 => ?_)
  refine Wc.keep [(1, _), (4, _)] (.cons rfl (.cons rfl (.nil))) ?_
  refine Wc.region ?_
  refine Wl.val rfl rfl rfl (Gives.move rfl rfl) ?_
  refine Wl.val rfl rfl rfl (Gives.neq rfl rfl rfl) ?_
  refine Wl.nil ?_
  refine Wx.thenN (hK4 _ _ ?_)
  refine Wc.cond _ rfl (fun h8 => ?_) (fun h8 => ?_)
  · (first | replace h8 := of_decide_eq_true h8 | replace h8 := nd_true h8 | skip)
    refine Wc.seq (fun K5 hK5 => ?_)
    refine Wc.keep [(4, _)] (.cons rfl (.nil)) ?_
    refine Wc.region ?_
    refine Wl.val rfl rfl rfl (Gives.move rfl rfl) ?_
    refine Wl.val rfl rfl rfl (Gives.assign rfl rfl) ?_
    refine Wl.val rfl rfl rfl (Gives.assign rfl rfl) ?_
    refine Wl.nil ?_
    refine Wx.thenN (hK5 _ _ ?_)
    refine Wc.ret ?_
    refine Wx.thenR ?_
    refine Wx.ret [_, _] ⟨rfl, ⟨rfl, trivial⟩⟩ ?_
    exact ⟨none, 0, 0, rfl, by unfold encS; rw [if_neg (by simpa using h8)]; exact OB.nil_ _ _ _, hE⟩
  · (first | replace h8 := of_decide_eq_false h8 | replace h8 := nd_false h8 | skip)
    refine Wc.skip ?_
    refine Wx.thenN (hK2 _ _ ?_)
    refine Wc.seq (fun K6 hK6 => ?_)
    refine Wc.keep [(1, _)] (.cons rfl (.nil)) ?_
    refine Wc.region ?_
    refine Wl.val rfl rfl rfl (Gives.ldW rfl (by kernel_rfl) rfl hb1 (by kernel_rfl)) ?_
    refine Wl.call rfl rfl rfl rfl Tryd.func33 rfl (by kernel_rfl) rfl (formR_calls (P := P) _ q ⟨hA, hn, hc, aA, an, ac, iA, iN, ic, bA, bn, bc⟩ (hq0.ext hE) (small0 hsm0 (by simpa using h8))) ?_
    rintro x2 w12 ⟨S, m, c, rfl, hO, hx2⟩
    refine ⟨_, rfl, ?_⟩
    replace hO := hO.mono hE.size
    replace hb1 := hb1.ext hx2
    replace hE := hE.trans hx2
    refine Wl.val rfl rfl rfl (Gives.assign rfl rfl) ?_
    refine Wl.val rfl rfl rfl (Gives.assign rfl rfl) ?_
    refine Wl.nil ?_
    refine Wx.thenN (hK6 _ _ ?_)
    refine Wc.ret ?_
    refine Wx.ret [_, _] ⟨rfl, ⟨rfl, trivial⟩⟩ ?_
    have h8' : checkS q = 0 := by simpa using h8
    exact ⟨S, m, c, by rw [h8']; rfl, by unfold encS; rw [if_pos h8']; exact hO, hE⟩
end Go.Proofs.YtaekpiejdgahfaaDoor
