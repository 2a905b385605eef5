/- Responses: writing of the reference; responses made by the statements. -/
import Derived.Test.YtaekpiejdgahfaaDoorCmdR1
import Derived.Test.YtaekpiejdgahfaaDoorCmdSh
namespace Go.Proofs.YtaekpiejdgahfaaDoor
set_option linter.all false
open Go.RowKit
set_option maxHeartbeats 1000000 in
set_option maxRecDepth 10000 in
theorem encRespR_calls {P : Nat → Prop} (w : World) (x : Rsp) (r : RB) (hx : RspV w P x r) (hsm : SmallR x) :
    Calls Tryd.prog 25 #[.agg #[.int .i64 x.err, .slice r.iA r.iN r.ic, .slice r.bA r.bn r.bc, .slice r.nA r.nn r.nc]] w fun e w' => ∃ S m c, e = .returned (.slice S m c) ∧ OB w' w.heap.size 5 S m c (respS x) ∧ Ext w w' := by
  obtain ⟨iA, iN, ic, bA, bn, bc, nA, nn, nc⟩ := r
  have his : IV w P iA iN ic x.is := hx.is
  have hbs : BL w P bA bn bc x.bs := hx.bs
  have hns : BL w P nA nn nc x.ns := hx.ns
  have hli := his.len
  have hlb := hbs.len
  have hln := hns.len
  clear hx
  obtain ⟨hs1, hs2, hs3, hs4, hs5⟩ := hsm
  show Calls Tryd.prog _ #[.agg #[.int .i64 x.err, .slice iA iN ic, .slice bA bn bc, .slice nA nn nc]] w _
  refine calls_enter Tryd.func25 rfl Tryd.ntmps25 rfl ?_
  have hE : Ext w w := Ext.refl w
  refine Wc.seq (fun K1 hK1 => ?_)
  refine Wc.keep [(0, _)] (.cons rfl (.nil)) ?_
  refine Wc.region ?_
  refine Wl.does rfl rfl rfl (Does.boxA rfl rfl) ?_
  rintro _ w0_0 ⟨b1, rfl, hs1, hb1, hx0_0⟩
  have hg1 : w.heap.size ≤ b1 := Nat.le_trans hE.size hs1
  replace hE := hE.trans hx0_0
  refine Wl.val rfl rfl rfl (Gives.assign rfl rfl) ?_
  refine Wl.nil ?_
  refine Wx.thenN (hK1 _ _ ?_)
  refine Wc.seq (fun K2 hK2 => ?_)
  refine Wc.keep [(1, _)] (.cons rfl (.nil)) ?_
  refine Wc.region ?_
  refine Wl.val rfl rfl rfl (Gives.fieldAt 0 rfl Tryd.underlying54 rfl (by kernel_rfl) rfl rfl) ?_
  refine Wl.val rfl rfl rfl (Gives.ldK rfl (by kernel_rfl) rfl hb1 rfl) ?_
  refine Wl.val rfl rfl rfl (Gives.conv rfl Tryd.underlying40 Tryd.underlying5 rfl (byteOf_int _)) ?_
  refine Wl.does rfl rfl rfl (Does.lit rfl Tryd.underlying36 infoB2 rfl rfl rfl rfl rfl) ?_
  rintro _ w1 ⟨g1, rfl, hs1', hk1, hx1⟩
  have hM1 : MB w1 g1 5 [byteOf x.err] := mb1 (byteOf x.err) hk1 rfl
  have hO := MB.ob hM1 (base := b1 + 1) (Nat.le_trans hb1.lt hs1') (n := 1) (c := 1) rfl (Nat.le_refl _) rfl (by omega)
  replace hb1 := hb1.ext hx1
  replace hE := hE.trans hx1
  refine Wl.val rfl rfl rfl (Gives.assign rfl rfl) ?_
  refine Wl.nil ?_
  refine Wx.thenN (hK2 _ _ ?_)
  refine Wc.seq (fun K3 hK3 => ?_)
  refine Wc.seq (fun K4 hK4 => ?_)
  refine Wc.keep [(1, _), (3, _)] (.cons rfl (.cons rfl (.nil))) ?_
  refine Wc.region ?_
  refine Wl.val rfl rfl rfl (Gives.fieldAt 0 rfl Tryd.underlying54 rfl (by kernel_rfl) rfl rfl) ?_
  refine Wl.val rfl rfl rfl (Gives.ldK rfl (by kernel_rfl) rfl hb1 rfl) ?_
  refine Wl.val rfl rfl rfl (Gives.neq rfl rfl rfl) ?_
  refine Wl.nil ?_
  refine Wx.thenN (hK4 _ _ ?_)
  refine Wc.cond _ rfl (fun h16 => ?_) (fun h16 => ?_)
  · (first | replace h16 := of_decide_eq_true h16 | replace h16 := nd_true h16 | skip)
    refine Wc.seq (fun K5 hK5 => ?_)
    refine Wc.keep [(3, _)] (.cons rfl (.nil)) ?_
    refine Wc.region ?_
    refine Wl.val rfl rfl rfl (Gives.move rfl rfl) ?_
    refine Wl.val rfl rfl rfl (Gives.assign rfl rfl) ?_
    refine Wl.nil ?_
    refine Wx.thenN (hK5 _ _ ?_)
    refine Wc.ret ?_
    refine Wx.thenR ?_
    refine Wx.ret [_] ⟨rfl, trivial⟩ ?_
    exact ⟨_, _, _, rfl, by unfold respS; rw [if_neg h16]; exact hO.mono (Nat.le_succ_of_le hg1), hE⟩
  · (first | replace h16 := of_decide_eq_false h16 | replace h16 := nd_false h16 | skip)
    refine Wc.skip ?_
    refine Wx.thenN (hK3 _ _ ?_)
    refine Wc.seq (fun K6 hK6 => ?_)
    refine Wc.keep [(1, _), (3, _)] (.cons rfl (.cons rfl (.nil))) ?_
    refine Wc.region ?_
    refine Wl.val rfl rfl rfl (Gives.move rfl rfl) ?_
    refine Wl.val rfl rfl rfl (Gives.fieldAt 1 rfl Tryd.underlying54 rfl (by kernel_rfl) rfl rfl) ?_
    refine Wl.val rfl rfl rfl (Gives.ldK rfl (by kernel_rfl) rfl hb1 rfl) ?_
    refine Wl.val rfl rfl rfl (Gives.lenS rfl Tryd.underlying29 rfl) ?_
    refine Wl.val rfl rfl rfl (Gives.conv rfl Tryd.underlying3 Tryd.underlying5 rfl (byteOf_int _)) ?_
    refine Wl.does rfl rfl rfl (Does.lit rfl Tryd.underlying36 infoB2 rfl rfl rfl rfl rfl) ?_
    rintro _ w45 ⟨g45, rfl, hs45, hk45, hx45⟩
    have hO2 := hO.ext hx45
    replace hb1 := hb1.ext hx45
    replace hE := hE.trans hx45
    refine Wl.does rfl rfl rfl (Does.appO rfl Tryd.underlying36 infoB rfl rfl hO2 ((mb1 (byteOf (iN : Int)) hk45 rfl).bv (P := fun _ => True) trivial rfl (Nat.le_refl _) (by omega)) (by omega) hb1.lt) ?_
    rintro _ w46 ⟨S4, c4, rfl, hO4, hB4⟩
    replace hE := Ext.step hE hB4 (Nat.le_succ_of_le hg1)
    replace hb1 := Blk.bel hb1 hB4 (Nat.lt_succ_self _)
    have hB0 : [byteOf x.err] ++ [byteOf (iN : Int)] = [byteOf x.err] ++ [byteOf x.is.length] := by rw [hli]
    rw [hB0] at hO4
    generalize hBq : [byteOf x.err] ++ [byteOf (x.is.length : Int)] = B0 at *
    refine Wl.val rfl rfl rfl (Gives.assign rfl rfl) ?_
    refine Wl.nil ?_
    refine Wx.thenN (hK6 _ _ ?_)
    refine Wc.seq (fun K7 hK7 => ?_)
    refine Wc.seq (fun K8 hK8 => ?_)
    refine Wc.keep [(1, _), (3, _)] (.cons rfl (.cons rfl (.nil))) ?_
    refine Wc.region ?_
    refine Wl.val rfl rfl rfl (Gives.assign rfl rfl) ?_
    refine Wl.nil ?_
    refine Wx.thenN (hK8 _ _ ?_)
    refine Wc.block ?_
    refine Wc.keep [(1, _), (3, _), (4, _)] (.cons rfl (.cons rfl (.cons rfl (.nil)))) ?_
    refine Wc.loopC (ι := Nat × Option Addr × Nat × Nat) [(1, _)] (fun | (i, S, m, c) => [(4, .int .i64 (i : Int)), (3, .slice S m c)]) (fun | (i, S, m, c), wr => i ≤ iN ∧ m ≤ 2 + 8 * i ∧ OB wr (b1 + 1) 5 S m c (intsS B0 (x.is.take i)) ∧ Blk wr b1 54 #[.int .i64 x.err, .slice iA iN ic, .slice bA bn bc, .slice nA nn nc] ∧ Ext w wr) (fun | (i, _, _, _) => iN - i) ((0, S4, 1 + 1, c4)) (.cons (by first | exact rfl | exact look_int rfl (by omega) | exact look_slice rfl (by omega)) (.cons (by first | exact rfl | exact look_int rfl (by omega) | exact look_slice rfl (by omega)) (.cons rfl (.nil)))) (⟨Nat.zero_le _, by omega, hO4, hb1, hE⟩) ?_
    intro ⟨i, S, m, c⟩ wr hJ KL1 hKL1
    clear hb1 hE hO4
    obtain ⟨hi, hm, hO, hb1, hE⟩ := hJ
    refine Wc.seq (fun K9 hK9 => ?_)
    refine Wc.seq (fun K10 hK10 => ?_)
    refine Wc.keep [(1, _), (3, _), (4, _)] (.cons rfl (.cons rfl (.cons rfl (.nil)))) ?_
    refine Wc.region ?_
    refine Wl.val rfl rfl rfl (Gives.move rfl rfl) ?_
    refine Wl.val rfl rfl rfl (Gives.fieldAt 1 rfl Tryd.underlying54 rfl (by kernel_rfl) rfl rfl) ?_
    refine Wl.val rfl rfl rfl (Gives.ldK rfl (by kernel_rfl) rfl hb1 rfl) ?_
    refine Wl.val rfl rfl rfl (Gives.lenS rfl Tryd.underlying29 rfl) ?_
    refine Wl.val rfl rfl rfl (Gives.lss rfl rfl rfl) ?_
    refine Wl.nil ?_
    refine Wx.thenN (hK10 _ _ ?_)
    refine Wc.cond _ rfl (fun h26 => ?_) (fun h26 => ?_)
    · (first | replace h26 := of_decide_eq_true h26 | replace h26 := nd_true h26 | skip)
      refine Wc.skip ?_
      refine Wx.thenN (hK9 _ _ ?_)
      refine Wc.seq (fun K11 hK11 => ?_)
      refine Wc.block ?_
      refine Wc.keep [(1, _), (3, _), (4, _)] (.cons rfl (.cons rfl (.cons rfl (.nil)))) ?_
      obtain ⟨xb, xo, rfl, hbw, z, hz, hcell⟩ := (his.ext hE).at_ (show i < iN by omega)
      refine Wc.region ?_
      refine Wl.val rfl rfl rfl (Gives.move rfl rfl) ?_
      refine Wl.val rfl rfl rfl (Gives.fieldAt 1 rfl Tryd.underlying54 rfl (by kernel_rfl) rfl rfl) ?_
      refine Wl.val rfl rfl rfl (Gives.ldK rfl (by kernel_rfl) rfl hb1 rfl) ?_
      refine Wl.val rfl rfl rfl (Gives.move rfl rfl) ?_
      refine Wl.val rfl rfl rfl (Gives.ixS (i := _) rfl Tryd.underlying29 (by kernel_rfl) rfl rfl rfl (by omega)) ?_
      refine Wl.val rfl rfl rfl (Gives.ldC rfl (by kernel_rfl) rfl hcell) ?_
      refine Wl.call rfl rfl rfl rfl Tryd.func52 rfl (by kernel_rfl) rfl (uintR_calls (P := fun _ => True) _ S m c _ (hO.bv (fun _ _ => trivial)) (by omega) 8 z) ?_
      rintro x1 w15 ⟨S1, m1, c1, rfl, hO1, hx1⟩
      refine ⟨_, rfl, ?_⟩
      replace hO1 := hO1.mono hb1.lt
      have hl0 := hO.len
      have hl1 := hO1.len
      have hl2 := uintS_len (intsS B0 (x.is.take i)) 8 z
      replace hb1 := hb1.ext hx1
      replace hE := hE.trans hx1
      refine Wl.val rfl rfl rfl (Gives.assign rfl rfl) ?_
      refine Wl.nil ?_
      refine Wx.blockN ?_
      refine Wx.thenN (hK11 _ _ ?_)
      refine Wc.keep [(1, _), (3, _), (4, _)] (.cons rfl (.cons rfl (.cons rfl (.nil)))) ?_
      refine Wc.region ?_
      refine Wl.val rfl rfl rfl (Gives.move rfl rfl) ?_
      refine Wl.val rfl rfl rfl (Gives.add rfl rfl rfl (by first | exact IntWalk.i64_in _ (by omega) | exact u64_in _ (by omega) | exact u32_in _ (by omega) | exact u8_in _ (by omega) | exact rfl)) ?_
      refine Wl.val rfl rfl rfl (Gives.assign rfl rfl) ?_
      refine Wl.nil ?_
      refine Wx.thenN ?_
      refine hKL1 (i + 1, S1, m1, c1) _ _ (.cons (by first | exact rfl | exact look_int rfl (by omega) | exact look_slice rfl (by omega)) (.cons (by first | exact rfl | exact look_int rfl (by omega) | exact look_slice rfl (by omega)) (.cons rfl (.nil)))) ⟨by omega, by omega, by unfold intsS at hO1 ⊢; rw [fold_take _ _ _ _ _ hz]; exact hO1, hb1, hE⟩ (by show iN - (i + 1) < iN - i; omega)
    · (first | replace h26 := of_decide_eq_false h26 | replace h26 := nd_false h26 | skip)
      refine Wc.exit ?_
      refine Wx.thenE ?_
      refine Wx.thenE ?_
      refine Wx.hit ?_
      refine Wx.thenN (hK7 _ _ ?_)
      refine Wc.seq (fun K12 hK12 => ?_)
      refine Wc.keep [(1, _), (3, _)] (.cons rfl (.cons rfl (.nil))) ?_
      obtain rfl : iN = i := by omega
      unfold intsS at hO
      rw [fold_all _ _ _ _ hli] at hO
      have hOI : OB wr (b1 + 1) 5 S m c (respI x) := by unfold respI intsS; rw [hBq]; exact hO
      clear hO
      refine Wc.region ?_
      refine Wl.val rfl rfl rfl (Gives.move rfl rfl) ?_
      refine Wl.val rfl rfl rfl (Gives.fieldAt 2 rfl Tryd.underlying54 rfl (by kernel_rfl) rfl rfl) ?_
      refine Wl.val rfl rfl rfl (Gives.ldK rfl (by kernel_rfl) rfl hb1 rfl) ?_
      refine Wl.val rfl rfl rfl (Gives.lenS rfl Tryd.underlying31 rfl) ?_
      refine Wl.val rfl rfl rfl (Gives.conv rfl Tryd.underlying3 Tryd.underlying5 rfl (byteOf_int _)) ?_
      refine Wl.does rfl rfl rfl (Does.lit rfl Tryd.underlying36 infoB2 rfl rfl rfl rfl rfl) ?_
      rintro _ w95 ⟨g95, rfl, hs95, hk95, hx95⟩
      have hO2 := hOI.ext hx95
      replace hb1 := hb1.ext hx95
      replace hE := hE.trans hx95
      refine Wl.does rfl rfl rfl (Does.appO rfl Tryd.underlying36 infoB rfl rfl hO2 ((mb1 (byteOf (bn : Int)) hk95 rfl).bv (P := fun _ => True) trivial rfl (Nat.le_refl _) (by omega)) (by omega) hb1.lt) ?_
      rintro _ w96 ⟨S5, c5, rfl, hO5, hB5⟩
      replace hE := Ext.step hE hB5 (Nat.le_succ_of_le hg1)
      replace hb1 := Blk.bel hb1 hB5 (Nat.lt_succ_self _)
      have hB1 : respI x ++ [byteOf (bn : Int)] = respI x ++ [byteOf x.bs.length] := by rw [hlb]
      rw [hB1] at hO5
      generalize hBr : respI x ++ [byteOf (x.bs.length : Int)] = B5 at *
      refine Wl.val rfl rfl rfl (Gives.assign rfl rfl) ?_
      refine Wl.nil ?_
      refine Wx.thenN (hK12 _ _ ?_)
      refine Wc.seq (fun K13 hK13 => ?_)
      refine Wc.seq (fun K14 hK14 => ?_)
      refine Wc.keep [(1, _), (3, _)] (.cons rfl (.cons rfl (.nil))) ?_
      refine Wc.region ?_
      refine Wl.val rfl rfl rfl (Gives.assign rfl rfl) ?_
      refine Wl.nil ?_
      refine Wx.thenN (hK14 _ _ ?_)
      refine Wc.block ?_
      refine Wc.keep [(1, _), (3, _), (5, _)] (.cons rfl (.cons rfl (.cons rfl (.nil)))) ?_
      refine Wc.loopC (ι := Nat × Option Addr × Nat × Nat) [(1, _)] (fun | (i, S, m, c) => [(5, .int .i64 (i : Int)), (3, .slice S m c)]) (fun | (i, S, m', c), wr => i ≤ bn ∧ m' ≤ m + 1 + 65543 * i ∧ OB wr (b1 + 1) 5 S m' c (blobsS B5 (x.bs.take i)) ∧ Blk wr b1 54 #[.int .i64 x.err, .slice iA iN ic, .slice bA bn bc, .slice nA nn nc] ∧ Ext w wr) (fun | (i, _, _, _) => bn - i) ((0, S5, m + 1, c5)) (.cons (by first | exact rfl | exact look_int rfl (by omega) | exact look_slice rfl (by omega)) (.cons (by first | exact rfl | exact look_int rfl (by omega) | exact look_slice rfl (by omega)) (.cons rfl (.nil)))) (⟨Nat.zero_le _, by omega, hO5, hb1, hE⟩) ?_
      intro ⟨i, S, m', c⟩ wr3 hJ KL2 hKL2
      clear hb1 hE
      obtain ⟨hi3, hm3, hO, hb1, hE⟩ := hJ
      refine Wc.seq (fun K15 hK15 => ?_)
      refine Wc.seq (fun K16 hK16 => ?_)
      refine Wc.keep [(1, _), (3, _), (5, _)] (.cons rfl (.cons rfl (.cons rfl (.nil)))) ?_
      refine Wc.region ?_
      refine Wl.val rfl rfl rfl (Gives.move rfl rfl) ?_
      refine Wl.val rfl rfl rfl (Gives.fieldAt 2 rfl Tryd.underlying54 rfl (by kernel_rfl) rfl rfl) ?_
      refine Wl.val rfl rfl rfl (Gives.ldK rfl (by kernel_rfl) rfl hb1 rfl) ?_
      refine Wl.val rfl rfl rfl (Gives.lenS rfl Tryd.underlying31 rfl) ?_
      refine Wl.val rfl rfl rfl (Gives.lss rfl rfl rfl) ?_
      refine Wl.nil ?_
      refine Wx.thenN (hK16 _ _ ?_)
      refine Wc.cond _ rfl (fun h47 => ?_) (fun h47 => ?_)
      · (first | replace h47 := of_decide_eq_true h47 | replace h47 := nd_true h47 | skip)
        refine Wc.skip ?_
        refine Wx.thenN (hK15 _ _ ?_)
        refine Wc.seq (fun K17 hK17 => ?_)
        refine Wc.block ?_
        refine Wc.keep [(1, _), (3, _), (5, _)] (.cons rfl (.cons rfl (.cons rfl (.nil)))) ?_
        obtain ⟨xb, xo, rfl, hbw, z, zA, zn, zc, hz, hcell3, hZ⟩ := (hbs.ext hE).at' (show i < bn by omega)
        have hzn := hZ.len
        have hzw := hs4 z (List.mem_of_getElem? hz)
        refine Wc.region ?_
        refine Wl.val rfl rfl rfl (Gives.move rfl rfl) ?_
        refine Wl.val rfl rfl rfl (Gives.fieldAt 2 rfl Tryd.underlying54 rfl (by kernel_rfl) rfl rfl) ?_
        refine Wl.val rfl rfl rfl (Gives.ldK rfl (by kernel_rfl) rfl hb1 rfl) ?_
        refine Wl.val rfl rfl rfl (Gives.move rfl rfl) ?_
        refine Wl.val rfl rfl rfl (Gives.ixS (i := _) rfl Tryd.underlying31 (by kernel_rfl) rfl rfl rfl (by omega)) ?_
        refine Wl.val rfl rfl rfl (Gives.ldC rfl (by kernel_rfl) rfl hcell3) ?_
        refine Wl.call rfl rfl rfl rfl Tryd.func53 rfl (by kernel_rfl) rfl (blobR_calls (P := fun _ => True) _ S m' c _ (hO.bv (fun _ _ => trivial)) (by omega) zA zn zc z hZ (by omega)) ?_
        rintro x1 w21 ⟨S1, m1, c1, rfl, hO1, hx1⟩
        refine ⟨_, rfl, ?_⟩
        replace hO1 := hO1.mono hb1.lt
        have hl0 := hO.len
        have hl1 := hO1.len
        have hl2 := blobS_len (blobsS B5 (x.bs.take i)) z
        replace hb1 := hb1.ext hx1
        replace hE := hE.trans hx1
        refine Wl.val rfl rfl rfl (Gives.assign rfl rfl) ?_
        refine Wl.nil ?_
        refine Wx.blockN ?_
        refine Wx.thenN (hK17 _ _ ?_)
        refine Wc.keep [(1, _), (3, _), (5, _)] (.cons rfl (.cons rfl (.cons rfl (.nil)))) ?_
        refine Wc.region ?_
        refine Wl.val rfl rfl rfl (Gives.move rfl rfl) ?_
        refine Wl.val rfl rfl rfl (Gives.add rfl rfl rfl (by first | exact IntWalk.i64_in _ (by omega) | exact u64_in _ (by omega) | exact u32_in _ (by omega) | exact u8_in _ (by omega) | exact rfl)) ?_
        refine Wl.val rfl rfl rfl (Gives.assign rfl rfl) ?_
        refine Wl.nil ?_
        refine Wx.thenN ?_
        refine hKL2 (i + 1, S1, m1, c1) _ _ (.cons (by first | exact rfl | exact look_int rfl (by omega) | exact look_slice rfl (by omega)) (.cons (by first | exact rfl | exact look_int rfl (by omega) | exact look_slice rfl (by omega)) (.cons rfl (.nil)))) ⟨by omega, by omega, by unfold blobsS at hO1 ⊢; rw [fold_take _ _ _ _ _ hz]; exact hO1, hb1, hE⟩ (by show bn - (i + 1) < bn - i; omega)
      · (first | replace h47 := of_decide_eq_false h47 | replace h47 := nd_false h47 | skip)
        refine Wc.exit ?_
        refine Wx.thenE ?_
        refine Wx.thenE ?_
        refine Wx.hit ?_
        refine Wx.thenN (hK13 _ _ ?_)
        refine Wc.seq (fun K18 hK18 => ?_)
        refine Wc.keep [(1, _), (3, _)] (.cons rfl (.cons rfl (.nil))) ?_
        obtain rfl : bn = i := by omega
        unfold blobsS at hO
        rw [fold_all _ _ _ _ hlb] at hO
        have hO6 : OB wr3 (b1 + 1) 5 S m' c (listS (respI x) x.bs) := by
          unfold listS blobsS
          rw [hBr]; exact hO
        clear hO
        refine Wc.region ?_
        refine Wl.val rfl rfl rfl (Gives.move rfl rfl) ?_
        refine Wl.val rfl rfl rfl (Gives.fieldAt 3 rfl Tryd.underlying54 rfl (by kernel_rfl) rfl rfl) ?_
        refine Wl.val rfl rfl rfl (Gives.ldK rfl (by kernel_rfl) rfl hb1 rfl) ?_
        refine Wl.val rfl rfl rfl (Gives.lenS rfl Tryd.underlying31 rfl) ?_
        refine Wl.val rfl rfl rfl (Gives.conv rfl Tryd.underlying3 Tryd.underlying5 rfl (byteOf_int _)) ?_
        refine Wl.does rfl rfl rfl (Does.lit rfl Tryd.underlying36 infoB2 rfl rfl rfl rfl rfl) ?_
        rintro _ w145 ⟨g145, rfl, hs145, hk145, hx145⟩
        have hO7 := hO6.ext hx145
        replace hb1 := hb1.ext hx145
        replace hE := hE.trans hx145
        refine Wl.does rfl rfl rfl (Does.appO rfl Tryd.underlying36 infoB rfl rfl hO7 ((mb1 (byteOf (nn : Int)) hk145 rfl).bv (P := fun _ => True) trivial rfl (Nat.le_refl _) (by omega)) (by omega) hb1.lt) ?_
        rintro _ w146 ⟨S7, c7, rfl, hO8, hB7⟩
        replace hE := Ext.step hE hB7 (Nat.le_succ_of_le hg1)
        replace hb1 := Blk.bel hb1 hB7 (Nat.lt_succ_self _)
        have hB2 : listS (respI x) x.bs ++ [byteOf (nn : Int)] = listS (respI x) x.bs ++ [byteOf x.ns.length] := by rw [hln]
        rw [hB2] at hO8
        generalize hBs : listS (respI x) x.bs ++ [byteOf (x.ns.length : Int)] = B7 at *
        refine Wl.val rfl rfl rfl (Gives.assign rfl rfl) ?_
        refine Wl.nil ?_
        refine Wx.thenN (hK18 _ _ ?_)
        refine Wc.seq (fun K19 hK19 => ?_)
        refine Wc.seq (fun K20 hK20 => ?_)
        refine Wc.keep [(1, _), (3, _)] (.cons rfl (.cons rfl (.nil))) ?_
        refine Wc.region ?_
        refine Wl.val rfl rfl rfl (Gives.assign rfl rfl) ?_
        refine Wl.nil ?_
        refine Wx.thenN (hK20 _ _ ?_)
        refine Wc.block ?_
        refine Wc.keep [(1, _), (3, _), (6, _)] (.cons rfl (.cons rfl (.cons rfl (.nil)))) ?_
        refine Wc.loopC (ι := Nat × Option Addr × Nat × Nat) [(1, _)] (fun | (i, S, m, c) => [(6, .int .i64 (i : Int)), (3, .slice S m c)]) (fun | (i, S, m2, c), wr => i ≤ nn ∧ m2 ≤ m' + 1 + 65543 * i ∧ OB wr (b1 + 1) 5 S m2 c (blobsS B7 (x.ns.take i)) ∧ Blk wr b1 54 #[.int .i64 x.err, .slice iA iN ic, .slice bA bn bc, .slice nA nn nc] ∧ Ext w wr) (fun | (i, _, _, _) => nn - i) ((0, S7, m' + 1, c7)) (.cons (by first | exact rfl | exact look_int rfl (by omega) | exact look_slice rfl (by omega)) (.cons (by first | exact rfl | exact look_int rfl (by omega) | exact look_slice rfl (by omega)) (.cons rfl (.nil)))) (⟨Nat.zero_le _, by omega, hO8, hb1, hE⟩) ?_
        intro ⟨i, S, m2, c⟩ wr4 hJ KL3 hKL3
        clear hb1 hE
        obtain ⟨hi4, hm4, hO, hb1, hE⟩ := hJ
        refine Wc.seq (fun K21 hK21 => ?_)
        refine Wc.seq (fun K22 hK22 => ?_)
        refine Wc.keep [(1, _), (3, _), (6, _)] (.cons rfl (.cons rfl (.cons rfl (.nil)))) ?_
        refine Wc.region ?_
        refine Wl.val rfl rfl rfl (Gives.move rfl rfl) ?_
        refine Wl.val rfl rfl rfl (Gives.fieldAt 3 rfl Tryd.underlying54 rfl (by kernel_rfl) rfl rfl) ?_
        refine Wl.val rfl rfl rfl (Gives.ldK rfl (by kernel_rfl) rfl hb1 rfl) ?_
        refine Wl.val rfl rfl rfl (Gives.lenS rfl Tryd.underlying31 rfl) ?_
        refine Wl.val rfl rfl rfl (Gives.lss rfl rfl rfl) ?_
        refine Wl.nil ?_
        refine Wx.thenN (hK22 _ _ ?_)
        refine Wc.cond _ rfl (fun h68 => ?_) (fun h68 => ?_)
        · (first | replace h68 := of_decide_eq_true h68 | replace h68 := nd_true h68 | skip)
          refine Wc.skip ?_
          refine Wx.thenN (hK21 _ _ ?_)
          refine Wc.seq (fun K23 hK23 => ?_)
          refine Wc.block ?_
          refine Wc.keep [(1, _), (3, _), (6, _)] (.cons rfl (.cons rfl (.cons rfl (.nil)))) ?_
          obtain ⟨xb, xo, rfl, hbw, z, zA, zn, zc, hz, hcell4, hZ⟩ := (hns.ext hE).at' (show i < nn by omega)
          have hzn := hZ.len
          have hzw := hs5 z (List.mem_of_getElem? hz)
          refine Wc.region ?_
          refine Wl.val rfl rfl rfl (Gives.move rfl rfl) ?_
          refine Wl.val rfl rfl rfl (Gives.fieldAt 3 rfl Tryd.underlying54 rfl (by kernel_rfl) rfl rfl) ?_
          refine Wl.val rfl rfl rfl (Gives.ldK rfl (by kernel_rfl) rfl hb1 rfl) ?_
          refine Wl.val rfl rfl rfl (Gives.move rfl rfl) ?_
          refine Wl.val rfl rfl rfl (Gives.ixS (i := _) rfl Tryd.underlying31 (by kernel_rfl) rfl rfl rfl (by omega)) ?_
          refine Wl.val rfl rfl rfl (Gives.ldC rfl (by kernel_rfl) rfl hcell4) ?_
          refine Wl.call rfl rfl rfl rfl Tryd.func53 rfl (by kernel_rfl) rfl (blobR_calls (P := fun _ => True) _ S m2 c _ (hO.bv (fun _ _ => trivial)) (by omega) zA zn zc z hZ (by omega)) ?_
          rintro x1 w21 ⟨S1, m1, c1, rfl, hO1, hx1⟩
          refine ⟨_, rfl, ?_⟩
          replace hO1 := hO1.mono hb1.lt
          have hl0 := hO.len
          have hl1 := hO1.len
          have hl2 := blobS_len (blobsS B7 (x.ns.take i)) z
          replace hb1 := hb1.ext hx1
          replace hE := hE.trans hx1
          refine Wl.val rfl rfl rfl (Gives.assign rfl rfl) ?_
          refine Wl.nil ?_
          refine Wx.blockN ?_
          refine Wx.thenN (hK23 _ _ ?_)
          refine Wc.keep [(1, _), (3, _), (6, _)] (.cons rfl (.cons rfl (.cons rfl (.nil)))) ?_
          refine Wc.region ?_
          refine Wl.val rfl rfl rfl (Gives.move rfl rfl) ?_
          refine Wl.val rfl rfl rfl (Gives.add rfl rfl rfl (by first | exact IntWalk.i64_in _ (by omega) | exact u64_in _ (by omega) | exact u32_in _ (by omega) | exact u8_in _ (by omega) | exact rfl)) ?_
          refine Wl.val rfl rfl rfl (Gives.assign rfl rfl) ?_
          refine Wl.nil ?_
          refine Wx.thenN ?_
          refine hKL3 (i + 1, S1, m1, c1) _ _ (.cons (by first | exact rfl | exact look_int rfl (by omega) | exact look_slice rfl (by omega)) (.cons (by first | exact rfl | exact look_int rfl (by omega) | exact look_slice rfl (by omega)) (.cons rfl (.nil)))) ⟨by omega, by omega, by unfold blobsS at hO1 ⊢; rw [fold_take _ _ _ _ _ hz]; exact hO1, hb1, hE⟩ (by show nn - (i + 1) < nn - i; omega)
        · (first | replace h68 := of_decide_eq_false h68 | replace h68 := nd_false h68 | skip)
          refine Wc.exit ?_
          refine Wx.thenE ?_
          refine Wx.thenE ?_
          refine Wx.hit ?_
          refine Wx.thenN (hK19 _ _ ?_)
          refine Wc.seq (fun K24 hK24 => ?_)
          refine Wc.keep [(3, _)] (.cons rfl (.nil)) ?_
          obtain rfl : nn = i := by omega
          unfold blobsS at hO
          rw [fold_all _ _ _ _ hln] at hO
          have hO9 : OB wr4 (b1 + 1) 5 S m2 c (listS (listS (respI x) x.bs) x.ns) := by
            conv => arg 6; unfold listS blobsS
            unfold listS blobsS at hBs
            first | (rw [hBs]; exact hO) | (rw [← hBs] at hO; exact hO)
          have hO10 := hO9.mono (Nat.le_succ_of_le hg1)
          refine Wc.region ?_
          refine Wl.val rfl rfl rfl (Gives.move rfl rfl) ?_
          refine Wl.val rfl rfl rfl (Gives.assign rfl rfl) ?_
          refine Wl.nil ?_
          refine Wx.thenN (hK24 _ _ ?_)
          refine Wc.ret ?_
          refine Wx.ret [_] ⟨rfl, trivial⟩ ?_
          exact ⟨_, _, _, rfl, by unfold respS; rw [if_pos h16]; exact hO10, hE⟩
/-! responses of the statements -/
structure LW (w : World) (S : Nat → Prop) (lo hi : Nat) (A : Option Addr) (n c : Nat) (l : List (List UInt8)) : Prop where
  own : OL w S lo A n c l
  win : Win A hi
theorem LW.close {w : World} {S : Nat → Prop} {lo n c : Nat} {A : Option Addr} {l : List (List UInt8)} (h : OL w S lo A n c l) : LW w S lo w.heap.size A n c l := let ⟨vs, ho, _⟩ := h; ⟨h, Win.of ho⟩
theorem LW.fr {w w' : World} {P S : Nat → Prop} {lo hi n c : Nat} {A : Option Addr} {l : List (List UInt8)} (h : LW w S lo hi A n c l) (f : Fr P w w') (hp : ∀ k, lo ≤ k → k < hi → P k) (hs : ∀ k, S k → P k) : LW w' S lo hi A n c l :=
  let ⟨vs, ho, he⟩ := h.own
  ⟨⟨vs, own_frW ho h.win f hp, (he.fr (f.mono fun k hk => hs k hk.1)).mono fun k hk => ⟨hk.1, Nat.lt_of_lt_of_le hk.2.1 f.size, hk.2.2⟩⟩, h.win⟩
theorem LW.bl {w : World} {P S : Nat → Prop} {lo hi n c : Nat} {A : Option Addr} {l : List (List UInt8)} (h : LW w S lo hi A n c l) (hP : ∀ k, lo ≤ k → k < hi → P k) (hs : ∀ k, S k → P k) : BL w P A n c l := let ⟨vs, ho, he⟩ := h.own; ⟨vs, own_win ho h.win hP, he.mono fun k hk => hs k hk.1⟩
theorem cell_go {w w9 wc wS : World} {b o : Nat} {v : Value} (h : w.cell? ⟨b, o, none⟩ = some v) (hb : b < w.heap.size) (hE : Ext w w9) (hX : Ext w9 wc) (hS : Fr (Old w9.heap.size []) wc wS) : wS.cell? ⟨b, o, none⟩ = some v :=
  (World.cell?_of_block (w := wc) (a := ⟨b, o, none⟩) (hS.block b (Nat.lt_of_lt_of_le hb (hE.trans hX).size) ⟨Nat.lt_of_lt_of_le hb hE.size, trivial⟩)).trans ((World.cell?_of_block (w := w) (a := ⟨b, o, none⟩) ((hE.trans hX).below.block b hb)).trans h)
def RspM (w : World) (e : Ending) (w' : World) : Prop := ∃ x r, e = .returned (.tuple #[.agg #[.int .i64 x.err, .slice r.iA r.iN r.ic, .slice r.bA r.bn r.bc, .slice r.nA r.nn r.nc], .bool true]) ∧ GoodR x ∧ RspV w' (fun _ => True) x r ∧ Ext w w'
set_option maxHeartbeats 2000000 in
set_option maxRecDepth 10000 in
theorem response_calls {P1 P2 P3 : Nat → Prop} (w : World) (er8 : UInt8) (iA : Option Addr) (iN ic : Nat) (is : List Int) (his : IV w P1 iA iN ic is) (bA : Option Addr) (bn bc : Nat) (bs : List (List UInt8)) (hbs : BL w P2 bA bn bc bs) (nA : Option Addr) (nn nc : Nat) (ns : List (List UInt8)) (hns : BL w P3 nA nn nc ns) :
    Calls Tryd.prog 24 #[.int .u8 (er8.toNat : Int), .slice iA iN ic, .slice bA bn bc, .slice nA nn nc] w (RspM w) := by
  have hle1 := his.le
  have hle2 := hbs.le
  have hle3 := hns.le
  have he8 := er8.toNat_lt
  refine calls_enter Tryd.func24 rfl Tryd.ntmps24 rfl ?_
  have hE : Ext w w := Ext.refl w
  refine Wc.seq (fun K1 hK1 => ?_)
  refine Wc.keep [(0, _), (1, _), (2, _), (3, _)] (.cons rfl (.cons rfl (.cons rfl (.cons rfl (.nil))))) ?_
  refine Wc.region ?_
  refine Wl.does rfl rfl rfl (Does.alB (.agg #[(.int .i64 0), (.slice none 0 0), (.slice none 0 0), (.slice none 0 0)]) rfl (by kernel_rfl) rfl) ?_
  rintro _ w0_0 ⟨b8, rfl, hs8, hb8, hx0_0⟩
  have hg8 : w.heap.size ≤ b8 := Nat.le_trans hE.size hs8
  replace hE := hE.trans hx0_0
  have hlt8 : b8 < w0_0.heap.size := hb8.lt
  refine Wl.val rfl rfl rfl (Gives.assign rfl rfl) ?_
  refine Wl.nil ?_
  refine Wx.thenN (hK1 _ _ ?_)
  refine Wc.seq (fun K2 hK2 => ?_)
  refine Wc.keep [(0, _), (1, _), (2, _), (3, _), (8, _)] (.cons rfl (.cons rfl (.cons rfl (.cons rfl (.cons rfl (.nil)))))) ?_
  refine Wc.region ?_
  refine Wl.val rfl rfl rfl (Gives.move rfl rfl) ?_
  refine Wl.val rfl rfl rfl (Gives.rem rfl rfl rfl (by omega) (by first | exact Int.tmod_eq_emod_of_nonneg (by omega) | exact rfl)) ?_
  refine Wl.val rfl rfl rfl (Gives.conv rfl Tryd.underlying5 Tryd.underlying40 rfl (by first | exact IntWalk.i64_in _ (by omega) | exact u64_in _ (by omega) | exact u32_in _ (by omega) | exact u8_in _ (by omega) | exact rfl)) ?_
  refine Wl.val rfl rfl rfl (Gives.buildS (pl := [(0, 1), (1, 1), (2, 1), (3, 1)]) (zv := (.agg #[(.int .i64 0), (.slice none 0 0), (.slice none 0 0), (.slice none 0 0)])) rfl Tryd.underlying54 (by kernel_rfl) (by kernel_rfl) rfl rfl) ?_
  refine Wl.does rfl rfl rfl (Does.alB (.agg #[(.int .i64 0), (.slice none 0 0), (.slice none 0 0), (.slice none 0 0)]) rfl (by kernel_rfl) rfl) ?_
  rintro _ w1_4 ⟨b10, rfl, hs10, hb10, hx1_4⟩
  have hn8_10 : b8 ≠ b10 := hb8.ne hs10
  have hg10 : w.heap.size ≤ b10 := Nat.le_trans hE.size hs10
  replace hb8 := hb8.ext hx1_4
  replace hE := hE.trans hx1_4
  refine Wl.acts rfl rfl (Does.stL 4 rfl rfl rfl hb10 (by kernel_rfl) rfl rfl rfl) ?_
  rintro _ w1_5 ⟨hbn, hF1_5⟩
  replace hb8 := hb8.fr hF1_5 (by first | assumption | exact Ne.symm (by assumption))
  replace hE := Ext.over hE hF1_5 hg10
  replace hb10 := hbn
  clear hbn
  have h810 : b8 < b10 := by omega
  generalize her : (er8.toNat : Int) % 40 = er at *
  refine Wl.nil ?_
  refine Wx.thenN (hK2 _ _ ?_)
  refine Wc.seq (fun K3 hK3 => ?_)
  refine Wc.seq (fun K4 hK4 => ?_)
  refine Wc.keep [(1, _), (2, _), (3, _), (8, _), (10, _)] (.cons rfl (.cons rfl (.cons rfl (.cons rfl (.cons rfl (.nil)))))) ?_
  refine Wc.region ?_
  refine Wl.val rfl rfl rfl (Gives.fieldAt 0 rfl Tryd.underlying54 rfl (by kernel_rfl) rfl rfl) ?_
  refine Wl.val rfl rfl rfl (Gives.ldK rfl (by kernel_rfl) rfl hb10 rfl) ?_
  refine Wl.val rfl rfl rfl (Gives.neq rfl rfl rfl) ?_
  refine Wl.nil ?_
  refine Wx.thenN (hK4 _ _ ?_)
  refine Wc.cond _ rfl (fun h20 => ?_) (fun h20 => ?_)
  · (first | replace h20 := of_decide_eq_true h20 | replace h20 := nd_true h20 | skip)
    refine Wc.seq (fun K5 hK5 => ?_)
    refine Wc.keep [(8, _), (10, _)] (.cons rfl (.cons rfl (.nil))) ?_
    refine Wc.region ?_
    refine Wl.val rfl rfl rfl (Gives.ldW rfl (by kernel_rfl) rfl hb10 (by kernel_rfl)) ?_
    refine Wl.acts rfl rfl (Does.stL 4 rfl rfl rfl hb8 (by kernel_rfl) rfl rfl rfl) ?_
    rintro _ w3_1 ⟨hbn, hF3_1⟩
    replace hb10 := hb10.fr hF3_1 (by first | assumption | exact Ne.symm (by assumption))
    replace hE := Ext.over hE hF3_1 hg8
    replace hb8 := hbn
    clear hbn
    refine Wl.val rfl rfl rfl (Gives.assign rfl rfl) ?_
    refine Wl.nil ?_
    refine Wx.thenN (hK5 _ _ ?_)
    refine Wc.ret ?_
    refine Wx.thenR ?_
    refine Wx.ret [_, _] ⟨⟨_, rfl, res_blk hb8 Tryd.underlying54 rfl (by kernel_rfl)⟩, ⟨rfl, trivial⟩⟩ ?_
    exact ⟨⟨er, [], [], []⟩, RB.nil, rfl, ⟨by show 0 ≤ er ∧ er < 256; omega, fun _ => ⟨rfl, rfl, rfl⟩, by show 0 ≤ 6; omega, by show 0 ≤ 4; omega, by show 0 ≤ 2; omega, by simp, by simp, by simp⟩, ⟨IV.nil_ _ _, BL.nil_ _ _, BL.nil_ _ _⟩, hE⟩
  · (first | replace h20 := of_decide_eq_false h20 | replace h20 := nd_false h20 | skip)
    refine Wc.skip ?_
    refine Wx.thenN (hK3 _ _ ?_)
    refine Wc.joinC (ι := Nat × Option Addr × Nat × List Int) [(2, _), (3, _), (8, _), (10, _)] (fun _ => []) (fun | (i, B, c1, xs), wr => i ≤ 6 ∧ IW wr (b10 + 1) wr.heap.size B i c1 xs ∧ (∀ z ∈ xs, 0 ≤ z ∧ z ≤ 9223372036854775807) ∧ Blk wr b10 54 #[.int .i64 0, .slice B i c1, .slice none 0 0, .slice none 0 0] ∧ Blk wr b8 54 #[.int .i64 0, .slice none 0 0, .slice none 0 0, .slice none 0 0] ∧ Ext w wr) ?_ ?_ (.cons rfl (.cons rfl (.cons rfl (.cons rfl (.nil)))))
    · intro K6 hJ6
      refine Wc.seq (fun K7 hK7 => ?_)
      refine Wc.keep [(1, _), (2, _), (3, _), (8, _), (10, _)] (.cons rfl (.cons rfl (.cons rfl (.cons rfl (.cons rfl (.nil)))))) ?_
      obtain rfl : er = 0 := h20
      refine Wc.region ?_
      refine Wl.val rfl rfl rfl (Gives.assign rfl rfl) ?_
      refine Wl.nil ?_
      refine Wx.thenN (hK7 _ _ ?_)
      refine Wc.block ?_
      refine Wc.keep [(1, _), (2, _), (3, _), (8, _), (10, _), (11, _)] (.cons rfl (.cons rfl (.cons rfl (.cons rfl (.cons rfl (.cons rfl (.nil))))))) ?_
      refine Wc.loopC (ι := Nat × Option Addr × Nat × List Int) [(1, _), (2, _), (3, _), (8, _), (10, _)] (fun | (i, _, _, _) => [(11, .int .i64 (i : Int))]) (fun | (i, B, c1, xs), wr => i ≤ iN ∧ i ≤ 6 ∧ OI wr (b10 + 1) B i c1 xs ∧ (∀ z ∈ xs, 0 ≤ z ∧ z ≤ 9223372036854775807) ∧ Blk wr b10 54 #[.int .i64 0, .slice B i c1, .slice none 0 0, .slice none 0 0] ∧ Blk wr b8 54 #[.int .i64 0, .slice none 0 0, .slice none 0 0, .slice none 0 0] ∧ Ext w wr) (fun | (i, _, _, _) => 6 - i) ((0, none, 0, [])) (.cons (by first | exact rfl | exact look_int rfl (by omega) | exact look_slice rfl (by omega)) (.cons rfl (.cons rfl (.cons rfl (.cons rfl (.cons rfl (.nil))))))) (⟨Nat.zero_le _, Nat.zero_le _, OI.nil_ _ _, by simp, hb10, hb8, hE⟩) ?_
      intro ⟨i, B, c1, xs⟩ wr1 hJ KL1 hKL1
      clear hb8 hb10 hE
      obtain ⟨hi, hi6, hI, hall, hb10, hb8, hE⟩ := hJ
      refine Wc.seq (fun K8 hK8 => ?_)
      refine Wc.seq (fun K9 hK9 => ?_)
      refine Wc.keep [(1, _), (2, _), (3, _), (8, _), (10, _), (11, _)] (.cons rfl (.cons rfl (.cons rfl (.cons rfl (.cons rfl (.cons rfl (.nil))))))) ?_
      refine Wc.region ?_
      refine Wl.val rfl rfl rfl (Gives.move rfl rfl) ?_
      refine Wl.val rfl rfl rfl (Gives.move rfl rfl) ?_
      refine Wl.val rfl rfl rfl (Gives.lenS rfl Tryd.underlying29 rfl) ?_
      refine Wl.val rfl rfl rfl (Gives.lss rfl rfl rfl) ?_
      refine Wl.val rfl rfl rfl (Gives.move rfl rfl) ?_
      refine Wl.guard rfl rfl rfl (fun h26 => ?_) (fun h26 => ?_)
      · (first | replace h26 := of_decide_eq_true h26 | replace h26 := nd_true h26 | skip)
        refine Wl.val rfl rfl rfl (Gives.move rfl rfl) ?_
        refine Wl.val rfl rfl rfl (Gives.lss rfl rfl rfl) ?_
        refine Wl.val rfl rfl rfl (Gives.pickT rfl rfl rfl rfl) ?_
        refine Wl.nil ?_
        refine Wx.thenN (hK9 _ _ ?_)
        refine Wc.cond _ rfl (fun h29 => ?_) (fun h29 => ?_)
        · (first | replace h29 := of_decide_eq_true h29 | replace h29 := nd_true h29 | skip)
          refine Wc.skip ?_
          refine Wx.thenN (hK8 _ _ ?_)
          refine Wc.seq (fun K10 hK10 => ?_)
          refine Wc.block ?_
          refine Wc.keep [(1, _), (2, _), (3, _), (8, _), (10, _), (11, _)] (.cons rfl (.cons rfl (.cons rfl (.cons rfl (.cons rfl (.cons rfl (.nil))))))) ?_
          obtain ⟨xb, xo, rfl, hbw, z, hz, hcell⟩ := his.at_ (show i < iN by omega)
          obtain ⟨zz, hzz, hz0, hz1⟩ : ∃ zz, bits .and .i64 z 4611686018427387903 = zz ∧ 0 ≤ zz ∧ zz ≤ 4611686018427387903 := ⟨_, rfl, bits_and_i64 z 4611686018427387903 (by decide) (by decide)⟩
          refine Wc.regionB (fun q => [1, 5].contains q) [] (.read 0 (.read 1 (.read 2 (.read 3 (.read 4 (.read 5 (.read 6 (.call false 7 .tail .none)))))))) 8 (by kernel_rfl) (by kernel_rfl) (by kernel_rfl) ?_
          intro w7 hR7
          replace hb8 := hb8.ext hR7.ext
          replace hb10 := hb10.ext hR7.ext
          replace hE := hE.trans hR7.ext
          have hO7_8 : Old w7.heap.size [] b8 := ⟨hb8.lt, trivial⟩
          have hO7_10 : Old w7.heap.size [] b10 := ⟨hb10.lt, trivial⟩
          have hX := Ext.refl w7
          replace hI := hI.ext hR7.ext
          refine RunE.read rfl rfl rfl rfl (fun wS _ => (Gives.fieldAt 1 rfl Tryd.underlying54 rfl (by kernel_rfl) rfl rfl)) ?_
          refine RunE.readM rfl rfl rfl rfl rfl (fun wS hS => (Gives.ldK rfl (by kernel_rfl) rfl ((hb10.ext hX).fr hS hO7_10) rfl)) ?_
          refine RunE.read rfl rfl rfl rfl (fun wS _ => (Gives.move rfl rfl)) ?_
          refine RunE.read rfl rfl rfl rfl (fun wS _ => (Gives.move rfl rfl)) ?_
          refine RunE.read rfl rfl rfl rfl (fun wS _ => (Gives.ixS (i := _) rfl Tryd.underlying29 (by kernel_rfl) rfl rfl rfl (by omega))) ?_
          refine RunE.readM rfl rfl rfl rfl rfl (fun wS hS => (Gives.ldC rfl (by kernel_rfl) rfl (cell_go hcell hbw hE hX hS))) ?_
          refine RunE.read rfl rfl rfl rfl (fun wS _ => (Gives.bits .and (by simp) rfl rfl rfl hzz)) ?_
          refine RunE.turn rfl rfl rfl rfl (Does.lit rfl Tryd.underlying29 infoI2 rfl rfl rfl rfl rfl) ?_ RunE.none
          rintro _ w77 ⟨g77, rfl, hs77, hk77, hx77⟩
          refine ⟨hx77.fr, ?_⟩
          replace hX := hX.trans hx77
          refine RunE.tail rfl ?_
          replace hb8 := hb8.ext hX
          replace hb10 := hb10.ext hX
          replace hE := hE.trans hX
          refine Wl.does rfl rfl rfl (Does.appI rfl rfl rfl (hI.ext hx77) hk77 (by omega) (by have := hb10.lt; omega)) ?_
          rintro _ w78 ⟨B', c2, rfl, hI2, hB78⟩
          replace hb8 := Blk.bel hb8 hB78 (by omega)
          replace hb10 := Blk.bel hb10 hB78 (by omega)
          replace hE := Ext.step hE hB78 (by omega)
          refine Wl.val rfl rfl rfl (Gives.fieldAt 1 rfl Tryd.underlying54 rfl (by kernel_rfl) rfl rfl) ?_
          refine Wl.acts rfl rfl (Does.stC rfl rfl rfl hb10 (by kernel_rfl) (Nat.le_of_ble_eq_true rfl) rfl) ?_
          rintro _ w7_10 ⟨hbn, hF7_10⟩
          replace hb8 := hb8.fr hF7_10 (by first | assumption | exact Ne.symm (by assumption))
          replace hE := Ext.over hE hF7_10 hg10
          replace hb10 := hbn
          clear hbn
          (try simp only [List.setIfInBounds_toArray, List.set_cons_zero, List.set_cons_succ, Nat.reduceAdd, Nat.zero_add] at hb10)
          have hI3 := hI2.fr hF7_10 (fun k hk => by omega)
          refine Wl.nil ?_
          refine Wx.blockN ?_
          refine Wx.thenN (hK10 _ _ ?_)
          refine Wc.keep [(1, _), (2, _), (3, _), (8, _), (10, _), (11, _)] (.cons rfl (.cons rfl (.cons rfl (.cons rfl (.cons rfl (.cons rfl (.nil))))))) ?_
          refine Wc.region ?_
          refine Wl.val rfl rfl rfl (Gives.move rfl rfl) ?_
          refine Wl.val rfl rfl rfl (Gives.add rfl rfl rfl (by first | exact IntWalk.i64_in _ (by omega) | exact u64_in _ (by omega) | exact u32_in _ (by omega) | exact u8_in _ (by omega) | exact rfl)) ?_
          refine Wl.val rfl rfl rfl (Gives.assign rfl rfl) ?_
          refine Wl.nil ?_
          refine Wx.thenN ?_
          refine hKL1 (i + 1, B', c2, xs ++ [zz]) _ _ (.cons (by first | exact rfl | exact look_int rfl (by omega) | exact look_slice rfl (by omega)) (.cons rfl (.cons rfl (.cons rfl (.cons rfl (.cons rfl (.nil))))))) ⟨by omega, by omega, hI3, (fun y hy => by rcases List.mem_append.1 hy with h | h; exact hall y h; rw [List.mem_singleton.1 h]; omega), hb10, hb8, hE⟩ (by show 6 - (i + 1) < 6 - i; omega)
        · (first | replace h29 := of_decide_eq_false h29 | replace h29 := nd_false h29 | skip)
          refine Wc.exit ?_
          refine Wx.thenE ?_
          refine Wx.thenE ?_
          refine Wx.hit ?_
          refine Wx.thenN ?_
          refine hJ6 (i, B, c1, xs) _ _ (.cons rfl (.cons rfl (.cons rfl (.cons rfl (.nil))))) ⟨hi6, IW.close hI, hall, hb10, hb8, hE⟩
      · (first | replace h26 := of_decide_eq_false h26 | replace h26 := nd_false h26 | skip)
        refine Wl.pass rfl rfl rfl ?_
        refine Wl.pass rfl rfl rfl ?_
        refine Wl.val rfl rfl rfl (Gives.pickF rfl rfl rfl rfl) ?_
        refine Wl.nil ?_
        refine Wx.thenN (hK9 _ _ ?_)
        refine Wc.condF rfl rfl ?_
        refine Wc.exit ?_
        refine Wx.thenE ?_
        refine Wx.thenE ?_
        refine Wx.hit ?_
        refine Wx.thenN ?_
        refine hJ6 (i, B, c1, xs) _ _ (.cons rfl (.cons rfl (.cons rfl (.cons rfl (.nil))))) ⟨hi6, IW.close hI, hall, hb10, hb8, hE⟩
    intro ⟨icnt, B, c1, xs⟩ wr1 hJ
    clear hb8 hb10 hE
    obtain ⟨hi6, hH, hall, hb10, hb8, hE⟩ := hJ
    have hHl := (hH.iv (P := fun _ => True) (fun _ _ _ => trivial)).len
    have hN1 : b10 < wr1.heap.size := hb10.lt
    generalize hNw : wr1.heap.size = N2 at *
    have hK0 : Fr (fun k => k ≠ b10 ∧ k < N2) wr1 wr1 := Fr.refl _ _
    refine Wc.joinC (ι := Nat × Option Addr × Nat × List (List UInt8)) [(3, _), (8, _), (10, _)] (fun _ => []) (fun | (i, B2, c2, ys), wr => i ≤ 4 ∧ LW wr (fun k => k < w.heap.size) N2 wr.heap.size B2 i c2 ys ∧ (∀ l ∈ ys, l.length ≤ 300) ∧ IW wr (b10 + 1) N2 B icnt c1 xs ∧ N2 ≤ wr.heap.size ∧ Blk wr b10 54 #[.int .i64 0, .slice B icnt c1, .slice B2 i c2, .slice none 0 0] ∧ Blk wr b8 54 #[.int .i64 0, .slice none 0 0, .slice none 0 0, .slice none 0 0] ∧ Ext w wr) ?_ ?_ (.cons rfl (.cons rfl (.cons rfl (.nil))))
    · intro K11 hJ11
      refine Wc.seq (fun K12 hK12 => ?_)
      refine Wc.keep [(2, _), (3, _), (8, _), (10, _)] (.cons rfl (.cons rfl (.cons rfl (.cons rfl (.nil))))) ?_
      refine Wc.region ?_
      refine Wl.val rfl rfl rfl (Gives.assign rfl rfl) ?_
      refine Wl.nil ?_
      refine Wx.thenN (hK12 _ _ ?_)
      refine Wc.block ?_
      refine Wc.keep [(2, _), (3, _), (8, _), (10, _), (12, _)] (.cons rfl (.cons rfl (.cons rfl (.cons rfl (.cons rfl (.nil)))))) ?_
      refine Wc.loopC (ι := Nat × Option Addr × Nat × List (List UInt8)) [(2, _), (3, _), (8, _), (10, _)] (fun | (i, _, _, _) => [(12, .int .i64 (i : Int))]) (fun | (i, B2, c2, ys), wr => i ≤ bn ∧ i ≤ 4 ∧ OL wr (fun k => k < w.heap.size) N2 B2 i c2 ys ∧ (∀ l ∈ ys, l.length ≤ 300) ∧ Fr (fun k => k ≠ b10 ∧ k < N2) wr1 wr ∧ Blk wr b10 54 #[.int .i64 0, .slice B icnt c1, .slice B2 i c2, .slice none 0 0] ∧ Blk wr b8 54 #[.int .i64 0, .slice none 0 0, .slice none 0 0, .slice none 0 0] ∧ Ext w wr) (fun | (i, _, _, _) => 4 - i) ((0, none, 0, [])) (.cons (by first | exact rfl | exact look_int rfl (by omega) | exact look_slice rfl (by omega)) (.cons rfl (.cons rfl (.cons rfl (.cons rfl (.nil)))))) (⟨Nat.zero_le _, Nat.zero_le _, OL.nil_ _ _ _, by simp, hK0, hb10, hb8, hE⟩) ?_
      intro ⟨i, B2, c2, ys⟩ wr2 hJ KL2 hKL2
      clear hb8 hb10 hE hK0
      obtain ⟨hi, hi4, hL, hall2, hK, hb10, hb8, hE⟩ := hJ
      have hNs : N2 ≤ wr2.heap.size := by rw [← hNw]; exact hK.size
      refine Wc.seq (fun K13 hK13 => ?_)
      refine Wc.seq (fun K14 hK14 => ?_)
      refine Wc.keep [(2, _), (3, _), (8, _), (10, _), (12, _)] (.cons rfl (.cons rfl (.cons rfl (.cons rfl (.cons rfl (.nil)))))) ?_
      refine Wc.region ?_
      refine Wl.val rfl rfl rfl (Gives.move rfl rfl) ?_
      refine Wl.val rfl rfl rfl (Gives.move rfl rfl) ?_
      refine Wl.val rfl rfl rfl (Gives.lenS rfl Tryd.underlying31 rfl) ?_
      refine Wl.val rfl rfl rfl (Gives.lss rfl rfl rfl) ?_
      refine Wl.val rfl rfl rfl (Gives.move rfl rfl) ?_
      refine Wl.guard rfl rfl rfl (fun h46 => ?_) (fun h46 => ?_)
      · (first | replace h46 := of_decide_eq_true h46 | replace h46 := nd_true h46 | skip)
        refine Wl.val rfl rfl rfl (Gives.move rfl rfl) ?_
        refine Wl.val rfl rfl rfl (Gives.lss rfl rfl rfl) ?_
        refine Wl.val rfl rfl rfl (Gives.pickT rfl rfl rfl rfl) ?_
        refine Wl.nil ?_
        refine Wx.thenN (hK14 _ _ ?_)
        refine Wc.cond _ rfl (fun h49 => ?_) (fun h49 => ?_)
        · (first | replace h49 := of_decide_eq_true h49 | replace h49 := nd_true h49 | skip)
          refine Wc.skip ?_
          refine Wx.thenN (hK13 _ _ ?_)
          refine Wc.seq (fun K15 hK15 => ?_)
          refine Wc.block ?_
          refine Wc.keep [(2, _), (3, _), (8, _), (10, _), (12, _)] (.cons rfl (.cons rfl (.cons rfl (.cons rfl (.cons rfl (.nil)))))) ?_
          obtain ⟨xb, xo, rfl, hbw, y, zA, zn, zc, hz, hcell, hZ⟩ := hbs.at' (show i < bn by omega)
          have hZle := hZ.le
          refine Wc.regionB (fun q => [1, 5].contains q) [] (.read 0 (.read 1 (.read 2 (.read 3 (.read 4 (.read 5 (.read 6 (.call false 7 .tail .none)))))))) 8 (by kernel_rfl) (by kernel_rfl) (by kernel_rfl) ?_
          intro w11 hR11
          replace hb8 := hb8.ext hR11.ext
          replace hb10 := hb10.ext hR11.ext
          replace hE := hE.trans hR11.ext
          have hO11_8 : Old w11.heap.size [] b8 := ⟨hb8.lt, trivial⟩
          have hO11_10 : Old w11.heap.size [] b10 := ⟨hb10.lt, trivial⟩
          have hX := Ext.refl w11
          replace hL := hL.ext hR11.ext
          replace hK := hK.trans hR11.ext.fr
          have hsz11 := hR11.ext.size
          refine RunE.read rfl rfl rfl rfl (fun wS _ => (Gives.fieldAt 2 rfl Tryd.underlying54 rfl (by kernel_rfl) rfl rfl)) ?_
          refine RunE.readM rfl rfl rfl rfl rfl (fun wS hS => (Gives.ldK rfl (by kernel_rfl) rfl ((hb10.ext hX).fr hS hO11_10) rfl)) ?_
          refine RunE.read rfl rfl rfl rfl (fun wS _ => (Gives.move rfl rfl)) ?_
          refine RunE.read rfl rfl rfl rfl (fun wS _ => (Gives.move rfl rfl)) ?_
          refine RunE.read rfl rfl rfl rfl (fun wS _ => (Gives.ixS (i := _) rfl Tryd.underlying31 (by kernel_rfl) rfl rfl rfl (by omega))) ?_
          refine RunE.readM rfl rfl rfl rfl rfl (fun wS hS => (Gives.ldC rfl (by kernel_rfl) rfl (cell_go hcell hbw hE hX hS))) ?_
          refine RunE.read rfl rfl rfl rfl (fun wS _ => (Gives.call rfl Tryd.func31 rfl (by kernel_rfl) rfl (by first | exact cutN_calls _ _ _ _ hZle 300 rfl | exact cutN_calls _ _ _ _ hZle 60 rfl))) ?_
          refine RunE.turn rfl rfl rfl rfl (Does.lit rfl Tryd.underlying31 infoL2 rfl rfl rfl rfl rfl) ?_ RunE.none
          rintro _ w117 ⟨g117, rfl, hs117, hk117, hx117⟩
          refine ⟨hx117.fr, ?_⟩
          replace hX := hX.trans hx117
          have hsz117 := hx117.size
          obtain ⟨vs1, ho1⟩ := hL.own
          have hC2 : BV w117 (NOwn w117 (fun k => k < w.heap.size) (.slice B2 i c2)) zA (min zn 300) zc (y.take 300) := old_nown (((hZ.cutS 300).bd.mono (fun k hk => hk.2)).ext (hE.trans hX)) ho1 (by omega) (fun _ h => h)
          refine RunE.tail rfl ?_
          replace hb8 := hb8.ext hX
          replace hb10 := hb10.ext hX
          replace hE := hE.trans hX
          refine Wl.does rfl rfl rfl (Does.appL rfl rfl rfl (hL.ext hx117) hk117 hC2 (by omega) (by omega)) ?_
          rintro _ w118 ⟨B', c5, rfl, hL3, hB118⟩
          replace hb8 := Blk.bel hb8 hB118 (by omega)
          replace hb10 := Blk.bel hb10 hB118 (by omega)
          replace hE := Ext.step hE hB118 (by omega)
          have hK3 := (hK.trans hx117.fr).trans ((below_fr hB118).mono (fun k hk => hk.2))
          refine Wl.val rfl rfl rfl (Gives.fieldAt 2 rfl Tryd.underlying54 rfl (by kernel_rfl) rfl rfl) ?_
          refine Wl.acts rfl rfl (Does.stC rfl rfl rfl hb10 (by kernel_rfl) (Nat.le_of_ble_eq_true rfl) rfl) ?_
          rintro _ w11_10 ⟨hbn, hF11_10⟩
          replace hb8 := hb8.fr hF11_10 (by first | assumption | exact Ne.symm (by assumption))
          replace hE := Ext.over hE hF11_10 hg10
          replace hb10 := hbn
          clear hbn
          (try simp only [List.setIfInBounds_toArray, List.set_cons_zero, List.set_cons_succ, Nat.reduceAdd, Nat.zero_add] at hb10)
          have hL4 := hL3.fr hF11_10 (fun k hk => by omega) (fun k hk => by omega)
          have hK4 := hK3.trans (hF11_10.mono (fun k hk => hk.1))
          refine Wl.nil ?_
          refine Wx.blockN ?_
          refine Wx.thenN (hK15 _ _ ?_)
          refine Wc.keep [(2, _), (3, _), (8, _), (10, _), (12, _)] (.cons rfl (.cons rfl (.cons rfl (.cons rfl (.cons rfl (.nil)))))) ?_
          refine Wc.region ?_
          refine Wl.val rfl rfl rfl (Gives.move rfl rfl) ?_
          refine Wl.val rfl rfl rfl (Gives.add rfl rfl rfl (by first | exact IntWalk.i64_in _ (by omega) | exact u64_in _ (by omega) | exact u32_in _ (by omega) | exact u8_in _ (by omega) | exact rfl)) ?_
          refine Wl.val rfl rfl rfl (Gives.assign rfl rfl) ?_
          refine Wl.nil ?_
          refine Wx.thenN ?_
          refine hKL2 (i + 1, B', c5, ys ++ [y.take 300]) _ _ (.cons (by first | exact rfl | exact look_int rfl (by omega) | exact look_slice rfl (by omega)) (.cons rfl (.cons rfl (.cons rfl (.cons rfl (.nil)))))) ⟨by omega, by omega, hL4, (fun l hl => by rcases List.mem_append.1 hl with h | h; exact hall2 l h; rw [List.mem_singleton.1 h, List.length_take]; omega), hK4, hb10, hb8, hE⟩ (by show 4 - (i + 1) < 4 - i; omega)
        · (first | replace h49 := of_decide_eq_false h49 | replace h49 := nd_false h49 | skip)
          refine Wc.exit ?_
          refine Wx.thenE ?_
          refine Wx.thenE ?_
          refine Wx.hit ?_
          refine Wx.thenN ?_
          refine hJ11 (i, B2, c2, ys) _ _ (.cons rfl (.cons rfl (.cons rfl (.nil)))) ⟨hi4, LW.close hL, hall2, hH.fr hK (fun k h1 h2 => ⟨by omega, h2⟩), hNs, hb10, hb8, hE⟩
      · (first | replace h46 := of_decide_eq_false h46 | replace h46 := nd_false h46 | skip)
        refine Wl.pass rfl rfl rfl ?_
        refine Wl.pass rfl rfl rfl ?_
        refine Wl.val rfl rfl rfl (Gives.pickF rfl rfl rfl rfl) ?_
        refine Wl.nil ?_
        refine Wx.thenN (hK14 _ _ ?_)
        refine Wc.condF rfl rfl ?_
        refine Wc.exit ?_
        refine Wx.thenE ?_
        refine Wx.thenE ?_
        refine Wx.hit ?_
        refine Wx.thenN ?_
        refine hJ11 (i, B2, c2, ys) _ _ (.cons rfl (.cons rfl (.cons rfl (.nil)))) ⟨hi4, LW.close hL, hall2, hH.fr hK (fun k h1 h2 => ⟨by omega, h2⟩), hNs, hb10, hb8, hE⟩
    intro ⟨bcnt, B2, c2, ys⟩ wr2 hJ
    clear hb8 hb10 hE hH
    obtain ⟨hi4, hL2, hall2, hH, hNs2, hb10, hb8, hE⟩ := hJ
    have hL2l := (hL2.bl (P := fun _ => True) (fun _ _ _ => trivial) (fun _ _ => trivial)).len
    have hN3 : b10 < wr2.heap.size := hb10.lt
    generalize hNw2 : wr2.heap.size = N3 at *
    have hK0 : Fr (fun k => k ≠ b10 ∧ k < N3) wr2 wr2 := Fr.refl _ _
    refine Wc.seq (fun K16 hK16 => ?_)
    refine Wc.seq (fun K17 hK17 => ?_)
    refine Wc.keep [(3, _), (8, _), (10, _)] (.cons rfl (.cons rfl (.cons rfl (.nil)))) ?_
    refine Wc.region ?_
    refine Wl.val rfl rfl rfl (Gives.assign rfl rfl) ?_
    refine Wl.nil ?_
    refine Wx.thenN (hK17 _ _ ?_)
    refine Wc.block ?_
    refine Wc.keep [(3, _), (8, _), (10, _), (13, _)] (.cons rfl (.cons rfl (.cons rfl (.cons rfl (.nil))))) ?_
    refine Wc.loopC (ι := Nat × Option Addr × Nat × List (List UInt8)) [(3, _), (8, _), (10, _)] (fun | (i, _, _, _) => [(13, .int .i64 (i : Int))]) (fun | (i, B3, c3, zs), wr => i ≤ nn ∧ i ≤ 2 ∧ OL wr (fun k => k < w.heap.size) N3 B3 i c3 zs ∧ (∀ l ∈ zs, l.length ≤ 60) ∧ Fr (fun k => k ≠ b10 ∧ k < N3) wr2 wr ∧ Blk wr b10 54 #[.int .i64 0, .slice B icnt c1, .slice B2 bcnt c2, .slice B3 i c3] ∧ Blk wr b8 54 #[.int .i64 0, .slice none 0 0, .slice none 0 0, .slice none 0 0] ∧ Ext w wr) (fun | (i, _, _, _) => 2 - i) ((0, none, 0, [])) (.cons (by first | exact rfl | exact look_int rfl (by omega) | exact look_slice rfl (by omega)) (.cons rfl (.cons rfl (.cons rfl (.nil))))) (⟨Nat.zero_le _, Nat.zero_le _, OL.nil_ _ _ _, by simp, hK0, hb10, hb8, hE⟩) ?_
    intro ⟨i, B3, c3, zs⟩ wr3 hJ KL3 hKL3
    clear hb8 hb10 hE hK0
    obtain ⟨hi, hi2, hL, hall3, hK, hb10, hb8, hE⟩ := hJ
    have hNs3 : N3 ≤ wr3.heap.size := by rw [← hNw2]; exact hK.size
    refine Wc.seq (fun K18 hK18 => ?_)
    refine Wc.seq (fun K19 hK19 => ?_)
    refine Wc.keep [(3, _), (8, _), (10, _), (13, _)] (.cons rfl (.cons rfl (.cons rfl (.cons rfl (.nil))))) ?_
    refine Wc.region ?_
    refine Wl.val rfl rfl rfl (Gives.move rfl rfl) ?_
    refine Wl.val rfl rfl rfl (Gives.move rfl rfl) ?_
    refine Wl.val rfl rfl rfl (Gives.lenS rfl Tryd.underlying31 rfl) ?_
    refine Wl.val rfl rfl rfl (Gives.lss rfl rfl rfl) ?_
    refine Wl.val rfl rfl rfl (Gives.move rfl rfl) ?_
    refine Wl.guard rfl rfl rfl (fun h66 => ?_) (fun h66 => ?_)
    · (first | replace h66 := of_decide_eq_true h66 | replace h66 := nd_true h66 | skip)
      refine Wl.val rfl rfl rfl (Gives.move rfl rfl) ?_
      refine Wl.val rfl rfl rfl (Gives.lss rfl rfl rfl) ?_
      refine Wl.val rfl rfl rfl (Gives.pickT rfl rfl rfl rfl) ?_
      refine Wl.nil ?_
      refine Wx.thenN (hK19 _ _ ?_)
      refine Wc.cond _ rfl (fun h69 => ?_) (fun h69 => ?_)
      · (first | replace h69 := of_decide_eq_true h69 | replace h69 := nd_true h69 | skip)
        refine Wc.skip ?_
        refine Wx.thenN (hK18 _ _ ?_)
        refine Wc.seq (fun K20 hK20 => ?_)
        refine Wc.block ?_
        refine Wc.keep [(3, _), (8, _), (10, _), (13, _)] (.cons rfl (.cons rfl (.cons rfl (.cons rfl (.nil))))) ?_
        obtain ⟨xb, xo, rfl, hbw, y, zA, zn, zc, hz, hcell, hZ⟩ := hns.at' (show i < nn by omega)
        have hZle := hZ.le
        refine Wc.regionB (fun q => [1, 5].contains q) [] (.read 0 (.read 1 (.read 2 (.read 3 (.read 4 (.read 5 (.read 6 (.call false 7 .tail .none)))))))) 8 (by kernel_rfl) (by kernel_rfl) (by kernel_rfl) ?_
        intro w15 hR15
        replace hb8 := hb8.ext hR15.ext
        replace hb10 := hb10.ext hR15.ext
        replace hE := hE.trans hR15.ext
        have hO15_8 : Old w15.heap.size [] b8 := ⟨hb8.lt, trivial⟩
        have hO15_10 : Old w15.heap.size [] b10 := ⟨hb10.lt, trivial⟩
        have hX := Ext.refl w15
        replace hL := hL.ext hR15.ext
        replace hK := hK.trans hR15.ext.fr
        have hsz15 := hR15.ext.size
        refine RunE.read rfl rfl rfl rfl (fun wS _ => (Gives.fieldAt 3 rfl Tryd.underlying54 rfl (by kernel_rfl) rfl rfl)) ?_
        refine RunE.readM rfl rfl rfl rfl rfl (fun wS hS => (Gives.ldK rfl (by kernel_rfl) rfl ((hb10.ext hX).fr hS hO15_10) rfl)) ?_
        refine RunE.read rfl rfl rfl rfl (fun wS _ => (Gives.move rfl rfl)) ?_
        refine RunE.read rfl rfl rfl rfl (fun wS _ => (Gives.move rfl rfl)) ?_
        refine RunE.read rfl rfl rfl rfl (fun wS _ => (Gives.ixS (i := _) rfl Tryd.underlying31 (by kernel_rfl) rfl rfl rfl (by omega))) ?_
        refine RunE.readM rfl rfl rfl rfl rfl (fun wS hS => (Gives.ldC rfl (by kernel_rfl) rfl (cell_go hcell hbw hE hX hS))) ?_
        refine RunE.read rfl rfl rfl rfl (fun wS _ => (Gives.call rfl Tryd.func31 rfl (by kernel_rfl) rfl (by first | exact cutN_calls _ _ _ _ hZle 300 rfl | exact cutN_calls _ _ _ _ hZle 60 rfl))) ?_
        refine RunE.turn rfl rfl rfl rfl (Does.lit rfl Tryd.underlying31 infoL2 rfl rfl rfl rfl rfl) ?_ RunE.none
        rintro _ w157 ⟨g157, rfl, hs157, hk157, hx157⟩
        refine ⟨hx157.fr, ?_⟩
        replace hX := hX.trans hx157
        have hsz157 := hx157.size
        obtain ⟨vs1, ho1⟩ := hL.own
        have hC2 : BV w157 (NOwn w157 (fun k => k < w.heap.size) (.slice B3 i c3)) zA (min zn 60) zc (y.take 60) := old_nown (((hZ.cutS 60).bd.mono (fun k hk => hk.2)).ext (hE.trans hX)) ho1 (by omega) (fun _ h => h)
        refine RunE.tail rfl ?_
        replace hb8 := hb8.ext hX
        replace hb10 := hb10.ext hX
        replace hE := hE.trans hX
        refine Wl.does rfl rfl rfl (Does.appL rfl rfl rfl (hL.ext hx157) hk157 hC2 (by omega) (by omega)) ?_
        rintro _ w158 ⟨B', c5, rfl, hL3, hB158⟩
        replace hb8 := Blk.bel hb8 hB158 (by omega)
        replace hb10 := Blk.bel hb10 hB158 (by omega)
        replace hE := Ext.step hE hB158 (by omega)
        have hK3 := (hK.trans hx157.fr).trans ((below_fr hB158).mono (fun k hk => hk.2))
        refine Wl.val rfl rfl rfl (Gives.fieldAt 3 rfl Tryd.underlying54 rfl (by kernel_rfl) rfl rfl) ?_
        refine Wl.acts rfl rfl (Does.stC rfl rfl rfl hb10 (by kernel_rfl) (Nat.le_of_ble_eq_true rfl) rfl) ?_
        rintro _ w15_10 ⟨hbn, hF15_10⟩
        replace hb8 := hb8.fr hF15_10 (by first | assumption | exact Ne.symm (by assumption))
        replace hE := Ext.over hE hF15_10 hg10
        replace hb10 := hbn
        clear hbn
        (try simp only [List.setIfInBounds_toArray, List.set_cons_zero, List.set_cons_succ, Nat.reduceAdd, Nat.zero_add] at hb10)
        have hL4 := hL3.fr hF15_10 (fun k hk => by omega) (fun k hk => by omega)
        have hK4 := hK3.trans (hF15_10.mono (fun k hk => hk.1))
        refine Wl.nil ?_
        refine Wx.blockN ?_
        refine Wx.thenN (hK20 _ _ ?_)
        refine Wc.keep [(3, _), (8, _), (10, _), (13, _)] (.cons rfl (.cons rfl (.cons rfl (.cons rfl (.nil))))) ?_
        refine Wc.region ?_
        refine Wl.val rfl rfl rfl (Gives.move rfl rfl) ?_
        refine Wl.val rfl rfl rfl (Gives.add rfl rfl rfl (by first | exact IntWalk.i64_in _ (by omega) | exact u64_in _ (by omega) | exact u32_in _ (by omega) | exact u8_in _ (by omega) | exact rfl)) ?_
        refine Wl.val rfl rfl rfl (Gives.assign rfl rfl) ?_
        refine Wl.nil ?_
        refine Wx.thenN ?_
        refine hKL3 (i + 1, B', c5, zs ++ [y.take 60]) _ _ (.cons (by first | exact rfl | exact look_int rfl (by omega) | exact look_slice rfl (by omega)) (.cons rfl (.cons rfl (.cons rfl (.nil))))) ⟨by omega, by omega, hL4, (fun l hl => by rcases List.mem_append.1 hl with h | h; exact hall3 l h; rw [List.mem_singleton.1 h, List.length_take]; omega), hK4, hb10, hb8, hE⟩ (by show 2 - (i + 1) < 2 - i; omega)
      · (first | replace h69 := of_decide_eq_false h69 | replace h69 := nd_false h69 | skip)
        refine Wc.exit ?_
        refine Wx.thenE ?_
        refine Wx.thenE ?_
        refine Wx.hit ?_
        refine Wx.thenN (hK16 _ _ ?_)
        refine Wc.seq (fun K21 hK21 => ?_)
        refine Wc.keep [(8, _), (10, _)] (.cons rfl (.cons rfl (.nil))) ?_
        have hLl := hL.len
        have hH2 := hH.fr hK (fun k h1 h2 => ⟨by omega, by omega⟩)
        have hL5 := hL2.fr hK (fun k h1 h2 => ⟨by omega, h2⟩) (fun k hk => ⟨by omega, by omega⟩)
        refine Wc.region ?_
        refine Wl.val rfl rfl rfl (Gives.ldW rfl (by kernel_rfl) rfl hb10 (by kernel_rfl)) ?_
        refine Wl.acts rfl rfl (Does.stL 4 rfl rfl rfl hb8 (by kernel_rfl) rfl rfl rfl) ?_
        rintro _ w16_1 ⟨hbn, hF16_1⟩
        replace hb10 := hb10.fr hF16_1 (by first | assumption | exact Ne.symm (by assumption))
        replace hE := Ext.over hE hF16_1 hg8
        replace hb8 := hbn
        clear hbn
        have hI6 := (hH2.fr hF16_1 (fun k h1 h2 => by omega)).iv (P := fun _ => True) (fun _ _ _ => trivial)
        have hL6 := (hL5.fr hF16_1 (fun k h1 h2 => by omega) (fun k hk => by omega)).bl (P := fun _ => True) (fun _ _ _ => trivial) (fun _ _ => trivial)
        have hL7 := (hL.fr hF16_1 (fun k hk => by omega) (fun k hk => by omega)).bl (P := fun _ => True) (fun _ _ => trivial) (fun _ _ => trivial)
        refine Wl.val rfl rfl rfl (Gives.assign rfl rfl) ?_
        refine Wl.nil ?_
        refine Wx.thenN (hK21 _ _ ?_)
        refine Wc.ret ?_
        refine Wx.ret [_, _] ⟨⟨_, rfl, res_blk hb8 Tryd.underlying54 rfl (by kernel_rfl)⟩, ⟨rfl, trivial⟩⟩ ?_
        refine ⟨⟨0, xs, ys, zs⟩, ⟨B, icnt, c1, B2, bcnt, c2, B3, i, c3⟩, rfl, ⟨⟨Int.le_refl 0, (by decide : (0 : Int) < 256)⟩, fun h => absurd rfl h, ?_, ?_, ?_, hall, hall2, hall3⟩, ⟨hI6, hL6, hL7⟩, hE⟩
        · show xs.length ≤ 6; omega
        · show ys.length ≤ 4; omega
        · show zs.length ≤ 2; omega
    · (first | replace h66 := of_decide_eq_false h66 | replace h66 := nd_false h66 | skip)
      refine Wl.pass rfl rfl rfl ?_
      refine Wl.pass rfl rfl rfl ?_
      refine Wl.val rfl rfl rfl (Gives.pickF rfl rfl rfl rfl) ?_
      refine Wl.nil ?_
      refine Wx.thenN (hK19 _ _ ?_)
      refine Wc.condF rfl rfl ?_
      refine Wc.exit ?_
      refine Wx.thenE ?_
      refine Wx.thenE ?_
      refine Wx.hit ?_
      refine Wx.thenN (hK16 _ _ ?_)
      refine Wc.seq (fun K22 hK22 => ?_)
      refine Wc.keep [(8, _), (10, _)] (.cons rfl (.cons rfl (.nil))) ?_
      have hLl := hL.len
      have hH2 := hH.fr hK (fun k h1 h2 => ⟨by omega, by omega⟩)
      have hL5 := hL2.fr hK (fun k h1 h2 => ⟨by omega, h2⟩) (fun k hk => ⟨by omega, by omega⟩)
      refine Wc.region ?_
      refine Wl.val rfl rfl rfl (Gives.ldW rfl (by kernel_rfl) rfl hb10 (by kernel_rfl)) ?_
      refine Wl.acts rfl rfl (Does.stL 4 rfl rfl rfl hb8 (by kernel_rfl) rfl rfl rfl) ?_
      rintro _ w16_1 ⟨hbn, hF16_1⟩
      replace hb10 := hb10.fr hF16_1 (by first | assumption | exact Ne.symm (by assumption))
      replace hE := Ext.over hE hF16_1 hg8
      replace hb8 := hbn
      clear hbn
      have hI6 := (hH2.fr hF16_1 (fun k h1 h2 => by omega)).iv (P := fun _ => True) (fun _ _ _ => trivial)
      have hL6 := (hL5.fr hF16_1 (fun k h1 h2 => by omega) (fun k hk => by omega)).bl (P := fun _ => True) (fun _ _ _ => trivial) (fun _ _ => trivial)
      have hL7 := (hL.fr hF16_1 (fun k hk => by omega) (fun k hk => by omega)).bl (P := fun _ => True) (fun _ _ => trivial) (fun _ _ => trivial)
      refine Wl.val rfl rfl rfl (Gives.assign rfl rfl) ?_
      refine Wl.nil ?_
      refine Wx.thenN (hK22 _ _ ?_)
      refine Wc.ret ?_
      refine Wx.ret [_, _] ⟨⟨_, rfl, res_blk hb8 Tryd.underlying54 rfl (by kernel_rfl)⟩, ⟨rfl, trivial⟩⟩ ?_
      refine ⟨⟨0, xs, ys, zs⟩, ⟨B, icnt, c1, B2, bcnt, c2, B3, i, c3⟩, rfl, ⟨⟨Int.le_refl 0, (by decide : (0 : Int) < 256)⟩, fun h => absurd rfl h, ?_, ?_, ?_, hall, hall2, hall3⟩, ⟨hI6, hL6, hL7⟩, hE⟩
      · show xs.length ≤ 6; omega
      · show ys.length ≤ 4; omega
      · show zs.length ≤ 2; omega
end Go.Proofs.YtaekpiejdgahfaaDoor
