/- Commands: writing, the reference. -/
import Derived.Test.YtaekpiejdgahfaaDoorCmdP2
namespace Go.Proofs.YtaekpiejdgahfaaDoor
set_option linter.all false
open Go.RowKit
set_option maxHeartbeats 1000000 in
set_option maxRecDepth 10000 in
theorem formR_calls {P : Nat → Prop} (w : World) (q : Req) (r : RA) (hq : ReqV w P q r) (hsm : SmallQ q) :
    Calls Tryd.prog 33 #[.agg #[.int .i64 q.code, .slice r.hA r.hn r.hc, .slice r.aA r.an r.ac, .slice r.iA r.iN r.ic, .slice r.bA r.bn r.bc]] w fun e w' => ∃ S m c, e = .returned (.slice S m c) ∧ OB w' w.heap.size 5 S m c (formS q) ∧ Ext w w' := by
  obtain ⟨hA, hn, hc, aA, an, ac, iA, iN, ic, bA, bn, bc⟩ := r
  have hhs : IV w P hA hn hc q.hs := hq.hs
  have hus : AV w P aA an ac q.us := hq.us
  have his : IV w P iA iN ic q.is := hq.is
  have hbs : BL w P bA bn bc q.bs := hq.bs
  have hlh := hhs.len
  have hla := hus.len
  have hli := his.len
  have hlb := hbs.len
  obtain ⟨hs1, hs2, hs3, hs4, hs5, hs6⟩ := hsm
  clear hq
  show Calls Tryd.prog _ #[.agg #[.int .i64 q.code, .slice hA hn hc, .slice aA an ac, .slice iA iN ic, .slice bA bn bc]] w _
  refine calls_enter Tryd.func33 rfl Tryd.ntmps33 rfl ?_
  have hE : Ext w w := Ext.refl w
  refine Wc.seq (fun K1 hK1 => ?_)
  refine Wc.keep [(0, _)] (.cons rfl (.nil)) ?_
  refine Wc.region ?_
  refine Wl.does rfl rfl rfl (Does.boxA rfl rfl) ?_
  rintro _ w0_0 ⟨b1, rfl, hs1, hb1, hx0_0⟩
  have hg1 : w.heap.size ≤ b1 := Nat.le_trans hE.size hs1
  replace hE := hE.trans hx0_0
  refine Wl.val rfl rfl rfl (Gives.assign rfl rfl) ?_
  refine Wl.nil ?_
  refine Wx.thenN (hK1 _ _ ?_)
  refine Wc.seq (fun K2 hK2 => ?_)
  refine Wc.keep [(1, _)] (.cons rfl (.nil)) ?_
  refine Wc.region ?_
  refine Wl.val rfl rfl rfl (Gives.fieldAt 0 rfl Tryd.underlying33 rfl (by kernel_rfl) rfl rfl) ?_
  refine Wl.val rfl rfl rfl (Gives.ldK rfl (by kernel_rfl) rfl hb1 rfl) ?_
  refine Wl.val rfl rfl rfl (Gives.conv rfl Tryd.underlying3 Tryd.underlying5 rfl (byteOf_int _)) ?_
  refine Wl.does rfl rfl rfl (Does.lit rfl Tryd.underlying36 infoB2 rfl rfl rfl rfl rfl) ?_
  rintro _ w1 ⟨g1, rfl, hs1', hk1, hx1⟩
  have hM1 : MB w1 g1 5 (headS q.code) := hk1
  have hO := MB.ob hM1 (base := b1 + 1) (Nat.le_trans hb1.lt hs1') (n := 5) (c := 5) rfl (Nat.le_refl _) rfl (by omega)
  replace hb1 := hb1.ext hx1
  replace hE := hE.trans hx1
  refine Wl.val rfl rfl rfl (Gives.assign rfl rfl) ?_
  refine Wl.nil ?_
  refine Wx.thenN (hK2 _ _ ?_)
  refine Wc.seq (fun K3 hK3 => ?_)
  refine Wc.seq (fun K4 hK4 => ?_)
  refine Wc.keep [(1, _), (3, _)] (.cons rfl (.cons rfl (.nil))) ?_
  refine Wc.region ?_
  refine Wl.val rfl rfl rfl (Gives.assign rfl rfl) ?_
  refine Wl.nil ?_
  refine Wx.thenN (hK4 _ _ ?_)
  refine Wc.block ?_
  refine Wc.keep [(1, _), (3, _), (4, _)] (.cons rfl (.cons rfl (.cons rfl (.nil)))) ?_
  refine Wc.loopC (ι := Nat × Option Addr × Nat × Nat) [(1, _)] (fun | (i, S, m, c) => [(4, .int .i64 (i : Int)), (3, .slice S m c)]) (fun | (i, S, m, c), wr => i ≤ hn ∧ m ≤ 5 + 8 * i ∧ OB wr (b1 + 1) 5 S m c (handsS (headS q.code) (q.hs.take i)) ∧ Blk wr b1 33 #[.int .i64 q.code, .slice hA hn hc, .slice aA an ac, .slice iA iN ic, .slice bA bn bc] ∧ Ext w wr) (fun | (i, _, _, _) => hn - i) ((0, some ⟨g1, 0, none⟩, 5, 5)) (.cons (by first | exact rfl | exact look_int rfl (by omega) | exact look_slice rfl (by omega)) (.cons (by first | exact rfl | exact look_int rfl (by omega) | exact look_slice rfl (by omega)) (.cons rfl (.nil)))) (⟨Nat.zero_le _, by omega, hO, hb1, hE⟩) ?_
  intro ⟨i, S, m, c⟩ wr hJ KL1 hKL1
  clear hb1 hE hO
  obtain ⟨hi, hm, hO, hb1, hE⟩ := hJ
  refine Wc.seq (fun K5 hK5 => ?_)
  refine Wc.seq (fun K6 hK6 => ?_)
  refine Wc.keep [(1, _), (3, _), (4, _)] (.cons rfl (.cons rfl (.cons rfl (.nil)))) ?_
  refine Wc.region ?_
  refine Wl.val rfl rfl rfl (Gives.move rfl rfl) ?_
  refine Wl.val rfl rfl rfl (Gives.fieldAt 1 rfl Tryd.underlying33 rfl (by kernel_rfl) rfl rfl) ?_
  refine Wl.val rfl rfl rfl (Gives.ldK rfl (by kernel_rfl) rfl hb1 rfl) ?_
  refine Wl.val rfl rfl rfl (Gives.lenS rfl Tryd.underlying29 rfl) ?_
  refine Wl.val rfl rfl rfl (Gives.lss rfl rfl rfl) ?_
  refine Wl.nil ?_
  refine Wx.thenN (hK6 _ _ ?_)
  refine Wc.cond _ rfl (fun h16 => ?_) (fun h16 => ?_)
  · (first | replace h16 := of_decide_eq_true h16 | replace h16 := nd_true h16 | skip)
    refine Wc.skip ?_
    refine Wx.thenN (hK5 _ _ ?_)
    refine Wc.seq (fun K7 hK7 => ?_)
    refine Wc.block ?_
    refine Wc.keep [(1, _), (3, _), (4, _)] (.cons rfl (.cons rfl (.cons rfl (.nil)))) ?_
    obtain ⟨xb, xo, rfl, hbw, z, hz, hcell⟩ := (hhs.ext hE).at_ (show i < hn by omega)
    refine Wc.region ?_
    refine Wl.val rfl rfl rfl (Gives.move rfl rfl) ?_
    refine Wl.val rfl rfl rfl (Gives.fieldAt 1 rfl Tryd.underlying33 rfl (by kernel_rfl) rfl rfl) ?_
    refine Wl.val rfl rfl rfl (Gives.ldK rfl (by kernel_rfl) rfl hb1 rfl) ?_
    refine Wl.val rfl rfl rfl (Gives.move rfl rfl) ?_
    refine Wl.val rfl rfl rfl (Gives.ixS (i := _) rfl Tryd.underlying29 (by kernel_rfl) rfl rfl rfl (by omega)) ?_
    refine Wl.val rfl rfl rfl (Gives.ldC rfl (by kernel_rfl) rfl hcell) ?_
    refine Wl.call rfl rfl rfl rfl Tryd.func52 rfl (by kernel_rfl) rfl (uintR_calls (P := fun _ => True) _ S m c _ (hO.bv (fun _ _ => trivial)) (by omega) 2 z) ?_
    rintro x1 w5 ⟨S1, m1, c1, rfl, hO1, hx1⟩
    refine ⟨_, rfl, ?_⟩
    replace hO1 := hO1.mono hb1.lt
    have hl0 := hO.len
    have hl1 := hO1.len
    have hl2 := uintS_len (handsS (headS q.code) (q.hs.take i)) 2 z
    replace hb1 := hb1.ext hx1
    replace hE := hE.trans hx1
    refine Wl.val rfl rfl rfl (Gives.assign rfl rfl) ?_
    refine Wl.nil ?_
    refine Wx.blockN ?_
    refine Wx.thenN (hK7 _ _ ?_)
    refine Wc.keep [(1, _), (3, _), (4, _)] (.cons rfl (.cons rfl (.cons rfl (.nil)))) ?_
    refine Wc.region ?_
    refine Wl.val rfl rfl rfl (Gives.move rfl rfl) ?_
    refine Wl.val rfl rfl rfl (Gives.add rfl rfl rfl (by first | exact IntWalk.i64_in _ (by omega) | exact u64_in _ (by omega) | exact u32_in _ (by omega) | exact u8_in _ (by omega) | exact rfl)) ?_
    refine Wl.val rfl rfl rfl (Gives.assign rfl rfl) ?_
    refine Wl.nil ?_
    refine Wx.thenN ?_
    refine hKL1 (i + 1, S1, m1, c1) _ _ (.cons (by first | exact rfl | exact look_int rfl (by omega) | exact look_slice rfl (by omega)) (.cons (by first | exact rfl | exact look_int rfl (by omega) | exact look_slice rfl (by omega)) (.cons rfl (.nil)))) ⟨by omega, by omega, by unfold handsS at hO1 ⊢; rw [fold_take _ _ _ _ _ hz]; exact hO1, hb1, hE⟩ (by show hn - (i + 1) < hn - i; omega)
  · (first | replace h16 := of_decide_eq_false h16 | replace h16 := nd_false h16 | skip)
    refine Wc.exit ?_
    refine Wx.thenE ?_
    refine Wx.thenE ?_
    refine Wx.hit ?_
    refine Wx.thenN (hK3 _ _ ?_)
    refine Wc.seq (fun K8 hK8 => ?_)
    refine Wc.seq (fun K9 hK9 => ?_)
    refine Wc.keep [(1, _), (3, _)] (.cons rfl (.cons rfl (.nil))) ?_
    obtain rfl : hn = i := by omega
    have hO2 := hO
    unfold handsS at hO2
    rw [fold_all _ _ _ _ hlh] at hO2
    change OB _ _ _ _ _ _ (handsS (headS q.code) q.hs) at hO2
    clear hO
    refine Wc.region ?_
    refine Wl.val rfl rfl rfl (Gives.assign rfl rfl) ?_
    refine Wl.nil ?_
    refine Wx.thenN (hK9 _ _ ?_)
    refine Wc.block ?_
    refine Wc.keep [(1, _), (3, _), (5, _)] (.cons rfl (.cons rfl (.cons rfl (.nil)))) ?_
    refine Wc.loopC (ι := Nat × Option Addr × Nat × Nat) [(1, _)] (fun | (i, S, m, c) => [(5, .int .i64 (i : Int)), (3, .slice S m c)]) (fun | (i, S, m, c), wr => i ≤ an ∧ m ≤ 8005 + 131094 * i ∧ OB wr (b1 + 1) 5 S m c (authsS (handsS (headS q.code) q.hs) (q.us.take i)) ∧ Blk wr b1 33 #[.int .i64 q.code, .slice hA hn hc, .slice aA an ac, .slice iA iN ic, .slice bA bn bc] ∧ Ext w wr) (fun | (i, _, _, _) => an - i) ((0, S, m, c)) (.cons (by first | exact rfl | exact look_int rfl (by omega) | exact look_slice rfl (by omega)) (.cons (by first | exact rfl | exact look_int rfl (by omega) | exact look_slice rfl (by omega)) (.cons rfl (.nil)))) (⟨Nat.zero_le _, by omega, hO2, hb1, hE⟩) ?_
    intro ⟨i, S, m, c⟩ wr hJ KL2 hKL2
    clear hb1 hE hO2
    obtain ⟨hi, hm, hO, hb1, hE⟩ := hJ
    refine Wc.seq (fun K10 hK10 => ?_)
    refine Wc.seq (fun K11 hK11 => ?_)
    refine Wc.keep [(1, _), (3, _), (5, _)] (.cons rfl (.cons rfl (.cons rfl (.nil)))) ?_
    refine Wc.region ?_
    refine Wl.val rfl rfl rfl (Gives.move rfl rfl) ?_
    refine Wl.val rfl rfl rfl (Gives.fieldAt 2 rfl Tryd.underlying33 rfl (by kernel_rfl) rfl rfl) ?_
    refine Wl.val rfl rfl rfl (Gives.ldK rfl (by kernel_rfl) rfl hb1 rfl) ?_
    refine Wl.val rfl rfl rfl (Gives.lenS rfl Tryd.underlying30 rfl) ?_
    refine Wl.val rfl rfl rfl (Gives.lss rfl rfl rfl) ?_
    refine Wl.nil ?_
    refine Wx.thenN (hK11 _ _ ?_)
    refine Wc.cond _ rfl (fun h30 => ?_) (fun h30 => ?_)
    · (first | replace h30 := of_decide_eq_true h30 | replace h30 := nd_true h30 | skip)
      refine Wc.skip ?_
      refine Wx.thenN (hK10 _ _ ?_)
      refine Wc.seq (fun K12 hK12 => ?_)
      refine Wc.block ?_
      refine Wc.keep [(1, _), (3, _), (5, _)] (.cons rfl (.cons rfl (.cons rfl (.nil)))) ?_
      obtain ⟨xb, xo, rfl, hbw, a, N, nn, nc, V, vn, vc, ha, hrg, hN0, hV0⟩ := hus.at_ (show i < an by omega)
      have hnn := hN0.len
      have hvn := hV0.len
      obtain ⟨hs5a, hs5b⟩ := hs5 a (List.mem_of_getElem? ha)
      refine Wc.regionB (fun q => [2, 6, 7, 9, 13, 14, 16, 20].contains q) [] (.read 0 (.read 1 (.read 2 (.read 3 (.read 4 (.read 5 (.read 6 (.read 8 (.read 9 (.read 10 (.read 11 (.read 12 (.read 13 (.read 15 (.read 16 (.read 17 (.read 18 (.read 19 (.read 20 (.call false 7 (.call false 14 .tail .none) .none)))))))))))))))))))) 21 (by kernel_rfl) (by kernel_rfl) (by kernel_rfl) ?_
      intro w9 hR9
      replace hb1 := hb1.ext hR9.ext
      replace hE := hE.trans hR9.ext
      have hO9_1 : Old w9.heap.size [] b1 := ⟨hb1.lt, trivial⟩
      have hX := Ext.refl w9
      replace hO := hO.ext hR9.ext
      refine RunE.read rfl rfl rfl rfl (fun wS _ => (Gives.move rfl rfl)) ?_
      refine RunE.read rfl rfl rfl rfl (fun wS _ => (Gives.fieldAt 2 rfl Tryd.underlying33 rfl (by kernel_rfl) rfl rfl)) ?_
      refine RunE.readM rfl rfl rfl rfl rfl (fun wS hS => (Gives.ldK rfl (by kernel_rfl) rfl ((hb1.ext hX).fr hS hO9_1) rfl)) ?_
      refine RunE.read rfl rfl rfl rfl (fun wS _ => (Gives.move rfl rfl)) ?_
      refine RunE.read rfl rfl rfl rfl (fun wS _ => (Gives.ixSZ (i := _) (sz := 3) rfl Tryd.underlying30 (by kernel_rfl) rfl rfl rfl (by omega))) ?_
      refine RunE.read rfl rfl rfl rfl (fun wS _ => (Gives.fieldAt 0 rfl Tryd.underlying38 rfl (by kernel_rfl) rfl rfl)) ?_
      refine RunE.readM rfl rfl rfl rfl rfl (fun wS hS => (Gives.ldC rfl (by kernel_rfl) rfl (rng_go hrg hbw hE hX hS 0 _ rfl))) ?_
      refine RunE.read rfl rfl rfl rfl (fun wS _ => (Gives.fieldAt 2 rfl Tryd.underlying33 rfl (by kernel_rfl) rfl rfl)) ?_
      refine RunE.readM rfl rfl rfl rfl rfl (fun wS hS => (Gives.ldK rfl (by kernel_rfl) rfl ((hb1.ext hX).fr hS hO9_1) rfl)) ?_
      refine RunE.read rfl rfl rfl rfl (fun wS _ => (Gives.move rfl rfl)) ?_
      refine RunE.read rfl rfl rfl rfl (fun wS _ => (Gives.ixSZ (i := _) (sz := 3) rfl Tryd.underlying30 (by kernel_rfl) rfl rfl rfl (by omega))) ?_
      refine RunE.read rfl rfl rfl rfl (fun wS _ => (Gives.fieldAt 1 rfl Tryd.underlying38 rfl (by kernel_rfl) rfl rfl)) ?_
      refine RunE.readM rfl rfl rfl rfl rfl (fun wS hS => (Gives.ldC rfl (by kernel_rfl) rfl (rng_go hrg hbw hE hX hS 1 _ rfl))) ?_
      refine RunE.read rfl rfl rfl rfl (fun wS _ => (Gives.fieldAt 2 rfl Tryd.underlying33 rfl (by kernel_rfl) rfl rfl)) ?_
      refine RunE.readM rfl rfl rfl rfl rfl (fun wS hS => (Gives.ldK rfl (by kernel_rfl) rfl ((hb1.ext hX).fr hS hO9_1) rfl)) ?_
      refine RunE.read rfl rfl rfl rfl (fun wS _ => (Gives.move rfl rfl)) ?_
      refine RunE.read rfl rfl rfl rfl (fun wS _ => (Gives.ixSZ (i := _) (sz := 3) rfl Tryd.underlying30 (by kernel_rfl) rfl rfl rfl (by omega))) ?_
      refine RunE.read rfl rfl rfl rfl (fun wS _ => (Gives.fieldAt 2 rfl Tryd.underlying38 rfl (by kernel_rfl) rfl rfl)) ?_
      refine RunE.readM rfl rfl rfl rfl rfl (fun wS hS => (Gives.ldC rfl (by kernel_rfl) rfl (rng_go hrg hbw hE hX hS 2 _ rfl))) ?_
      refine RunE.turnC rfl rfl rfl rfl rfl Tryd.func52 rfl (by kernel_rfl) rfl (uintR_calls (P := fun _ => True) _ S m c _ (hO.bv (fun _ _ => trivial)) (by omega) 2 a.ses) ?_ RunE.none
      rintro x1 w11 ⟨S1, m1, c1, rfl, hO1, hx1⟩
      refine ⟨_, rfl, ?_⟩
      refine ⟨hx1.fr, ?_⟩
      replace hX := hX.trans hx1
      refine RunE.turnC rfl rfl rfl rfl rfl Tryd.func53 rfl (by kernel_rfl) rfl (blobR_calls (P := fun _ => True) _ S1 m1 c1 _ (hO1.bv (fun _ _ => trivial)) (by have hl1 := hO1.len; have hl2 := uintS_len (authsS (handsS (headS q.code) q.hs) (q.us.take i)) 2 a.ses; have hl0 := hO.len; omega) N nn nc a.nonce (hN0.ext (hE.trans hX)) (by omega)) ?_ RunE.none
      rintro x2 w12 ⟨S2, m2, c2, rfl, hO2, hx2⟩
      refine ⟨_, rfl, ?_⟩
      refine ⟨hx2.fr, ?_⟩
      replace hX := hX.trans hx2
      refine RunE.tail rfl ?_
      replace hb1 := hb1.ext hX
      replace hE := hE.trans hX
      refine Wl.call rfl rfl rfl rfl Tryd.func53 rfl (by kernel_rfl) rfl (blobR_calls (P := fun _ => True) _ S2 m2 c2 _ (hO2.bv (fun _ _ => trivial)) (by have hl1 := hO2.len; have hl3 := blobS_len (uintS (authsS (handsS (headS q.code) q.hs) (q.us.take i)) 2 a.ses) a.nonce; have hl2 := uintS_len (authsS (handsS (headS q.code) q.hs) (q.us.take i)) 2 a.ses; have hl0 := hO.len; omega) V vn vc a.val (hV0.ext hE) (by omega)) ?_
      rintro x3 w13 ⟨S3, m3, c3, rfl, hO3, hx3⟩
      refine ⟨_, rfl, ?_⟩
      replace hO3 := hO3.mono hb1.lt
      replace hb1 := hb1.ext hx3
      replace hE := hE.trans hx3
      refine Wl.val rfl rfl rfl (Gives.assign rfl rfl) ?_
      refine Wl.nil ?_
      refine Wx.blockN ?_
      refine Wx.thenN (hK12 _ _ ?_)
      refine Wc.keep [(1, _), (3, _), (5, _)] (.cons rfl (.cons rfl (.cons rfl (.nil)))) ?_
      refine Wc.region ?_
      refine Wl.val rfl rfl rfl (Gives.move rfl rfl) ?_
      refine Wl.val rfl rfl rfl (Gives.add rfl rfl rfl (by first | exact IntWalk.i64_in _ (by omega) | exact u64_in _ (by omega) | exact u32_in _ (by omega) | exact u8_in _ (by omega) | exact rfl)) ?_
      refine Wl.val rfl rfl rfl (Gives.assign rfl rfl) ?_
      refine Wl.nil ?_
      refine Wx.thenN ?_
      have hl0 := hO.len
      have hl2 := authS_len (authsS (handsS (headS q.code) q.hs) (q.us.take i)) a
      have hO4 : OB w13 (b1 + 1) 5 S3 m3 c3 (authS (authsS (handsS (headS q.code) q.hs) (q.us.take i)) a) := hO3
      have hl1 := hO4.len
      refine hKL2 (i + 1, S3, m3, c3) _ _ (.cons (by first | exact rfl | exact look_int rfl (by omega) | exact look_slice rfl (by omega)) (.cons (by first | exact rfl | exact look_int rfl (by omega) | exact look_slice rfl (by omega)) (.cons rfl (.nil)))) ⟨by omega, by omega, by unfold authsS at hO4 ⊢; rw [fold_take _ _ _ _ _ ha]; exact hO4, hb1, hE⟩ (by show an - (i + 1) < an - i; omega)
    · (first | replace h30 := of_decide_eq_false h30 | replace h30 := nd_false h30 | skip)
      refine Wc.exit ?_
      refine Wx.thenE ?_
      refine Wx.thenE ?_
      refine Wx.hit ?_
      refine Wx.thenN (hK8 _ _ ?_)
      refine Wc.seq (fun K13 hK13 => ?_)
      refine Wc.seq (fun K14 hK14 => ?_)
      refine Wc.keep [(1, _), (3, _)] (.cons rfl (.cons rfl (.nil))) ?_
      obtain rfl : an = i := by omega
      have hO2 := hO
      unfold authsS at hO2
      rw [fold_all _ _ _ _ hla] at hO2
      change OB _ _ _ _ _ _ (authsS (handsS (headS q.code) q.hs) q.us) at hO2
      clear hO
      generalize hB2 : authsS (handsS (headS q.code) q.hs) q.us = B2 at *
      refine Wc.region ?_
      refine Wl.val rfl rfl rfl (Gives.assign rfl rfl) ?_
      refine Wl.nil ?_
      refine Wx.thenN (hK14 _ _ ?_)
      refine Wc.block ?_
      refine Wc.keep [(1, _), (3, _), (6, _)] (.cons rfl (.cons rfl (.cons rfl (.nil)))) ?_
      refine Wc.loopC (ι := Nat × Option Addr × Nat × Nat) [(1, _)] (fun | (i, S, m, c) => [(6, .int .i64 (i : Int)), (3, .slice S m c)]) (fun | (i, S, m, c), wr => i ≤ iN ∧ m ≤ 131102005 + 8 * i ∧ OB wr (b1 + 1) 5 S m c (intsS B2 (q.is.take i)) ∧ Blk wr b1 33 #[.int .i64 q.code, .slice hA hn hc, .slice aA an ac, .slice iA iN ic, .slice bA bn bc] ∧ Ext w wr) (fun | (i, _, _, _) => iN - i) ((0, S, m, c)) (.cons (by first | exact rfl | exact look_int rfl (by omega) | exact look_slice rfl (by omega)) (.cons (by first | exact rfl | exact look_int rfl (by omega) | exact look_slice rfl (by omega)) (.cons rfl (.nil)))) (⟨Nat.zero_le _, by omega, hO2, hb1, hE⟩) ?_
      intro ⟨i, S, m, c⟩ wr hJ KL3 hKL3
      clear hb1 hE hO2
      obtain ⟨hi, hm, hO, hb1, hE⟩ := hJ
      refine Wc.seq (fun K15 hK15 => ?_)
      refine Wc.seq (fun K16 hK16 => ?_)
      refine Wc.keep [(1, _), (3, _), (6, _)] (.cons rfl (.cons rfl (.cons rfl (.nil)))) ?_
      refine Wc.region ?_
      refine Wl.val rfl rfl rfl (Gives.move rfl rfl) ?_
      refine Wl.val rfl rfl rfl (Gives.fieldAt 3 rfl Tryd.underlying33 rfl (by kernel_rfl) rfl rfl) ?_
      refine Wl.val rfl rfl rfl (Gives.ldK rfl (by kernel_rfl) rfl hb1 rfl) ?_
      refine Wl.val rfl rfl rfl (Gives.lenS rfl Tryd.underlying29 rfl) ?_
      refine Wl.val rfl rfl rfl (Gives.lss rfl rfl rfl) ?_
      refine Wl.nil ?_
      refine Wx.thenN (hK16 _ _ ?_)
      refine Wc.cond _ rfl (fun h59 => ?_) (fun h59 => ?_)
      · (first | replace h59 := of_decide_eq_true h59 | replace h59 := nd_true h59 | skip)
        refine Wc.skip ?_
        refine Wx.thenN (hK15 _ _ ?_)
        refine Wc.seq (fun K17 hK17 => ?_)
        refine Wc.block ?_
        refine Wc.keep [(1, _), (3, _), (6, _)] (.cons rfl (.cons rfl (.cons rfl (.nil)))) ?_
        obtain ⟨xb, xo, rfl, hbw, z, hz, hcell⟩ := (his.ext hE).at_ (show i < iN by omega)
        refine Wc.region ?_
        refine Wl.val rfl rfl rfl (Gives.move rfl rfl) ?_
        refine Wl.val rfl rfl rfl (Gives.fieldAt 3 rfl Tryd.underlying33 rfl (by kernel_rfl) rfl rfl) ?_
        refine Wl.val rfl rfl rfl (Gives.ldK rfl (by kernel_rfl) rfl hb1 rfl) ?_
        refine Wl.val rfl rfl rfl (Gives.move rfl rfl) ?_
        refine Wl.val rfl rfl rfl (Gives.ixS (i := _) rfl Tryd.underlying29 (by kernel_rfl) rfl rfl rfl (by omega)) ?_
        refine Wl.val rfl rfl rfl (Gives.ldC rfl (by kernel_rfl) rfl hcell) ?_
        refine Wl.call rfl rfl rfl rfl Tryd.func52 rfl (by kernel_rfl) rfl (uintR_calls (P := fun _ => True) _ S m c _ (hO.bv (fun _ _ => trivial)) (by omega) 8 z) ?_
        rintro x1 w15 ⟨S1, m1, c1, rfl, hO1, hx1⟩
        refine ⟨_, rfl, ?_⟩
        replace hO1 := hO1.mono hb1.lt
        have hl0 := hO.len
        have hl1 := hO1.len
        have hl2 := uintS_len (intsS B2 (q.is.take i)) 8 z
        replace hb1 := hb1.ext hx1
        replace hE := hE.trans hx1
        refine Wl.val rfl rfl rfl (Gives.assign rfl rfl) ?_
        refine Wl.nil ?_
        refine Wx.blockN ?_
        refine Wx.thenN (hK17 _ _ ?_)
        refine Wc.keep [(1, _), (3, _), (6, _)] (.cons rfl (.cons rfl (.cons rfl (.nil)))) ?_
        refine Wc.region ?_
        refine Wl.val rfl rfl rfl (Gives.move rfl rfl) ?_
        refine Wl.val rfl rfl rfl (Gives.add rfl rfl rfl (by first | exact IntWalk.i64_in _ (by omega) | exact u64_in _ (by omega) | exact u32_in _ (by omega) | exact u8_in _ (by omega) | exact rfl)) ?_
        refine Wl.val rfl rfl rfl (Gives.assign rfl rfl) ?_
        refine Wl.nil ?_
        refine Wx.thenN ?_
        refine hKL3 (i + 1, S1, m1, c1) _ _ (.cons (by first | exact rfl | exact look_int rfl (by omega) | exact look_slice rfl (by omega)) (.cons (by first | exact rfl | exact look_int rfl (by omega) | exact look_slice rfl (by omega)) (.cons rfl (.nil)))) ⟨by omega, by omega, by unfold intsS at hO1 ⊢; rw [fold_take _ _ _ _ _ hz]; exact hO1, hb1, hE⟩ (by show iN - (i + 1) < iN - i; omega)
      · (first | replace h59 := of_decide_eq_false h59 | replace h59 := nd_false h59 | skip)
        refine Wc.exit ?_
        refine Wx.thenE ?_
        refine Wx.thenE ?_
        refine Wx.hit ?_
        refine Wx.thenN (hK13 _ _ ?_)
        refine Wc.seq (fun K18 hK18 => ?_)
        refine Wc.keep [(1, _), (3, _)] (.cons rfl (.cons rfl (.nil))) ?_
        obtain rfl : iN = i := by omega
        unfold intsS at hO
        rw [fold_all _ _ _ _ hli] at hO
        change OB _ _ _ _ _ _ (intsS B2 q.is) at hO
        refine Wc.region ?_
        refine Wl.val rfl rfl rfl (Gives.move rfl rfl) ?_
        refine Wl.val rfl rfl rfl (Gives.fieldAt 4 rfl Tryd.underlying33 rfl (by kernel_rfl) rfl rfl) ?_
        refine Wl.val rfl rfl rfl (Gives.ldK rfl (by kernel_rfl) rfl hb1 rfl) ?_
        refine Wl.val rfl rfl rfl (Gives.lenS rfl Tryd.underlying31 rfl) ?_
        refine Wl.val rfl rfl rfl (Gives.conv rfl Tryd.underlying3 Tryd.underlying5 rfl (byteOf_int _)) ?_
        refine Wl.does rfl rfl rfl (Does.lit rfl Tryd.underlying36 infoB2 rfl rfl rfl rfl rfl) ?_
        rintro _ w17 ⟨g17, rfl, hs17, hk17, hx17⟩
        have hO3 := hO.ext hx17
        replace hb1 := hb1.ext hx17
        replace hE := hE.trans hx17
        refine Wl.does rfl rfl rfl (Does.appO rfl Tryd.underlying36 infoB rfl rfl hO3 ((mb1 (byteOf (bn : Int)) hk17 rfl).bv (P := fun _ => True) trivial rfl (Nat.le_refl _) (by omega)) (by omega) hb1.lt) ?_
        rintro _ w18 ⟨S4, c4, rfl, hO4, hB4⟩
        replace hE := Ext.step hE hB4 (Nat.le_succ_of_le hg1)
        replace hb1 := Blk.bel hb1 hB4 (Nat.lt_succ_self _)
        have hB3 : intsS B2 q.is ++ [byteOf (bn : Int)] = intsS (authsS (handsS (headS q.code) q.hs) q.us) q.is ++ [byteOf q.bs.length] := by rw [hB2, hlb]
        rw [hB3] at hO4
        generalize hB4' : intsS (authsS (handsS (headS q.code) q.hs) q.us) q.is ++ [byteOf q.bs.length] = B4 at *
        refine Wl.val rfl rfl rfl (Gives.assign rfl rfl) ?_
        refine Wl.nil ?_
        refine Wx.thenN (hK18 _ _ ?_)
        refine Wc.seq (fun K19 hK19 => ?_)
        refine Wc.seq (fun K20 hK20 => ?_)
        refine Wc.keep [(1, _), (3, _)] (.cons rfl (.cons rfl (.nil))) ?_
        refine Wc.region ?_
        refine Wl.val rfl rfl rfl (Gives.assign rfl rfl) ?_
        refine Wl.nil ?_
        refine Wx.thenN (hK20 _ _ ?_)
        refine Wc.block ?_
        refine Wc.keep [(1, _), (3, _), (7, _)] (.cons rfl (.cons rfl (.cons rfl (.nil)))) ?_
        refine Wc.loopC (ι := Nat × Option Addr × Nat × Nat) [(1, _)] (fun | (i, S, m, c) => [(7, .int .i64 (i : Int)), (3, .slice S m c)]) (fun | (i, S, m, c), wr => i ≤ bn ∧ m ≤ 131120006 + 65543 * i ∧ OB wr (b1 + 1) 5 S m c (blobsS B4 (q.bs.take i)) ∧ Blk wr b1 33 #[.int .i64 q.code, .slice hA hn hc, .slice aA an ac, .slice iA iN ic, .slice bA bn bc] ∧ Ext w wr) (fun | (i, _, _, _) => bn - i) ((0, S4, m + 1, c4)) (.cons (by first | exact rfl | exact look_int rfl (by omega) | exact look_slice rfl (by omega)) (.cons (by first | exact rfl | exact look_int rfl (by omega) | exact look_slice rfl (by omega)) (.cons rfl (.nil)))) (⟨Nat.zero_le _, by omega, hO4, hb1, hE⟩) ?_
        intro ⟨i, S, m, c⟩ wr hJ KL4 hKL4
        clear hb1 hE hO4
        obtain ⟨hi, hm, hO, hb1, hE⟩ := hJ
        refine Wc.seq (fun K21 hK21 => ?_)
        refine Wc.seq (fun K22 hK22 => ?_)
        refine Wc.keep [(1, _), (3, _), (7, _)] (.cons rfl (.cons rfl (.cons rfl (.nil)))) ?_
        refine Wc.region ?_
        refine Wl.val rfl rfl rfl (Gives.move rfl rfl) ?_
        refine Wl.val rfl rfl rfl (Gives.fieldAt 4 rfl Tryd.underlying33 rfl (by kernel_rfl) rfl rfl) ?_
        refine Wl.val rfl rfl rfl (Gives.ldK rfl (by kernel_rfl) rfl hb1 rfl) ?_
        refine Wl.val rfl rfl rfl (Gives.lenS rfl Tryd.underlying31 rfl) ?_
        refine Wl.val rfl rfl rfl (Gives.lss rfl rfl rfl) ?_
        refine Wl.nil ?_
        refine Wx.thenN (hK22 _ _ ?_)
        refine Wc.cond _ rfl (fun h80 => ?_) (fun h80 => ?_)
        · (first | replace h80 := of_decide_eq_true h80 | replace h80 := nd_true h80 | skip)
          refine Wc.skip ?_
          refine Wx.thenN (hK21 _ _ ?_)
          refine Wc.seq (fun K23 hK23 => ?_)
          refine Wc.block ?_
          refine Wc.keep [(1, _), (3, _), (7, _)] (.cons rfl (.cons rfl (.cons rfl (.nil)))) ?_
          obtain ⟨xb, xo, rfl, hbw, z, zA, zn, zc, hz, hcell, hZ⟩ := (hbs.ext hE).at' (show i < bn by omega)
          have hzn := hZ.len
          have hs6a := hs6 z (List.mem_of_getElem? hz)
          refine Wc.region ?_
          refine Wl.val rfl rfl rfl (Gives.move rfl rfl) ?_
          refine Wl.val rfl rfl rfl (Gives.fieldAt 4 rfl Tryd.underlying33 rfl (by kernel_rfl) rfl rfl) ?_
          refine Wl.val rfl rfl rfl (Gives.ldK rfl (by kernel_rfl) rfl hb1 rfl) ?_
          refine Wl.val rfl rfl rfl (Gives.move rfl rfl) ?_
          refine Wl.val rfl rfl rfl (Gives.ixS (i := _) rfl Tryd.underlying31 (by kernel_rfl) rfl rfl rfl (by omega)) ?_
          refine Wl.val rfl rfl rfl (Gives.ldC rfl (by kernel_rfl) rfl hcell) ?_
          refine Wl.call rfl rfl rfl rfl Tryd.func53 rfl (by kernel_rfl) rfl (blobR_calls (P := fun _ => True) _ S m c _ (hO.bv (fun _ _ => trivial)) (by omega) zA zn zc z hZ (by omega)) ?_
          rintro x1 w21 ⟨S1, m1, c1, rfl, hO1, hx1⟩
          refine ⟨_, rfl, ?_⟩
          replace hO1 := hO1.mono hb1.lt
          have hl0 := hO.len
          have hl1 := hO1.len
          have hl2 := blobS_len (blobsS B4 (q.bs.take i)) z
          replace hb1 := hb1.ext hx1
          replace hE := hE.trans hx1
          refine Wl.val rfl rfl rfl (Gives.assign rfl rfl) ?_
          refine Wl.nil ?_
          refine Wx.blockN ?_
          refine Wx.thenN (hK23 _ _ ?_)
          refine Wc.keep [(1, _), (3, _), (7, _)] (.cons rfl (.cons rfl (.cons rfl (.nil)))) ?_
          refine Wc.region ?_
          refine Wl.val rfl rfl rfl (Gives.move rfl rfl) ?_
          refine Wl.val rfl rfl rfl (Gives.add rfl rfl rfl (by first | exact IntWalk.i64_in _ (by omega) | exact u64_in _ (by omega) | exact u32_in _ (by omega) | exact u8_in _ (by omega) | exact rfl)) ?_
          refine Wl.val rfl rfl rfl (Gives.assign rfl rfl) ?_
          refine Wl.nil ?_
          refine Wx.thenN ?_
          refine hKL4 (i + 1, S1, m1, c1) _ _ (.cons (by first | exact rfl | exact look_int rfl (by omega) | exact look_slice rfl (by omega)) (.cons (by first | exact rfl | exact look_int rfl (by omega) | exact look_slice rfl (by omega)) (.cons rfl (.nil)))) ⟨by omega, by omega, by unfold blobsS at hO1 ⊢; rw [fold_take _ _ _ _ _ hz]; exact hO1, hb1, hE⟩ (by show bn - (i + 1) < bn - i; omega)
        · (first | replace h80 := of_decide_eq_false h80 | replace h80 := nd_false h80 | skip)
          refine Wc.exit ?_
          refine Wx.thenE ?_
          refine Wx.thenE ?_
          refine Wx.hit ?_
          refine Wx.thenN (hK19 _ _ ?_)
          refine Wc.seq (fun K24 hK24 => ?_)
          refine Wc.keep [(3, _)] (.cons rfl (.nil)) ?_
          obtain rfl : bn = i := by omega
          unfold blobsS at hO
          rw [fold_all _ _ _ _ hlb] at hO
          have hO5 : OB wr (b1 + 1) 5 S m c (bodyS q) := by unfold bodyS blobsS; rw [hB4']; exact hO
          have h5 : 5 ≤ m := by rw [← hO5.len]; exact bodyS_len q
          have hl5 := hO5.len
          obtain ⟨g, rfl, hgb⟩ := hO5.head (by omega)
          clear hO
          refine Wc.region ?_
          refine Wl.val rfl rfl rfl (Gives.move rfl rfl) ?_
          refine Wl.val rfl rfl rfl (Gives.move rfl rfl) ?_
          refine Wl.val rfl rfl rfl (Gives.move rfl rfl) ?_
          refine Wl.val rfl rfl rfl (Gives.lenS rfl Tryd.underlying36 rfl) ?_
          refine Wl.val rfl rfl rfl (Gives.shrN 8 rfl rfl rfl rfl rfl) ?_
          refine Wl.val rfl rfl rfl (Gives.conv rfl Tryd.underlying3 Tryd.underlying5 rfl (byteAt1_int m (by omega))) ?_
          refine Wl.val rfl rfl rfl (Gives.move rfl rfl) ?_
          refine Wl.val rfl rfl rfl (Gives.lenS rfl Tryd.underlying36 rfl) ?_
          refine Wl.val rfl rfl rfl (Gives.conv rfl Tryd.underlying3 Tryd.underlying5 rfl (byteAt0_int m (by omega))) ?_
          refine Wl.val rfl rfl rfl (Gives.ixS (i := 2) rfl Tryd.underlying36 (by kernel_rfl) rfl rfl rfl (by omega)) ?_
          refine Wl.acts rfl rfl (Does.stO (byteAt m 1) rfl rfl rfl rfl hO5 (by kernel_rfl) (by omega)) ?_
          rintro _ w20 ⟨hO6, hF6⟩
          replace hE := Ext.over hE hF6 (by omega)
          replace hb1 := hb1.fr hF6 (by omega)
          refine Wl.val rfl rfl rfl (Gives.ixS (i := 3) rfl Tryd.underlying36 (by kernel_rfl) rfl rfl rfl (by omega)) ?_
          refine Wl.acts rfl rfl (Does.stO (byteAt m 0) rfl rfl rfl rfl hO6 (by kernel_rfl) (by omega)) ?_
          rintro _ w21 ⟨hO7, hF7⟩
          replace hE := Ext.over hE hF7 (by omega)
          replace hb1 := hb1.fr hF7 (by omega)
          have hO8 := hO7.mono (Nat.le_succ_of_le hg1)
          rw [show ((bodyS q).set 2 (byteAt m 1)).set 3 (byteAt m 0) = formS q by unfold formS lenIn; rw [hl5]] at hO8
          refine Wl.nil ?_
          refine Wx.thenN (hK24 _ _ ?_)
          refine Wc.seq (fun K25 hK25 => ?_)
          refine Wc.keep [(3, _)] (.cons rfl (.nil)) ?_
          refine Wc.region ?_
          refine Wl.val rfl rfl rfl (Gives.move rfl rfl) ?_
          refine Wl.val rfl rfl rfl (Gives.assign rfl rfl) ?_
          refine Wl.nil ?_
          refine Wx.thenN (hK25 _ _ ?_)
          refine Wc.ret ?_
          refine Wx.ret [_] ⟨rfl, trivial⟩ ?_
          exact ⟨_, _, _, rfl, hO8, hE⟩
end Go.Proofs.YtaekpiejdgahfaaDoor
