/- IndexWrite, IndexRead: the walks. -/
import Derived.Test.YtdekjkcnfebfnaaIdxA
import Derived.Test.YtdekjkcnfebfnaaIdxG
namespace Go.Proofs.Ytdekjkcnfebfnaa
set_option linter.all false
open Go.RowKit
set_option maxRecDepth 20000 in
set_option maxHeartbeats 2000000 in
theorem indexWrite_walk {P1 P2 : Nat → Prop} (w : World) (kind : UInt8) (A : Option Addr) (n c : Nat) (l : List UInt8) (ha : BV w P1 A n c l) (off : Int) (D : Option Addr) (m mc : Nat) (data : List UInt8) (hd : BV w P2 D m mc data) :
    Calls Try.prog 4 #[.int .u8 (kind.toNat : Int), .slice A n c, .int .i64 off, .slice D m mc] w fun e w' => e = .returned (.bool true) ∧ Ext w w' := by
  refine calls_enter Try.func4 rfl Try.ntmps4 rfl ?_
  have hE : Ext w w := Ext.refl w
  refine Wc.seq (fun K1 hK1 => ?_)
  refine Wc.keep [(0, _), (1, _), (2, _), (3, _)] (.cons rfl (.cons rfl (.cons rfl (.cons rfl (.nil))))) ?_
  refine Wc.region ?_
  refine Wl.val rfl rfl rfl (Gives.assign rfl rfl) ?_
  refine Wl.nil ?_
  refine Wx.thenN (hK1 _ _ ?_)
  refine Wc.seq (fun K2 hK2 => ?_)
  refine Wc.seq (fun K3 hK3 => ?_)
  refine Wc.keep [(0, _), (1, _), (2, _), (3, _)] (.cons rfl (.cons rfl (.cons rfl (.cons rfl (.nil))))) ?_
  refine Wc.region ?_
  refine Wl.call rfl rfl rfl rfl Try.func9 rfl (by kernel_rfl) rfl (awake_calls w) ?_
  rintro x0 w1 ⟨rfl, hx0⟩
  refine ⟨_, rfl, ?_⟩
  replace hE := hE.trans hx0
  refine Wl.val rfl rfl rfl (Gives.not rfl rfl) ?_
  refine Wl.nil ?_
  refine Wx.thenN (hK3 _ _ ?_)
  refine Wc.condF rfl rfl ?_
  refine Wc.skip ?_
  refine Wx.thenN (hK2 _ _ ?_)
  refine Wc.seq (fun K4 hK4 => ?_)
  refine Wc.seq (fun K5 hK5 => ?_)
  refine Wc.keep [(0, _), (1, _), (2, _), (3, _)] (.cons rfl (.cons rfl (.cons rfl (.cons rfl (.nil))))) ?_
  refine Wc.region ?_
  refine Wl.val rfl rfl rfl (Gives.move rfl rfl) ?_
  refine Wl.val rfl rfl rfl (Gives.lenS rfl Try.underlying22 rfl) ?_
  refine Wl.val rfl rfl rfl (Gives.gtr rfl rfl rfl) ?_
  refine Wl.nil ?_
  refine Wx.thenN (hK5 _ _ ?_)
  refine Wc.cond _ rfl (fun h23 => ?_) (fun h23 => ?_)
  · (first | replace h23 := of_decide_eq_true h23 | replace h23 := nd_true h23 | skip)
    refine Wc.seq (fun K6 hK6 => ?_)
    refine Wc.keep [] (.nil) ?_
    refine Wc.region ?_
    refine Wl.val rfl rfl rfl (Gives.assign rfl rfl) ?_
    refine Wl.nil ?_
    refine Wx.thenN (hK6 _ _ ?_)
    refine Wc.ret ?_
    refine Wx.thenR ?_
    refine Wx.ret [_] ⟨rfl, trivial⟩ ?_
    exact ⟨rfl, hE⟩
  · (first | replace h23 := of_decide_eq_false h23 | replace h23 := nd_false h23 | skip)
    refine Wc.skip ?_
    refine Wx.thenN (hK4 _ _ ?_)
    refine Wc.seq (fun K7 hK7 => ?_)
    refine Wc.keep [(0, _), (1, _), (2, _), (3, _)] (.cons rfl (.cons rfl (.cons rfl (.cons rfl (.nil))))) ?_
    refine Wc.region ?_
    refine Wl.val rfl rfl rfl (Gives.move rfl rfl) ?_
    refine Wl.val rfl rfl rfl (Gives.move rfl rfl) ?_
    refine Wl.call rfl rfl rfl rfl Try.func15 rfl (by kernel_rfl) rfl (written_calls _ kind A n c l (ha.ext hE) false) ?_
    rintro x1 w2 ⟨x, pA, pn, pc, aA, an, ac, dA, dn, dc, rfl, hG, hI0, hx1⟩
    refine ⟨_, rfl, ?_⟩
    have hdl : x.data.length = dn := hI0.2.2.len
    have hd32 : x.data.length ≤ 32 := hG.1
    replace hE := hE.trans hx1
    have hI1 := (BV.nb0 hI0.1)
    have hI2 := (BV.nb0 hI0.2.1)
    have hI3 := (BV.nb0 hI0.2.2)
    refine Wl.does rfl rfl rfl (Does.alB (.agg #[(.int .i64 0), (.int .i64 0), (.int .i64 0), (.int .i64 0), (.slice none 0 0), (.slice none 0 0), (.bool false), (.slice none 0 0)]) rfl (by kernel_rfl) rfl) ?_
    rintro _ w5_3 ⟨b9, rfl, hs9, hb9, hx5_3⟩
    replace hI1 := hI1.nbCons hs9
    replace hI2 := hI2.nbCons hs9
    replace hI3 := hI3.nbCons hs9
    have hg9 : w.heap.size ≤ b9 := Nat.le_trans hE.size hs9
    replace hI1 := hI1.ext hx5_3
    replace hI2 := hI2.ext hx5_3
    replace hI3 := hI3.ext hx5_3
    replace hE := hE.trans hx5_3
    refine Wl.acts rfl rfl (Does.stL 8 rfl rfl rfl hb9 (by kernel_rfl) rfl rfl rfl) ?_
    rintro _ w5_4 ⟨hbn, hF5_4⟩
    replace hI1 := hI1.fr (hF5_4.mono (fun k h => h.1))
    replace hI2 := hI2.fr (hF5_4.mono (fun k h => h.1))
    replace hI3 := hI3.fr (hF5_4.mono (fun k h => h.1))
    replace hE := Ext.over hE hF5_4 hg9
    replace hb9 := hbn
    clear hbn
    refine Wl.nil ?_
    refine Wx.thenN (hK7 _ _ ?_)
    refine Wc.seq (fun K8 hK8 => ?_)
    refine Wc.seq (fun K9 hK9 => ?_)
    refine Wc.keep [(2, _), (3, _), (9, _)] (.cons rfl (.cons rfl (.cons rfl (.nil)))) ?_
    refine Wc.region ?_
    refine Wl.val rfl rfl rfl (Gives.assign rfl rfl) ?_
    refine Wl.nil ?_
    refine Wx.thenN (hK9 _ _ ?_)
    refine Wc.block ?_
    refine Wc.keep [(2, _), (3, _), (9, _), (10, _)] (.cons rfl (.cons rfl (.cons rfl (.cons rfl (.nil))))) ?_
    refine Wc.loopC (ι := Int) [(2, _), (3, _), (9, _)] (fun k => [(10, .int .i64 k)]) (fun k wr => -1 ≤ k ∧ k ≤ 22 ∧ IxV wr (NB [b9]) x pA pn pc aA an ac dA dn dc ∧ Blk wr b9 28 #[.int .i64 x.n, .int .i64 x.kind, .int .i64 x.attr, .int .i64 x.size, .slice pA pn pc, .slice aA an ac, .bool x.wr, .slice dA dn dc] ∧ Ext w wr) (fun k => (22 - k).toNat) (-1) (.cons (by first | exact rfl | exact look_int rfl (by omega) | exact look_slice rfl (by omega)) (.cons rfl (.cons rfl (.cons rfl (.nil))))) (⟨by omega, by omega, ⟨hI1, hI2, hI3⟩, hb9, hE⟩) ?_
    intro k wr hJ KL1 hKL1
    clear hI1 hI2 hI3 hb9 hE
    obtain ⟨hk1, hk2, ⟨hI1, hI2, hI3⟩, hb9, hE⟩ := hJ
    refine Wc.seq (fun K10 hK10 => ?_)
    refine Wc.seq (fun K11 hK11 => ?_)
    refine Wc.keep [(2, _), (3, _), (9, _), (10, _)] (.cons rfl (.cons rfl (.cons rfl (.cons rfl (.nil))))) ?_
    refine Wc.region ?_
    refine Wl.val rfl rfl rfl (Gives.move rfl rfl) ?_
    refine Wl.val rfl rfl rfl (Gives.lss rfl rfl rfl) ?_
    refine Wl.nil ?_
    refine Wx.thenN (hK11 _ _ ?_)
    refine Wc.cond _ rfl (fun h28 => ?_) (fun h28 => ?_)
    · (first | replace h28 := of_decide_eq_true h28 | replace h28 := nd_true h28 | skip)
      refine Wc.skip ?_
      refine Wx.thenN (hK10 _ _ ?_)
      refine Wc.seq (fun K12 hK12 => ?_)
      refine Wc.block ?_
      refine Wc.seq (fun K13 hK13 => ?_)
      refine Wc.keep [(2, _), (3, _), (9, _), (10, _)] (.cons rfl (.cons rfl (.cons rfl (.cons rfl (.nil))))) ?_
      refine Wc.region ?_
      refine Wl.val rfl rfl rfl (Gives.ldW rfl (by kernel_rfl) rfl hb9 (by kernel_rfl)) ?_
      refine Wl.val rfl rfl rfl (Gives.move rfl rfl) ?_
      refine Wl.val rfl rfl rfl (Gives.move rfl rfl) ?_
      refine Wl.call rfl rfl rfl rfl Try.func16 rfl (by kernel_rfl) rfl (writeP_calls _ x pA pn pc aA an ac dA dn dc ⟨hI1, hI2, hI3⟩ (by omega) _ D m mc data (hd.ext hE) (by omega)) ?_
      rintro x9 w9 ⟨y, ye, qA, qn, qc, bA, bn, bc, fA, fn, fc, rfl, hY, hJ, hy⟩
      refine ⟨_, rfl, ?_⟩
      replace hb9 := hb9.ext hy
      replace hI1 := hI1.ext hy
      replace hI2 := hI2.ext hy
      replace hI3 := hI3.ext hy
      replace hE := hE.trans hy
      have hJ1 := ((BV.nb0 hJ.1).nbBox hb9 rfl)
      have hJ2 := ((BV.nb0 hJ.2.1).nbBox hb9 rfl)
      have hJ3 := ((BV.nb0 hJ.2.2).nbBox hb9 rfl)
      refine Wl.val rfl rfl rfl (Gives.move rfl rfl) ?_
      refine Wl.val rfl rfl rfl (Gives.extract rfl rfl rfl) ?_
      refine Wl.val rfl rfl rfl (Gives.extract rfl rfl rfl) ?_
      refine Wl.does rfl rfl rfl (Does.alB (.agg #[(.int .i64 0), (.int .i64 0), (.int .i64 0), (.int .i64 0), (.slice none 0 0), (.slice none 0 0), (.bool false), (.slice none 0 0)]) rfl (by kernel_rfl) rfl) ?_
      rintro _ w9_7 ⟨b11, rfl, hs11, hb11, hx9_7⟩
      have hn9_11 : b9 ≠ b11 := hb9.ne hs11
      replace hI1 := hI1.nbCons hs11
      replace hI2 := hI2.nbCons hs11
      replace hI3 := hI3.nbCons hs11
      replace hJ1 := hJ1.nbCons hs11
      replace hJ2 := hJ2.nbCons hs11
      replace hJ3 := hJ3.nbCons hs11
      have hg11 : w.heap.size ≤ b11 := Nat.le_trans hE.size hs11
      replace hb9 := hb9.ext hx9_7
      replace hI1 := hI1.ext hx9_7
      replace hI2 := hI2.ext hx9_7
      replace hI3 := hI3.ext hx9_7
      replace hJ1 := hJ1.ext hx9_7
      replace hJ2 := hJ2.ext hx9_7
      replace hJ3 := hJ3.ext hx9_7
      replace hE := hE.trans hx9_7
      refine Wl.acts rfl rfl (Does.stL 8 rfl rfl rfl hb11 (by kernel_rfl) rfl rfl rfl) ?_
      rintro _ w9_8 ⟨hbn, hF9_8⟩
      replace hb9 := hb9.fr hF9_8 (by first | assumption | exact Ne.symm (by assumption))
      replace hI1 := hI1.fr (hF9_8.mono (fun k h => h.1))
      replace hI2 := hI2.fr (hF9_8.mono (fun k h => h.1))
      replace hI3 := hI3.fr (hF9_8.mono (fun k h => h.1))
      replace hJ1 := hJ1.fr (hF9_8.mono (fun k h => h.1))
      replace hJ2 := hJ2.fr (hF9_8.mono (fun k h => h.1))
      replace hJ3 := hJ3.fr (hF9_8.mono (fun k h => h.1))
      replace hE := Ext.over hE hF9_8 hg11
      replace hb11 := hbn
      clear hbn
      refine Wl.val rfl rfl rfl (Gives.assign rfl rfl) ?_
      refine Wl.nil ?_
      refine Wx.thenN (hK13 _ _ ?_)
      refine Wc.seq (fun K14 hK14 => ?_)
      refine Wc.keep [(2, _), (3, _), (9, _), (10, _), (11, _), (12, _)] (.cons rfl (.cons rfl (.cons rfl (.cons rfl (.cons rfl (.cons rfl (.nil))))))) ?_
      refine Wc.region ?_
      refine Wl.val rfl rfl rfl (Gives.ldW rfl (by kernel_rfl) rfl hb9 (by kernel_rfl)) ?_
      refine Wl.val rfl rfl rfl (Gives.move rfl rfl) ?_
      refine Wl.val rfl rfl rfl (Gives.move rfl rfl) ?_
      refine Wl.call rfl rfl rfl rfl Try.func17 rfl (by kernel_rfl) rfl (writeR_calls _ x pA pn pc aA an ac dA dn dc ⟨hI1, hI2, hI3⟩ (by omega) _ D m mc data (hd.ext hE) (by omega)) ?_
      rintro x9 w9 ⟨z, ze, rA, rn, rc, sA, sn, sc, uA, un, uc, rfl, hZ, hL, hz⟩
      refine ⟨_, rfl, ?_⟩
      obtain rfl : ze = ye := hZ.out.2.trans hY.out.2.symm
      have hyz : y = z := hY.out.1.trans hZ.out.1.symm
      replace hb9 := hb9.ext hz
      replace hb11 := hb11.ext hz
      replace hI1 := hI1.ext hz
      replace hI2 := hI2.ext hz
      replace hI3 := hI3.ext hz
      replace hJ1 := hJ1.ext hz
      replace hJ2 := hJ2.ext hz
      replace hJ3 := hJ3.ext hz
      replace hE := hE.trans hz
      have hL1 := (((BV.nb0 hL.1).nbBox hb9 rfl).nbBox hb11 rfl)
      have hL2 := (((BV.nb0 hL.2.1).nbBox hb9 rfl).nbBox hb11 rfl)
      have hL3 := (((BV.nb0 hL.2.2).nbBox hb9 rfl).nbBox hb11 rfl)
      refine Wl.val rfl rfl rfl (Gives.move rfl rfl) ?_
      refine Wl.val rfl rfl rfl (Gives.extract rfl rfl rfl) ?_
      refine Wl.val rfl rfl rfl (Gives.extract rfl rfl rfl) ?_
      refine Wl.does rfl rfl rfl (Does.alB (.agg #[(.int .i64 0), (.int .i64 0), (.int .i64 0), (.int .i64 0), (.slice none 0 0), (.slice none 0 0), (.bool false), (.slice none 0 0)]) rfl (by kernel_rfl) rfl) ?_
      rintro _ w10_7 ⟨b13, rfl, hs13, hb13, hx10_7⟩
      have hn9_13 : b9 ≠ b13 := hb9.ne hs13
      have hn11_13 : b11 ≠ b13 := hb11.ne hs13
      replace hI1 := hI1.nbCons hs13
      replace hI2 := hI2.nbCons hs13
      replace hI3 := hI3.nbCons hs13
      replace hJ1 := hJ1.nbCons hs13
      replace hJ2 := hJ2.nbCons hs13
      replace hJ3 := hJ3.nbCons hs13
      replace hL1 := hL1.nbCons hs13
      replace hL2 := hL2.nbCons hs13
      replace hL3 := hL3.nbCons hs13
      have hg13 : w.heap.size ≤ b13 := Nat.le_trans hE.size hs13
      replace hb9 := hb9.ext hx10_7
      replace hb11 := hb11.ext hx10_7
      replace hI1 := hI1.ext hx10_7
      replace hI2 := hI2.ext hx10_7
      replace hI3 := hI3.ext hx10_7
      replace hJ1 := hJ1.ext hx10_7
      replace hJ2 := hJ2.ext hx10_7
      replace hJ3 := hJ3.ext hx10_7
      replace hL1 := hL1.ext hx10_7
      replace hL2 := hL2.ext hx10_7
      replace hL3 := hL3.ext hx10_7
      replace hE := hE.trans hx10_7
      refine Wl.acts rfl rfl (Does.stL 8 rfl rfl rfl hb13 (by kernel_rfl) rfl rfl rfl) ?_
      rintro _ w10_8 ⟨hbn, hF10_8⟩
      replace hb9 := hb9.fr hF10_8 (by first | assumption | exact Ne.symm (by assumption))
      replace hb11 := hb11.fr hF10_8 (by first | assumption | exact Ne.symm (by assumption))
      replace hI1 := hI1.fr (hF10_8.mono (fun k h => h.1))
      replace hI2 := hI2.fr (hF10_8.mono (fun k h => h.1))
      replace hI3 := hI3.fr (hF10_8.mono (fun k h => h.1))
      replace hJ1 := hJ1.fr (hF10_8.mono (fun k h => h.1))
      replace hJ2 := hJ2.fr (hF10_8.mono (fun k h => h.1))
      replace hJ3 := hJ3.fr (hF10_8.mono (fun k h => h.1))
      replace hL1 := hL1.fr (hF10_8.mono (fun k h => h.1))
      replace hL2 := hL2.fr (hF10_8.mono (fun k h => h.1))
      replace hL3 := hL3.fr (hF10_8.mono (fun k h => h.1))
      replace hE := Ext.over hE hF10_8 hg13
      replace hb13 := hbn
      clear hbn
      refine Wl.val rfl rfl rfl (Gives.assign rfl rfl) ?_
      refine Wl.nil ?_
      refine Wx.thenN (hK14 _ _ ?_)
      refine Wc.seq (fun K15 hK15 => ?_)
      refine Wc.keep [(2, _), (3, _), (9, _), (10, _), (11, _), (12, _), (13, _), (14, _)] (.cons rfl (.cons rfl (.cons rfl (.cons rfl (.cons rfl (.cons rfl (.cons rfl (.cons rfl (.nil))))))))) ?_
      refine Wc.region ?_
      refine Wl.val rfl rfl rfl (Gives.move rfl rfl) ?_
      refine Wl.val rfl rfl rfl (Gives.move rfl rfl) ?_
      refine Wl.val rfl rfl rfl (Gives.neq rfl rfl rfl) ?_
      refine Wl.val rfl rfl rfl (Gives.move rfl rfl) ?_
      refine Wl.guardT rfl rfl rfl (nd_mkF rfl) ?_
      refine Wl.val rfl rfl rfl (Gives.ldW rfl (by kernel_rfl) rfl hb11 (by kernel_rfl)) ?_
      refine Wl.val rfl rfl rfl (Gives.ldW rfl (by kernel_rfl) rfl hb13 (by kernel_rfl)) ?_
      refine Wl.call rfl rfl rfl rfl Try.func14 rfl (by kernel_rfl) rfl (sameI_eq _ y z hyz qA qn qc bA bn bc fA fn fc ⟨hJ1, hJ2, hJ3⟩ rA rn rc sA sn sc uA un uc ⟨hL1, hL2, hL3⟩) ?_
      rintro x9 w9 ⟨rfl, hxs⟩
      refine ⟨_, rfl, ?_⟩
      replace hb9 := hb9.ext hxs
      replace hb11 := hb11.ext hxs
      replace hb13 := hb13.ext hxs
      replace hI1 := hI1.ext hxs
      replace hI2 := hI2.ext hxs
      replace hI3 := hI3.ext hxs
      replace hJ1 := hJ1.ext hxs
      replace hJ2 := hJ2.ext hxs
      replace hJ3 := hJ3.ext hxs
      replace hL1 := hL1.ext hxs
      replace hL2 := hL2.ext hxs
      replace hL3 := hL3.ext hxs
      replace hE := hE.trans hxs
      refine Wl.val rfl rfl rfl (Gives.not rfl rfl) ?_
      refine Wl.val rfl rfl rfl (Gives.pickF rfl rfl rfl rfl) ?_
      refine Wl.nil ?_
      refine Wx.thenN (hK15 _ _ ?_)
      refine Wc.condF rfl rfl ?_
      refine Wc.skip ?_
      refine Wx.blockN ?_
      refine Wx.thenN (hK12 _ _ ?_)
      refine Wc.keep [(2, _), (3, _), (9, _), (10, _)] (.cons rfl (.cons rfl (.cons rfl (.cons rfl (.nil))))) ?_
      refine Wc.region ?_
      refine Wl.val rfl rfl rfl (Gives.move rfl rfl) ?_
      refine Wl.val rfl rfl rfl (Gives.add rfl rfl rfl (by first | exact IntWalk.i64_in _ (by omega) | exact u64_in _ (by omega) | exact u32_in _ (by omega) | exact u8_in _ (by omega) | exact rfl)) ?_
      refine Wl.val rfl rfl rfl (Gives.assign rfl rfl) ?_
      refine Wl.nil ?_
      refine Wx.thenN ?_
      refine hKL1 (k + 1) _ _ (.cons (by first | exact rfl | exact look_int rfl (by omega) | exact look_slice rfl (by omega)) (.cons rfl (.cons rfl (.cons rfl (.nil))))) ⟨by omega, by omega, ⟨hI1.mono (fun q h => ⟨h.2.2.1, trivial⟩), hI2.mono (fun q h => ⟨h.2.2.1, trivial⟩), hI3.mono (fun q h => ⟨h.2.2.1, trivial⟩)⟩, hb9, hE⟩ (by omega)
    · (first | replace h28 := of_decide_eq_false h28 | replace h28 := nd_false h28 | skip)
      refine Wc.exit ?_
      refine Wx.thenE ?_
      refine Wx.thenE ?_
      refine Wx.hit ?_
      refine Wx.thenN (hK8 _ _ ?_)
      refine Wc.seq (fun K16 hK16 => ?_)
      refine Wc.keep [(2, _), (3, _), (9, _)] (.cons rfl (.cons rfl (.cons rfl (.nil)))) ?_
      refine Wc.region ?_
      refine Wl.val rfl rfl rfl (Gives.ldW rfl (by kernel_rfl) rfl hb9 (by kernel_rfl)) ?_
      refine Wl.val rfl rfl rfl (Gives.move rfl rfl) ?_
      refine Wl.val rfl rfl rfl (Gives.move rfl rfl) ?_
      refine Wl.call rfl rfl rfl rfl Try.func16 rfl (by kernel_rfl) rfl (writeP_calls _ x pA pn pc aA an ac dA dn dc ⟨hI1, hI2, hI3⟩ (by omega) _ D m mc data (hd.ext hE) (by omega)) ?_
      rintro x9 w9 ⟨y, ye, qA, qn, qc, bA, bn, bc, fA, fn, fc, rfl, hY, hJ, hy⟩
      refine ⟨_, rfl, ?_⟩
      replace hb9 := hb9.ext hy
      replace hI1 := hI1.ext hy
      replace hI2 := hI2.ext hy
      replace hI3 := hI3.ext hy
      replace hE := hE.trans hy
      have hJ1 := ((BV.nb0 hJ.1).nbBox hb9 rfl)
      have hJ2 := ((BV.nb0 hJ.2.1).nbBox hb9 rfl)
      have hJ3 := ((BV.nb0 hJ.2.2).nbBox hb9 rfl)
      refine Wl.val rfl rfl rfl (Gives.move rfl rfl) ?_
      refine Wl.val rfl rfl rfl (Gives.extract rfl rfl rfl) ?_
      refine Wl.val rfl rfl rfl (Gives.extract rfl rfl rfl) ?_
      refine Wl.does rfl rfl rfl (Does.alB (.agg #[(.int .i64 0), (.int .i64 0), (.int .i64 0), (.int .i64 0), (.slice none 0 0), (.slice none 0 0), (.bool false), (.slice none 0 0)]) rfl (by kernel_rfl) rfl) ?_
      rintro _ w13_7 ⟨b15, rfl, hs15, hb15, hx13_7⟩
      have hn9_15 : b9 ≠ b15 := hb9.ne hs15
      replace hI1 := hI1.nbCons hs15
      replace hI2 := hI2.nbCons hs15
      replace hI3 := hI3.nbCons hs15
      replace hJ1 := hJ1.nbCons hs15
      replace hJ2 := hJ2.nbCons hs15
      replace hJ3 := hJ3.nbCons hs15
      have hg15 : w.heap.size ≤ b15 := Nat.le_trans hE.size hs15
      replace hb9 := hb9.ext hx13_7
      replace hI1 := hI1.ext hx13_7
      replace hI2 := hI2.ext hx13_7
      replace hI3 := hI3.ext hx13_7
      replace hJ1 := hJ1.ext hx13_7
      replace hJ2 := hJ2.ext hx13_7
      replace hJ3 := hJ3.ext hx13_7
      replace hE := hE.trans hx13_7
      refine Wl.acts rfl rfl (Does.stL 8 rfl rfl rfl hb15 (by kernel_rfl) rfl rfl rfl) ?_
      rintro _ w13_8 ⟨hbn, hF13_8⟩
      replace hb9 := hb9.fr hF13_8 (by first | assumption | exact Ne.symm (by assumption))
      replace hI1 := hI1.fr (hF13_8.mono (fun k h => h.1))
      replace hI2 := hI2.fr (hF13_8.mono (fun k h => h.1))
      replace hI3 := hI3.fr (hF13_8.mono (fun k h => h.1))
      replace hJ1 := hJ1.fr (hF13_8.mono (fun k h => h.1))
      replace hJ2 := hJ2.fr (hF13_8.mono (fun k h => h.1))
      replace hJ3 := hJ3.fr (hF13_8.mono (fun k h => h.1))
      replace hE := Ext.over hE hF13_8 hg15
      replace hb15 := hbn
      clear hbn
      refine Wl.val rfl rfl rfl (Gives.assign rfl rfl) ?_
      refine Wl.nil ?_
      refine Wx.thenN (hK16 _ _ ?_)
      refine Wc.seq (fun K17 hK17 => ?_)
      refine Wc.keep [(2, _), (3, _), (9, _), (15, _), (16, _)] (.cons rfl (.cons rfl (.cons rfl (.cons rfl (.cons rfl (.nil)))))) ?_
      refine Wc.region ?_
      refine Wl.val rfl rfl rfl (Gives.ldW rfl (by kernel_rfl) rfl hb9 (by kernel_rfl)) ?_
      refine Wl.val rfl rfl rfl (Gives.move rfl rfl) ?_
      refine Wl.val rfl rfl rfl (Gives.move rfl rfl) ?_
      refine Wl.call rfl rfl rfl rfl Try.func17 rfl (by kernel_rfl) rfl (writeR_calls _ x pA pn pc aA an ac dA dn dc ⟨hI1, hI2, hI3⟩ (by omega) _ D m mc data (hd.ext hE) (by omega)) ?_
      rintro x9 w9 ⟨z, ze, rA, rn, rc, sA, sn, sc, uA, un, uc, rfl, hZ, hL, hz⟩
      refine ⟨_, rfl, ?_⟩
      obtain rfl : ze = ye := hZ.out.2.trans hY.out.2.symm
      have hyz : y = z := hY.out.1.trans hZ.out.1.symm
      replace hb9 := hb9.ext hz
      replace hb15 := hb15.ext hz
      replace hI1 := hI1.ext hz
      replace hI2 := hI2.ext hz
      replace hI3 := hI3.ext hz
      replace hJ1 := hJ1.ext hz
      replace hJ2 := hJ2.ext hz
      replace hJ3 := hJ3.ext hz
      replace hE := hE.trans hz
      have hL1 := (((BV.nb0 hL.1).nbBox hb9 rfl).nbBox hb15 rfl)
      have hL2 := (((BV.nb0 hL.2.1).nbBox hb9 rfl).nbBox hb15 rfl)
      have hL3 := (((BV.nb0 hL.2.2).nbBox hb9 rfl).nbBox hb15 rfl)
      refine Wl.val rfl rfl rfl (Gives.move rfl rfl) ?_
      refine Wl.val rfl rfl rfl (Gives.extract rfl rfl rfl) ?_
      refine Wl.val rfl rfl rfl (Gives.extract rfl rfl rfl) ?_
      refine Wl.does rfl rfl rfl (Does.alB (.agg #[(.int .i64 0), (.int .i64 0), (.int .i64 0), (.int .i64 0), (.slice none 0 0), (.slice none 0 0), (.bool false), (.slice none 0 0)]) rfl (by kernel_rfl) rfl) ?_
      rintro _ w14_7 ⟨b17, rfl, hs17, hb17, hx14_7⟩
      have hn9_17 : b9 ≠ b17 := hb9.ne hs17
      have hn15_17 : b15 ≠ b17 := hb15.ne hs17
      replace hI1 := hI1.nbCons hs17
      replace hI2 := hI2.nbCons hs17
      replace hI3 := hI3.nbCons hs17
      replace hJ1 := hJ1.nbCons hs17
      replace hJ2 := hJ2.nbCons hs17
      replace hJ3 := hJ3.nbCons hs17
      replace hL1 := hL1.nbCons hs17
      replace hL2 := hL2.nbCons hs17
      replace hL3 := hL3.nbCons hs17
      have hg17 : w.heap.size ≤ b17 := Nat.le_trans hE.size hs17
      replace hb9 := hb9.ext hx14_7
      replace hb15 := hb15.ext hx14_7
      replace hI1 := hI1.ext hx14_7
      replace hI2 := hI2.ext hx14_7
      replace hI3 := hI3.ext hx14_7
      replace hJ1 := hJ1.ext hx14_7
      replace hJ2 := hJ2.ext hx14_7
      replace hJ3 := hJ3.ext hx14_7
      replace hL1 := hL1.ext hx14_7
      replace hL2 := hL2.ext hx14_7
      replace hL3 := hL3.ext hx14_7
      replace hE := hE.trans hx14_7
      refine Wl.acts rfl rfl (Does.stL 8 rfl rfl rfl hb17 (by kernel_rfl) rfl rfl rfl) ?_
      rintro _ w14_8 ⟨hbn, hF14_8⟩
      replace hb9 := hb9.fr hF14_8 (by first | assumption | exact Ne.symm (by assumption))
      replace hb15 := hb15.fr hF14_8 (by first | assumption | exact Ne.symm (by assumption))
      replace hI1 := hI1.fr (hF14_8.mono (fun k h => h.1))
      replace hI2 := hI2.fr (hF14_8.mono (fun k h => h.1))
      replace hI3 := hI3.fr (hF14_8.mono (fun k h => h.1))
      replace hJ1 := hJ1.fr (hF14_8.mono (fun k h => h.1))
      replace hJ2 := hJ2.fr (hF14_8.mono (fun k h => h.1))
      replace hJ3 := hJ3.fr (hF14_8.mono (fun k h => h.1))
      replace hL1 := hL1.fr (hF14_8.mono (fun k h => h.1))
      replace hL2 := hL2.fr (hF14_8.mono (fun k h => h.1))
      replace hL3 := hL3.fr (hF14_8.mono (fun k h => h.1))
      replace hE := Ext.over hE hF14_8 hg17
      replace hb17 := hbn
      clear hbn
      refine Wl.val rfl rfl rfl (Gives.assign rfl rfl) ?_
      refine Wl.nil ?_
      refine Wx.thenN (hK17 _ _ ?_)
      refine Wc.seq (fun K18 hK18 => ?_)
      refine Wc.keep [(15, _), (16, _), (17, _), (18, _)] (.cons rfl (.cons rfl (.cons rfl (.cons rfl (.nil))))) ?_
      refine Wc.region ?_
      refine Wl.val rfl rfl rfl (Gives.move rfl rfl) ?_
      refine Wl.val rfl rfl rfl (Gives.move rfl rfl) ?_
      refine Wl.val rfl rfl rfl (Gives.eql rfl rfl rfl) ?_
      refine Wl.val rfl rfl rfl (Gives.move rfl rfl) ?_
      refine Wl.guardT rfl rfl rfl (decide_eq_true rfl) ?_
      refine Wl.val rfl rfl rfl (Gives.ldW rfl (by kernel_rfl) rfl hb15 (by kernel_rfl)) ?_
      refine Wl.val rfl rfl rfl (Gives.ldW rfl (by kernel_rfl) rfl hb17 (by kernel_rfl)) ?_
      refine Wl.call rfl rfl rfl rfl Try.func14 rfl (by kernel_rfl) rfl (sameI_eq _ y z hyz qA qn qc bA bn bc fA fn fc ⟨hJ1, hJ2, hJ3⟩ rA rn rc sA sn sc uA un uc ⟨hL1, hL2, hL3⟩) ?_
      rintro x9 w9 ⟨rfl, hxs⟩
      refine ⟨_, rfl, ?_⟩
      replace hb9 := hb9.ext hxs
      replace hb15 := hb15.ext hxs
      replace hb17 := hb17.ext hxs
      replace hI1 := hI1.ext hxs
      replace hI2 := hI2.ext hxs
      replace hI3 := hI3.ext hxs
      replace hJ1 := hJ1.ext hxs
      replace hJ2 := hJ2.ext hxs
      replace hJ3 := hJ3.ext hxs
      replace hL1 := hL1.ext hxs
      replace hL2 := hL2.ext hxs
      replace hL3 := hL3.ext hxs
      replace hE := hE.trans hxs
      refine Wl.val rfl rfl rfl (Gives.pickT rfl rfl rfl rfl) ?_
      refine Wl.val rfl rfl rfl (Gives.assign rfl rfl) ?_
      refine Wl.nil ?_
      refine Wx.thenN (hK18 _ _ ?_)
      refine Wc.ret ?_
      refine Wx.ret [_] ⟨rfl, trivial⟩ ?_
      exact ⟨rfl, hE⟩
end Go.Proofs.Ytdekjkcnfebfnaa
