/- IndexExtend: the walk. -/
import Derived.Test.YtdekjkcnfebfnaaDoorIdxA
import Derived.Test.YtdekjkcnfebfnaaDoorIdxG
namespace Go.Proofs.YtdekjkcnfebfnaaDoor
set_option linter.all false
open Go.RowKit
set_option maxRecDepth 20000 in
set_option maxHeartbeats 2000000 in
theorem indexExtend_walk {P1 P2 : Nat → Prop} (w : World) (hT : Tab w) (kind : UInt8) (A : Option Addr) (n c : Nat) (l : List UInt8) (ha : BV w P1 A n c l) (twice : Bool) (D : Option Addr) (m mc : Nat) (data : List UInt8) (hd : BV w P2 D m mc data) (long : Bool) :
    Calls Tryd.prog 3 #[.int .u8 (kind.toNat : Int), .slice A n c, .bool twice, .slice D m mc, .bool long] w fun e w' => e = .returned (.bool true) ∧ Ext w w' := by
  refine calls_enter Tryd.func3 rfl Tryd.ntmps3 rfl ?_
  have hE : Ext w w := Ext.refl w
  refine Wc.seq (fun K1 hK1 => ?_)
  refine Wc.keep [(0, _), (1, _), (2, _), (3, _), (4, _)] (.cons rfl (.cons rfl (.cons rfl (.cons rfl (.cons rfl (.nil)))))) ?_
  refine Wc.region ?_
  refine Wl.val rfl rfl rfl (Gives.assign rfl rfl) ?_
  refine Wl.nil ?_
  refine Wx.thenN (hK1 _ _ ?_)
  refine Wc.seq (fun K2 hK2 => ?_)
  refine Wc.seq (fun K3 hK3 => ?_)
  refine Wc.keep [(0, _), (1, _), (2, _), (3, _), (4, _)] (.cons rfl (.cons rfl (.cons rfl (.cons rfl (.cons rfl (.nil)))))) ?_
  refine Wc.region ?_
  refine Wl.call rfl rfl rfl rfl Tryd.func4 rfl (by kernel_rfl) rfl (awake_calls w) ?_
  rintro x0 w1 ⟨rfl, hx0⟩
  refine ⟨_, rfl, ?_⟩
  replace hE := hE.trans hx0
  refine Wl.val rfl rfl rfl (Gives.not rfl rfl) ?_
  refine Wl.nil ?_
  refine Wx.thenN (hK3 _ _ ?_)
  refine Wc.condF rfl rfl ?_
  refine Wc.skip ?_
  refine Wx.thenN (hK2 _ _ ?_)
  refine Wc.seq (fun K4 hK4 => ?_)
  refine Wc.seq (fun K5 hK5 => ?_)
  refine Wc.keep [(0, _), (1, _), (2, _), (3, _), (4, _)] (.cons rfl (.cons rfl (.cons rfl (.cons rfl (.cons rfl (.nil)))))) ?_
  refine Wc.region ?_
  refine Wl.val rfl rfl rfl (Gives.move rfl rfl) ?_
  refine Wl.val rfl rfl rfl (Gives.lenS rfl Tryd.underlying22 rfl) ?_
  refine Wl.val rfl rfl rfl (Gives.gtr rfl rfl rfl) ?_
  refine Wl.nil ?_
  refine Wx.thenN (hK5 _ _ ?_)
  refine Wc.cond _ rfl (fun h20 => ?_) (fun h20 => ?_)
  · (first | replace h20 := of_decide_eq_true h20 | replace h20 := nd_true h20 | skip)
    refine Wc.seq (fun K6 hK6 => ?_)
    refine Wc.keep [] (.nil) ?_
    refine Wc.region ?_
    refine Wl.val rfl rfl rfl (Gives.assign rfl rfl) ?_
    refine Wl.nil ?_
    refine Wx.thenN (hK6 _ _ ?_)
    refine Wc.ret ?_
    refine Wx.thenR ?_
    refine Wx.ret [_] ⟨rfl, trivial⟩ ?_
    exact ⟨rfl, hE⟩
  · (first | replace h20 := of_decide_eq_false h20 | replace h20 := nd_false h20 | skip)
    refine Wc.skip ?_
    refine Wx.thenN (hK4 _ _ ?_)
    refine Wc.seq (fun K7 hK7 => ?_)
    refine Wc.keep [(0, _), (1, _), (2, _), (3, _), (4, _)] (.cons rfl (.cons rfl (.cons rfl (.cons rfl (.cons rfl (.nil)))))) ?_
    refine Wc.region ?_
    refine Wl.val rfl rfl rfl (Gives.move rfl rfl) ?_
    refine Wl.val rfl rfl rfl (Gives.move rfl rfl) ?_
    refine Wl.val rfl rfl rfl (Gives.move rfl rfl) ?_
    refine Wl.call rfl rfl rfl rfl Tryd.func5 rfl (by kernel_rfl) rfl (written_calls _ kind A n c l (ha.ext hE) twice) ?_
    rintro x1 w2 ⟨x, pA, pn, pc, aA, an, ac, dA, dn, dc, rfl, hG, hI0, hx1⟩
    refine ⟨_, rfl, ?_⟩
    have hdl : x.data.length = dn := hI0.2.2.len
    have hd32 : x.data.length ≤ 32 := hG.1
    replace hE := hE.trans hx1
    have hI1 := (BV.nb0 hI0.1)
    have hI2 := (BV.nb0 hI0.2.1)
    have hI3 := (BV.nb0 hI0.2.2)
    refine Wl.does rfl rfl rfl (Does.alB (.agg #[(.int .i64 0), (.int .i64 0), (.int .i64 0), (.int .i64 0), (.slice none 0 0), (.slice none 0 0), (.bool false), (.slice none 0 0)]) rfl (by kernel_rfl) rfl) ?_
    rintro _ w5_4 ⟨b11, rfl, hs11, hb11, hx5_4⟩
    replace hI1 := hI1.nbCons hs11
    replace hI2 := hI2.nbCons hs11
    replace hI3 := hI3.nbCons hs11
    have hg11 : w.heap.size ≤ b11 := Nat.le_trans hE.size hs11
    replace hI1 := hI1.ext hx5_4
    replace hI2 := hI2.ext hx5_4
    replace hI3 := hI3.ext hx5_4
    replace hE := hE.trans hx5_4
    refine Wl.acts rfl rfl (Does.stL 8 rfl rfl rfl hb11 (by kernel_rfl) rfl rfl rfl) ?_
    rintro _ w5_5 ⟨hbn, hF5_5⟩
    replace hI1 := hI1.fr (hF5_5.mono (fun k h => h.1))
    replace hI2 := hI2.fr (hF5_5.mono (fun k h => h.1))
    replace hI3 := hI3.fr (hF5_5.mono (fun k h => h.1))
    replace hE := Ext.over hE hF5_5 hg11
    replace hb11 := hbn
    clear hbn
    refine Wl.nil ?_
    refine Wx.thenN (hK7 _ _ ?_)
    refine Wc.joinC (ι := Option Addr × Nat × Nat × List UInt8) [(11, _)] (fun | (D, m, mc, _) => [(3, .slice D m mc)]) (fun | (D, m, mc, data), wr => BV wr (NB []) D m mc data ∧ m ≤ 1000 ∧ IxV wr (NB [b11]) x pA pn pc aA an ac dA dn dc ∧ Blk wr b11 25 #[.int .i64 x.n, .int .i64 x.kind, .int .i64 x.attr, .int .i64 x.size, .slice pA pn pc, .slice aA an ac, .bool x.wr, .slice dA dn dc] ∧ Ext w wr) ?_ ?_ (.cons rfl (.nil))
    · intro K8 hJ8
      refine Wc.seq (fun K9 hK9 => ?_)
      refine Wc.keep [(3, _), (4, _), (11, _)] (.cons rfl (.cons rfl (.cons rfl (.nil)))) ?_
      refine Wc.region ?_
      refine Wl.val rfl rfl rfl (Gives.move rfl rfl) ?_
      refine Wl.nil ?_
      refine Wx.thenN (hK9 _ _ ?_)
      refine Wc.cond _ rfl (fun h25 => ?_) (fun h25 => ?_)
      · (first | replace h25 := of_decide_eq_true h25 | replace h25 := nd_true h25 | skip)
        refine Wc.keep [(3, _), (11, _)] (.cons rfl (.cons rfl (.nil))) ?_
        refine Wc.region ?_
        refine Wl.does rfl rfl rfl (Does.mkM 100 rfl rfl Tryd.underlying22 infoB rfl rfl rfl (by omega)) ?_
        rintro _ w71 ⟨g7, rfl, hg7, hM7, hx7⟩
        have hO7 := hM7.ob (n := 100) (c := 100) hg7 (by simp) (by omega) rfl (by omega)
        refine Wl.val rfl rfl rfl (Gives.move rfl rfl) ?_
        refine Wl.does rfl rfl rfl (Does.appO rfl Tryd.underlying22 infoB rfl rfl hO7 ((hd.ext hE).ext hx7) (by omega) hx7.size) ?_
        rintro _ w72 ⟨S2, k2, rfl, hO2, hB2⟩
        have hx72 := Ext.step hx7 hB2 (Nat.le_refl _)
        replace hb11 := hb11.ext hx72
        replace hI1 := hI1.ext hx72
        replace hI2 := hI2.ext hx72
        replace hI3 := hI3.ext hx72
        replace hE := hE.trans hx72
        refine Wl.val rfl rfl rfl (Gives.assign rfl rfl) ?_
        refine Wl.nil ?_
        refine Wx.thenN ?_
        refine hJ8 (S2, 100 + m, k2, _) _ _ (.cons (by first | exact rfl | exact look_int rfl (by omega) | exact look_slice rfl (by omega)) (.cons rfl (.nil))) ⟨hO2.bv (fun _ _ => trivial), by omega, ⟨hI1, hI2, hI3⟩, hb11, hE⟩
      · (first | replace h25 := of_decide_eq_false h25 | replace h25 := nd_false h25 | skip)
        refine Wc.skip ?_
        refine Wx.thenN ?_
        refine hJ8 (D, m, mc, data) _ _ (.cons (by first | exact rfl | exact look_int rfl (by omega) | exact look_slice rfl (by omega)) (.cons rfl (.nil))) ⟨(hd.ext hE).nb0, by omega, ⟨hI1, hI2, hI3⟩, hb11, hE⟩
    intro ⟨D, m, mc, data⟩ wr hJ
    clear hI1 hI2 hI3 hb11 hE hd h20
    obtain ⟨hd, hm, ⟨hI1, hI2, hI3⟩, hb11, hE⟩ := hJ
    refine Wc.seq (fun K10 hK10 => ?_)
    refine Wc.keep [(3, _), (11, _)] (.cons rfl (.cons rfl (.nil))) ?_
    refine Wc.region ?_
    refine Wl.val rfl rfl rfl (Gives.ldW rfl (by kernel_rfl) rfl hb11 (by kernel_rfl)) ?_
    refine Wl.val rfl rfl rfl (Gives.move rfl rfl) ?_
    refine Wl.call rfl rfl rfl rfl Tryd.func6 rfl (by kernel_rfl) rfl (extendP_calls _ (hT.ext hE) x pA pn pc aA an ac dA dn dc ⟨hI1, hI2, hI3⟩ (by omega) D m mc data hd) ?_
    rintro x9 w9 ⟨y, ye, qA, qn, qc, bA, bn, bc, fA, fn, fc, rfl, hY, hJ, hy⟩
    refine ⟨_, rfl, ?_⟩
    replace hb11 := hb11.ext hy
    replace hI1 := hI1.ext hy
    replace hI2 := hI2.ext hy
    replace hI3 := hI3.ext hy
    replace hd := hd.ext hy
    replace hE := hE.trans hy
    have hJ1 := ((BV.nb0 hJ.1).nbBox hb11 rfl)
    have hJ2 := ((BV.nb0 hJ.2.1).nbBox hb11 rfl)
    have hJ3 := ((BV.nb0 hJ.2.2).nbBox hb11 rfl)
    refine Wl.val rfl rfl rfl (Gives.move rfl rfl) ?_
    refine Wl.val rfl rfl rfl (Gives.extract rfl rfl rfl) ?_
    refine Wl.val rfl rfl rfl (Gives.extract rfl rfl rfl) ?_
    refine Wl.does rfl rfl rfl (Does.alB (.agg #[(.int .i64 0), (.int .i64 0), (.int .i64 0), (.int .i64 0), (.slice none 0 0), (.slice none 0 0), (.bool false), (.slice none 0 0)]) rfl (by kernel_rfl) rfl) ?_
    rintro _ w8_6 ⟨b12, rfl, hs12, hb12, hx8_6⟩
    have hn11_12 : b11 ≠ b12 := hb11.ne hs12
    replace hI1 := hI1.nbCons hs12
    replace hI2 := hI2.nbCons hs12
    replace hI3 := hI3.nbCons hs12
    replace hJ1 := hJ1.nbCons hs12
    replace hJ2 := hJ2.nbCons hs12
    replace hJ3 := hJ3.nbCons hs12
    replace hd := hd.nbCons hs12
    have hg12 : w.heap.size ≤ b12 := Nat.le_trans hE.size hs12
    replace hb11 := hb11.ext hx8_6
    replace hI1 := hI1.ext hx8_6
    replace hI2 := hI2.ext hx8_6
    replace hI3 := hI3.ext hx8_6
    replace hJ1 := hJ1.ext hx8_6
    replace hJ2 := hJ2.ext hx8_6
    replace hJ3 := hJ3.ext hx8_6
    replace hd := hd.ext hx8_6
    replace hE := hE.trans hx8_6
    refine Wl.acts rfl rfl (Does.stL 8 rfl rfl rfl hb12 (by kernel_rfl) rfl rfl rfl) ?_
    rintro _ w8_7 ⟨hbn, hF8_7⟩
    replace hb11 := hb11.fr hF8_7 (by first | assumption | exact Ne.symm (by assumption))
    replace hI1 := hI1.fr (hF8_7.mono (fun k h => h.1))
    replace hI2 := hI2.fr (hF8_7.mono (fun k h => h.1))
    replace hI3 := hI3.fr (hF8_7.mono (fun k h => h.1))
    replace hJ1 := hJ1.fr (hF8_7.mono (fun k h => h.1))
    replace hJ2 := hJ2.fr (hF8_7.mono (fun k h => h.1))
    replace hJ3 := hJ3.fr (hF8_7.mono (fun k h => h.1))
    replace hd := hd.fr (hF8_7.mono (fun k h => h.1))
    replace hE := Ext.over hE hF8_7 hg12
    replace hb12 := hbn
    clear hbn
    refine Wl.val rfl rfl rfl (Gives.assign rfl rfl) ?_
    refine Wl.nil ?_
    refine Wx.thenN (hK10 _ _ ?_)
    refine Wc.seq (fun K11 hK11 => ?_)
    refine Wc.keep [(3, _), (11, _), (12, _), (13, _)] (.cons rfl (.cons rfl (.cons rfl (.cons rfl (.nil))))) ?_
    refine Wc.region ?_
    refine Wl.val rfl rfl rfl (Gives.ldW rfl (by kernel_rfl) rfl hb11 (by kernel_rfl)) ?_
    refine Wl.val rfl rfl rfl (Gives.move rfl rfl) ?_
    refine Wl.call rfl rfl rfl rfl Tryd.func7 rfl (by kernel_rfl) rfl (extendR_calls _ x pA pn pc aA an ac dA dn dc ⟨hI1, hI2, hI3⟩ (by omega) D m mc data hd) ?_
    rintro x9 w9 ⟨z, ze, rA, rn, rc, sA, sn, sc, uA, un, uc, rfl, hZ, hL, hz⟩
    refine ⟨_, rfl, ?_⟩
    obtain rfl : ze = ye := hZ.out.2.trans hY.out.2.symm
    have hyz : y = z := hY.out.1.trans hZ.out.1.symm
    replace hb11 := hb11.ext hz
    replace hb12 := hb12.ext hz
    replace hI1 := hI1.ext hz
    replace hI2 := hI2.ext hz
    replace hI3 := hI3.ext hz
    replace hJ1 := hJ1.ext hz
    replace hJ2 := hJ2.ext hz
    replace hJ3 := hJ3.ext hz
    replace hd := hd.ext hz
    replace hE := hE.trans hz
    have hL1 := (((BV.nb0 hL.1).nbBox hb11 rfl).nbBox hb12 rfl)
    have hL2 := (((BV.nb0 hL.2.1).nbBox hb11 rfl).nbBox hb12 rfl)
    have hL3 := (((BV.nb0 hL.2.2).nbBox hb11 rfl).nbBox hb12 rfl)
    refine Wl.val rfl rfl rfl (Gives.move rfl rfl) ?_
    refine Wl.val rfl rfl rfl (Gives.extract rfl rfl rfl) ?_
    refine Wl.val rfl rfl rfl (Gives.extract rfl rfl rfl) ?_
    refine Wl.does rfl rfl rfl (Does.alB (.agg #[(.int .i64 0), (.int .i64 0), (.int .i64 0), (.int .i64 0), (.slice none 0 0), (.slice none 0 0), (.bool false), (.slice none 0 0)]) rfl (by kernel_rfl) rfl) ?_
    rintro _ w9_6 ⟨b14, rfl, hs14, hb14, hx9_6⟩
    have hn11_14 : b11 ≠ b14 := hb11.ne hs14
    have hn12_14 : b12 ≠ b14 := hb12.ne hs14
    replace hI1 := hI1.nbCons hs14
    replace hI2 := hI2.nbCons hs14
    replace hI3 := hI3.nbCons hs14
    replace hJ1 := hJ1.nbCons hs14
    replace hJ2 := hJ2.nbCons hs14
    replace hJ3 := hJ3.nbCons hs14
    replace hL1 := hL1.nbCons hs14
    replace hL2 := hL2.nbCons hs14
    replace hL3 := hL3.nbCons hs14
    replace hd := hd.nbCons hs14
    have hg14 : w.heap.size ≤ b14 := Nat.le_trans hE.size hs14
    replace hb11 := hb11.ext hx9_6
    replace hb12 := hb12.ext hx9_6
    replace hI1 := hI1.ext hx9_6
    replace hI2 := hI2.ext hx9_6
    replace hI3 := hI3.ext hx9_6
    replace hJ1 := hJ1.ext hx9_6
    replace hJ2 := hJ2.ext hx9_6
    replace hJ3 := hJ3.ext hx9_6
    replace hL1 := hL1.ext hx9_6
    replace hL2 := hL2.ext hx9_6
    replace hL3 := hL3.ext hx9_6
    replace hd := hd.ext hx9_6
    replace hE := hE.trans hx9_6
    refine Wl.acts rfl rfl (Does.stL 8 rfl rfl rfl hb14 (by kernel_rfl) rfl rfl rfl) ?_
    rintro _ w9_7 ⟨hbn, hF9_7⟩
    replace hb11 := hb11.fr hF9_7 (by first | assumption | exact Ne.symm (by assumption))
    replace hb12 := hb12.fr hF9_7 (by first | assumption | exact Ne.symm (by assumption))
    replace hI1 := hI1.fr (hF9_7.mono (fun k h => h.1))
    replace hI2 := hI2.fr (hF9_7.mono (fun k h => h.1))
    replace hI3 := hI3.fr (hF9_7.mono (fun k h => h.1))
    replace hJ1 := hJ1.fr (hF9_7.mono (fun k h => h.1))
    replace hJ2 := hJ2.fr (hF9_7.mono (fun k h => h.1))
    replace hJ3 := hJ3.fr (hF9_7.mono (fun k h => h.1))
    replace hL1 := hL1.fr (hF9_7.mono (fun k h => h.1))
    replace hL2 := hL2.fr (hF9_7.mono (fun k h => h.1))
    replace hL3 := hL3.fr (hF9_7.mono (fun k h => h.1))
    replace hd := hd.fr (hF9_7.mono (fun k h => h.1))
    replace hE := Ext.over hE hF9_7 hg14
    replace hb14 := hbn
    clear hbn
    refine Wl.val rfl rfl rfl (Gives.assign rfl rfl) ?_
    refine Wl.nil ?_
    refine Wx.thenN (hK11 _ _ ?_)
    refine Wc.seq (fun K12 hK12 => ?_)
    refine Wc.keep [(12, _), (13, _), (14, _), (15, _)] (.cons rfl (.cons rfl (.cons rfl (.cons rfl (.nil))))) ?_
    refine Wc.region ?_
    refine Wl.val rfl rfl rfl (Gives.move rfl rfl) ?_
    refine Wl.val rfl rfl rfl (Gives.move rfl rfl) ?_
    refine Wl.val rfl rfl rfl (Gives.eql rfl rfl rfl) ?_
    refine Wl.val rfl rfl rfl (Gives.move rfl rfl) ?_
    refine Wl.guardT rfl rfl rfl (decide_eq_true rfl) ?_
    refine Wl.val rfl rfl rfl (Gives.ldW rfl (by kernel_rfl) rfl hb12 (by kernel_rfl)) ?_
    refine Wl.val rfl rfl rfl (Gives.ldW rfl (by kernel_rfl) rfl hb14 (by kernel_rfl)) ?_
    refine Wl.call rfl rfl rfl rfl Tryd.func8 rfl (by kernel_rfl) rfl (sameI_eq _ y z hyz qA qn qc bA bn bc fA fn fc ⟨hJ1, hJ2, hJ3⟩ rA rn rc sA sn sc uA un uc ⟨hL1, hL2, hL3⟩) ?_
    rintro x9 w9 ⟨rfl, hxs⟩
    refine ⟨_, rfl, ?_⟩
    replace hb11 := hb11.ext hxs
    replace hb12 := hb12.ext hxs
    replace hb14 := hb14.ext hxs
    replace hI1 := hI1.ext hxs
    replace hI2 := hI2.ext hxs
    replace hI3 := hI3.ext hxs
    replace hJ1 := hJ1.ext hxs
    replace hJ2 := hJ2.ext hxs
    replace hJ3 := hJ3.ext hxs
    replace hL1 := hL1.ext hxs
    replace hL2 := hL2.ext hxs
    replace hL3 := hL3.ext hxs
    replace hd := hd.ext hxs
    replace hE := hE.trans hxs
    refine Wl.val rfl rfl rfl (Gives.pickT rfl rfl rfl rfl) ?_
    refine Wl.val rfl rfl rfl (Gives.assign rfl rfl) ?_
    refine Wl.nil ?_
    refine Wx.thenN (hK12 _ _ ?_)
    refine Wc.ret ?_
    refine Wx.ret [_] ⟨rfl, trivial⟩ ?_
    exact ⟨rfl, hE⟩
end Go.Proofs.YtdekjkcnfebfnaaDoor
