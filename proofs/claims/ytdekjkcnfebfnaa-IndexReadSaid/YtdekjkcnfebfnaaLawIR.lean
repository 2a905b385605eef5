/- IndexRead: the walk. -/
import Derived.Test.YtdekjkcnfebfnaaIdxA
import Derived.Test.YtdekjkcnfebfnaaIdxG
namespace Go.Proofs.Ytdekjkcnfebfnaa
set_option linter.all false
open Go.RowKit
set_option maxRecDepth 20000 in
set_option maxHeartbeats 2000000 in
theorem indexRead_walk {P1 : Nat → Prop} (w : World) (kind : UInt8) (A : Option Addr) (n c : Nat) (l : List UInt8) (ha : BV w P1 A n c l) (twice : Bool) (off size : Int) :
    Calls Try.prog 5 #[.int .u8 (kind.toNat : Int), .slice A n c, .bool twice, .int .i64 off, .int .i64 size] w fun e w' => e = .returned (.bool true) ∧ Ext w w' := by
  refine calls_enter Try.func5 rfl Try.ntmps5 rfl ?_
  have hE : Ext w w := Ext.refl w
  refine Wc.seq (fun K1 hK1 => ?_)
  refine Wc.keep [(0, _), (1, _), (2, _), (3, _), (4, _)] (.cons rfl (.cons rfl (.cons rfl (.cons rfl (.cons rfl (.nil)))))) ?_
  refine Wc.region ?_
  refine Wl.val rfl rfl rfl (Gives.assign rfl rfl) ?_
  refine Wl.nil ?_
  refine Wx.thenN (hK1 _ _ ?_)
  refine Wc.seq (fun K2 hK2 => ?_)
  refine Wc.seq (fun K3 hK3 => ?_)
  refine Wc.keep [(0, _), (1, _), (2, _), (3, _), (4, _)] (.cons rfl (.cons rfl (.cons rfl (.cons rfl (.cons rfl (.nil)))))) ?_
  refine Wc.region ?_
  refine Wl.call rfl rfl rfl rfl Try.func9 rfl (by kernel_rfl) rfl (awake_calls w) ?_
  rintro x0 w1 ⟨rfl, hx0⟩
  refine ⟨_, rfl, ?_⟩
  replace hE := hE.trans hx0
  refine Wl.val rfl rfl rfl (Gives.not rfl rfl) ?_
  refine Wl.nil ?_
  refine Wx.thenN (hK3 _ _ ?_)
  refine Wc.condF rfl rfl ?_
  refine Wc.skip ?_
  refine Wx.thenN (hK2 _ _ ?_)
  refine Wc.seq (fun K4 hK4 => ?_)
  refine Wc.keep [(0, _), (1, _), (2, _), (3, _), (4, _)] (.cons rfl (.cons rfl (.cons rfl (.cons rfl (.cons rfl (.nil)))))) ?_
  refine Wc.region ?_
  refine Wl.val rfl rfl rfl (Gives.move rfl rfl) ?_
  refine Wl.val rfl rfl rfl (Gives.move rfl rfl) ?_
  refine Wl.val rfl rfl rfl (Gives.move rfl rfl) ?_
  refine Wl.call rfl rfl rfl rfl Try.func15 rfl (by kernel_rfl) rfl (written_calls _ kind A n c l (ha.ext hE) twice) ?_
  rintro x1 w2 ⟨x, pA, pn, pc, aA, an, ac, dA, dn, dc, rfl, hG, hI0, hx1⟩
  refine ⟨_, rfl, ?_⟩
  have hdl : x.data.length = dn := hI0.2.2.len
  have hd32 : x.data.length ≤ 32 := hG.1
  replace hE := hE.trans hx1
  have hI1 := (BV.nb0 hI0.1)
  have hI2 := (BV.nb0 hI0.2.1)
  have hI3 := (BV.nb0 hI0.2.2)
  refine Wl.does rfl rfl rfl (Does.alB (.agg #[(.int .i64 0), (.int .i64 0), (.int .i64 0), (.int .i64 0), (.slice none 0 0), (.slice none 0 0), (.bool false), (.slice none 0 0)]) rfl (by kernel_rfl) rfl) ?_
  rintro _ w3_4 ⟨b11, rfl, hs11, hb11, hx3_4⟩
  replace hI1 := hI1.nbCons hs11
  replace hI2 := hI2.nbCons hs11
  replace hI3 := hI3.nbCons hs11
  have hg11 : w.heap.size ≤ b11 := Nat.le_trans hE.size hs11
  replace hI1 := hI1.ext hx3_4
  replace hI2 := hI2.ext hx3_4
  replace hI3 := hI3.ext hx3_4
  replace hE := hE.trans hx3_4
  refine Wl.acts rfl rfl (Does.stL 8 rfl rfl rfl hb11 (by kernel_rfl) rfl rfl rfl) ?_
  rintro _ w3_5 ⟨hbn, hF3_5⟩
  replace hI1 := hI1.fr (hF3_5.mono (fun k h => h.1))
  replace hI2 := hI2.fr (hF3_5.mono (fun k h => h.1))
  replace hI3 := hI3.fr (hF3_5.mono (fun k h => h.1))
  replace hE := Ext.over hE hF3_5 hg11
  replace hb11 := hbn
  clear hbn
  refine Wl.nil ?_
  refine Wx.thenN (hK4 _ _ ?_)
  refine Wc.seq (fun K5 hK5 => ?_)
  refine Wc.seq (fun K6 hK6 => ?_)
  refine Wc.keep [(3, _), (4, _), (11, _)] (.cons rfl (.cons rfl (.cons rfl (.nil)))) ?_
  refine Wc.region ?_
  refine Wl.val rfl rfl rfl (Gives.assign rfl rfl) ?_
  refine Wl.nil ?_
  refine Wx.thenN (hK6 _ _ ?_)
  refine Wc.block ?_
  refine Wc.keep [(3, _), (4, _), (11, _), (12, _)] (.cons rfl (.cons rfl (.cons rfl (.cons rfl (.nil))))) ?_
  refine Wc.loopC (ι := Int) [(3, _), (4, _), (11, _)] (fun k => [(12, .int .i64 k)]) (fun k wr => -1 ≤ k ∧ k ≤ 40 ∧ IxV wr (NB [b11]) x pA pn pc aA an ac dA dn dc ∧ Blk wr b11 28 #[.int .i64 x.n, .int .i64 x.kind, .int .i64 x.attr, .int .i64 x.size, .slice pA pn pc, .slice aA an ac, .bool x.wr, .slice dA dn dc] ∧ Ext w wr) (fun k => (40 - k).toNat) (-1) (.cons (by first | exact rfl | exact look_int rfl (by omega) | exact look_slice rfl (by omega)) (.cons rfl (.cons rfl (.cons rfl (.nil))))) (⟨by omega, by omega, ⟨hI1, hI2, hI3⟩, hb11, hE⟩) ?_
  intro k wr hJ KL1 hKL1
  clear hI1 hI2 hI3 hb11 hE
  obtain ⟨hk1, hk2, ⟨hI1, hI2, hI3⟩, hb11, hE⟩ := hJ
  refine Wc.seq (fun K7 hK7 => ?_)
  refine Wc.seq (fun K8 hK8 => ?_)
  refine Wc.keep [(3, _), (4, _), (11, _), (12, _)] (.cons rfl (.cons rfl (.cons rfl (.cons rfl (.nil))))) ?_
  refine Wc.region ?_
  refine Wl.val rfl rfl rfl (Gives.move rfl rfl) ?_
  refine Wl.val rfl rfl rfl (Gives.lss rfl rfl rfl) ?_
  refine Wl.nil ?_
  refine Wx.thenN (hK8 _ _ ?_)
  refine Wc.cond _ rfl (fun h28 => ?_) (fun h28 => ?_)
  · (first | replace h28 := of_decide_eq_true h28 | replace h28 := nd_true h28 | skip)
    refine Wc.skip ?_
    refine Wx.thenN (hK7 _ _ ?_)
    refine Wc.seq (fun K9 hK9 => ?_)
    refine Wc.block ?_
    refine Wc.seq (fun K10 hK10 => ?_)
    refine Wc.keep [(3, _), (4, _), (11, _), (12, _)] (.cons rfl (.cons rfl (.cons rfl (.cons rfl (.nil))))) ?_
    refine Wc.region ?_
    refine Wl.val rfl rfl rfl (Gives.ldW rfl (by kernel_rfl) rfl hb11 (by kernel_rfl)) ?_
    refine Wl.val rfl rfl rfl (Gives.move rfl rfl) ?_
    refine Wl.val rfl rfl rfl (Gives.move rfl rfl) ?_
    refine Wl.val rfl rfl rfl (Gives.bits .and (by simp) rfl rfl rfl rfl) ?_
    refine Wl.call rfl rfl rfl rfl Try.func18 rfl (by kernel_rfl) rfl (readP_calls _ x pA pn pc aA an ac dA dn dc ⟨hI1, hI2, hI3⟩ (by omega) _ _) ?_
    rintro x9 w9 ⟨S, sn, sk, sl, se, rfl, hY, hO, hy⟩
    refine ⟨_, rfl, ?_⟩
    have hS := hO.nb (ls := [b11]) ⟨hb11.lt, trivial⟩
    replace hb11 := hb11.ext hy
    replace hI1 := hI1.ext hy
    replace hI2 := hI2.ext hy
    replace hI3 := hI3.ext hy
    replace hE := hE.trans hy
    refine Wl.val rfl rfl rfl (Gives.move rfl rfl) ?_
    refine Wl.val rfl rfl rfl (Gives.extract rfl rfl rfl) ?_
    refine Wl.val rfl rfl rfl (Gives.extract rfl rfl rfl) ?_
    refine Wl.val rfl rfl rfl (Gives.assign rfl rfl) ?_
    refine Wl.val rfl rfl rfl (Gives.assign rfl rfl) ?_
    refine Wl.nil ?_
    refine Wx.thenN (hK10 _ _ ?_)
    refine Wc.seq (fun K11 hK11 => ?_)
    refine Wc.keep [(3, _), (4, _), (11, _), (12, _), (13, _), (14, _)] (.cons rfl (.cons rfl (.cons rfl (.cons rfl (.cons rfl (.cons rfl (.nil))))))) ?_
    refine Wc.region ?_
    refine Wl.val rfl rfl rfl (Gives.ldW rfl (by kernel_rfl) rfl hb11 (by kernel_rfl)) ?_
    refine Wl.val rfl rfl rfl (Gives.move rfl rfl) ?_
    refine Wl.val rfl rfl rfl (Gives.move rfl rfl) ?_
    refine Wl.val rfl rfl rfl (Gives.bits .and (by simp) rfl rfl rfl rfl) ?_
    refine Wl.call rfl rfl rfl rfl Try.func19 rfl (by kernel_rfl) rfl (readR_calls _ x pA pn pc aA an ac dA dn dc ⟨hI1, hI2, hI3⟩ (by omega) _ _) ?_
    rintro x9 w9 ⟨T, tn, tk, tl, te, rfl, hZ, hO2, hz⟩
    refine ⟨_, rfl, ?_⟩
    obtain rfl : te = se := hZ.out.2.trans hY.out.2.symm
    have hst : sl = tl := hY.out.1.trans hZ.out.1.symm
    have hT := hO2.nb (ls := [b11]) ⟨hb11.lt, trivial⟩
    replace hb11 := hb11.ext hz
    replace hI1 := hI1.ext hz
    replace hI2 := hI2.ext hz
    replace hI3 := hI3.ext hz
    replace hS := hS.ext hz
    replace hE := hE.trans hz
    refine Wl.val rfl rfl rfl (Gives.move rfl rfl) ?_
    refine Wl.val rfl rfl rfl (Gives.extract rfl rfl rfl) ?_
    refine Wl.val rfl rfl rfl (Gives.extract rfl rfl rfl) ?_
    refine Wl.val rfl rfl rfl (Gives.assign rfl rfl) ?_
    refine Wl.val rfl rfl rfl (Gives.assign rfl rfl) ?_
    refine Wl.nil ?_
    refine Wx.thenN (hK11 _ _ ?_)
    refine Wc.seq (fun K12 hK12 => ?_)
    refine Wc.keep [(3, _), (4, _), (11, _), (12, _), (13, _), (14, _), (15, _), (16, _)] (.cons rfl (.cons rfl (.cons rfl (.cons rfl (.cons rfl (.cons rfl (.cons rfl (.cons rfl (.nil))))))))) ?_
    refine Wc.region ?_
    refine Wl.val rfl rfl rfl (Gives.move rfl rfl) ?_
    refine Wl.val rfl rfl rfl (Gives.move rfl rfl) ?_
    refine Wl.val rfl rfl rfl (Gives.neq rfl rfl rfl) ?_
    refine Wl.val rfl rfl rfl (Gives.move rfl rfl) ?_
    refine Wl.guardT rfl rfl rfl (nd_mkF rfl) ?_
    refine Wl.val rfl rfl rfl (Gives.move rfl rfl) ?_
    refine Wl.val rfl rfl rfl (Gives.move rfl rfl) ?_
    refine Wl.call rfl rfl rfl rfl Try.func20 rfl (by kernel_rfl) rfl (sameB _ S T sn sk tn tk sl tl hst hS hT) ?_
    rintro x9 w9 ⟨rfl, hxs⟩
    refine ⟨_, rfl, ?_⟩
    replace hb11 := hb11.ext hxs.ext
    replace hI1 := hI1.ext hxs.ext
    replace hI2 := hI2.ext hxs.ext
    replace hI3 := hI3.ext hxs.ext
    replace hS := hS.ext hxs.ext
    replace hT := hT.ext hxs.ext
    replace hE := hE.trans hxs.ext
    refine Wl.val rfl rfl rfl (Gives.not rfl rfl) ?_
    refine Wl.val rfl rfl rfl (Gives.pickF rfl rfl rfl rfl) ?_
    refine Wl.nil ?_
    refine Wx.thenN (hK12 _ _ ?_)
    refine Wc.condF rfl rfl ?_
    refine Wc.skip ?_
    refine Wx.blockN ?_
    refine Wx.thenN (hK9 _ _ ?_)
    refine Wc.keep [(3, _), (4, _), (11, _), (12, _)] (.cons rfl (.cons rfl (.cons rfl (.cons rfl (.nil))))) ?_
    refine Wc.region ?_
    refine Wl.val rfl rfl rfl (Gives.move rfl rfl) ?_
    refine Wl.val rfl rfl rfl (Gives.add rfl rfl rfl (by first | exact IntWalk.i64_in _ (by omega) | exact u64_in _ (by omega) | exact u32_in _ (by omega) | exact u8_in _ (by omega) | exact rfl)) ?_
    refine Wl.val rfl rfl rfl (Gives.assign rfl rfl) ?_
    refine Wl.nil ?_
    refine Wx.thenN ?_
    refine hKL1 (k + 3) _ _ (.cons (by first | exact rfl | exact look_int rfl (by omega) | exact look_slice rfl (by omega)) (.cons rfl (.cons rfl (.cons rfl (.nil))))) ⟨by omega, by omega, ⟨hI1, hI2, hI3⟩, hb11, hE⟩ (by omega)
  · (first | replace h28 := of_decide_eq_false h28 | replace h28 := nd_false h28 | skip)
    refine Wc.exit ?_
    refine Wx.thenE ?_
    refine Wx.thenE ?_
    refine Wx.hit ?_
    refine Wx.thenN (hK5 _ _ ?_)
    refine Wc.seq (fun K13 hK13 => ?_)
    refine Wc.keep [(3, _), (4, _), (11, _)] (.cons rfl (.cons rfl (.cons rfl (.nil)))) ?_
    refine Wc.region ?_
    refine Wl.val rfl rfl rfl (Gives.ldW rfl (by kernel_rfl) rfl hb11 (by kernel_rfl)) ?_
    refine Wl.val rfl rfl rfl (Gives.move rfl rfl) ?_
    refine Wl.val rfl rfl rfl (Gives.move rfl rfl) ?_
    refine Wl.call rfl rfl rfl rfl Try.func18 rfl (by kernel_rfl) rfl (readP_calls _ x pA pn pc aA an ac dA dn dc ⟨hI1, hI2, hI3⟩ (by omega) _ _) ?_
    rintro x9 w9 ⟨S, sn, sk, sl, se, rfl, hY, hO, hy⟩
    refine ⟨_, rfl, ?_⟩
    have hS := hO.nb (ls := [b11]) ⟨hb11.lt, trivial⟩
    replace hb11 := hb11.ext hy
    replace hI1 := hI1.ext hy
    replace hI2 := hI2.ext hy
    replace hI3 := hI3.ext hy
    replace hE := hE.trans hy
    refine Wl.val rfl rfl rfl (Gives.move rfl rfl) ?_
    refine Wl.val rfl rfl rfl (Gives.extract rfl rfl rfl) ?_
    refine Wl.val rfl rfl rfl (Gives.extract rfl rfl rfl) ?_
    refine Wl.val rfl rfl rfl (Gives.assign rfl rfl) ?_
    refine Wl.val rfl rfl rfl (Gives.assign rfl rfl) ?_
    refine Wl.nil ?_
    refine Wx.thenN (hK13 _ _ ?_)
    refine Wc.seq (fun K14 hK14 => ?_)
    refine Wc.keep [(3, _), (4, _), (11, _), (17, _), (18, _)] (.cons rfl (.cons rfl (.cons rfl (.cons rfl (.cons rfl (.nil)))))) ?_
    refine Wc.region ?_
    refine Wl.val rfl rfl rfl (Gives.ldW rfl (by kernel_rfl) rfl hb11 (by kernel_rfl)) ?_
    refine Wl.val rfl rfl rfl (Gives.move rfl rfl) ?_
    refine Wl.val rfl rfl rfl (Gives.move rfl rfl) ?_
    refine Wl.call rfl rfl rfl rfl Try.func19 rfl (by kernel_rfl) rfl (readR_calls _ x pA pn pc aA an ac dA dn dc ⟨hI1, hI2, hI3⟩ (by omega) _ _) ?_
    rintro x9 w9 ⟨T, tn, tk, tl, te, rfl, hZ, hO2, hz⟩
    refine ⟨_, rfl, ?_⟩
    obtain rfl : te = se := hZ.out.2.trans hY.out.2.symm
    have hst : sl = tl := hY.out.1.trans hZ.out.1.symm
    have hT := hO2.nb (ls := [b11]) ⟨hb11.lt, trivial⟩
    replace hb11 := hb11.ext hz
    replace hI1 := hI1.ext hz
    replace hI2 := hI2.ext hz
    replace hI3 := hI3.ext hz
    replace hS := hS.ext hz
    replace hE := hE.trans hz
    refine Wl.val rfl rfl rfl (Gives.move rfl rfl) ?_
    refine Wl.val rfl rfl rfl (Gives.extract rfl rfl rfl) ?_
    refine Wl.val rfl rfl rfl (Gives.extract rfl rfl rfl) ?_
    refine Wl.val rfl rfl rfl (Gives.assign rfl rfl) ?_
    refine Wl.val rfl rfl rfl (Gives.assign rfl rfl) ?_
    refine Wl.nil ?_
    refine Wx.thenN (hK14 _ _ ?_)
    refine Wc.seq (fun K15 hK15 => ?_)
    refine Wc.keep [(17, _), (18, _), (19, _), (20, _)] (.cons rfl (.cons rfl (.cons rfl (.cons rfl (.nil))))) ?_
    refine Wc.region ?_
    refine Wl.val rfl rfl rfl (Gives.move rfl rfl) ?_
    refine Wl.val rfl rfl rfl (Gives.move rfl rfl) ?_
    refine Wl.val rfl rfl rfl (Gives.eql rfl rfl rfl) ?_
    refine Wl.val rfl rfl rfl (Gives.move rfl rfl) ?_
    refine Wl.guardT rfl rfl rfl (decide_eq_true rfl) ?_
    refine Wl.val rfl rfl rfl (Gives.move rfl rfl) ?_
    refine Wl.val rfl rfl rfl (Gives.move rfl rfl) ?_
    refine Wl.call rfl rfl rfl rfl Try.func20 rfl (by kernel_rfl) rfl (sameB _ S T sn sk tn tk sl tl hst hS hT) ?_
    rintro x9 w9 ⟨rfl, hxs⟩
    refine ⟨_, rfl, ?_⟩
    replace hb11 := hb11.ext hxs.ext
    replace hI1 := hI1.ext hxs.ext
    replace hI2 := hI2.ext hxs.ext
    replace hI3 := hI3.ext hxs.ext
    replace hS := hS.ext hxs.ext
    replace hT := hT.ext hxs.ext
    replace hE := hE.trans hxs.ext
    refine Wl.val rfl rfl rfl (Gives.pickT rfl rfl rfl rfl) ?_
    refine Wl.val rfl rfl rfl (Gives.assign rfl rfl) ?_
    refine Wl.nil ?_
    refine Wx.thenN (hK15 _ _ ?_)
    refine Wc.ret ?_
    refine Wx.ret [_] ⟨rfl, trivial⟩ ?_
    exact ⟨rfl, hE⟩
end Go.Proofs.Ytdekjkcnfebfnaa
