/- IndexBits: the walk. -/
import Derived.Test.YtdekjkcnfebfnaaIdxA
import Derived.Test.YtdekjkcnfebfnaaIdxG
namespace Go.Proofs.Ytdekjkcnfebfnaa
set_option linter.all false
open Go.RowKit
theorem bits_u8and (a b : UInt8) : bits .and .u8 (a.toNat : Int) (b.toNat : Int) = ((a &&& b).toNat : Int) := by
  have h1 : ∀ x : UInt8, (BitVec.ofInt 8 (x.toNat : Int)).toNat = x.toNat := by
    intro x
    rw [BitVec.toNat_ofInt]
    have := x.toNat_lt
    omega
  show IntKind.u8.wrap ((BitVec.ofInt 8 (a.toNat : Int) &&& BitVec.ofInt 8 (b.toNat : Int)).toNat : Int) = _
  rw [BitVec.toNat_and, h1, h1, wrap8, UInt8.toNat_and]
  have : a.toNat &&& b.toNat ≤ a.toNat := Nat.and_le_left
  have := a.toNat_lt
  omega
theorem bits_u8not (a b : UInt8) : bits .andNot .u8 (a.toNat : Int) (b.toNat : Int) = ((a &&& ~~~ b).toNat : Int) := by
  have h1 : ∀ x : UInt8, BitVec.ofInt 8 (x.toNat : Int) = x.toBitVec := by
    intro x
    apply BitVec.eq_of_toNat_eq
    rw [BitVec.toNat_ofInt]
    have := x.toNat_lt
    simp
    omega
  show IntKind.u8.wrap ((BitVec.ofInt 8 (a.toNat : Int) &&& ~~~ BitVec.ofInt 8 (b.toNat : Int)).toNat : Int) = _
  rw [h1, h1, wrap8]
  have h2 : (a.toBitVec &&& ~~~ b.toBitVec).toNat = (a &&& ~~~ b).toNat := rfl
  rw [h2]
  have := (a &&& ~~~ b).toNat_lt
  omega
theorem or_and (a b : UInt8) : (a ||| b) &&& a = a := by apply UInt8.toBitVec_inj.1; simp; ext i; simp; cases a.toBitVec[i] <;> simp
theorem or_and' (a b : UInt8) : (a ||| b) &&& b = b := by rw [UInt8.or_comm]; exact or_and b a
theorem or_not (a b : UInt8) : (a ||| b) &&& ~~~ (a ||| b) = 0 := by apply UInt8.toBitVec_inj.1; simp
theorem orL_get (a b : List UInt8) (ha : a.length = 8) (hb : b.length = 8) {i : Nat} {x y z : UInt8} (hx : a[i]? = some x) (hy : b[i]? = some y) (hz : (orL a b)[i]? = some z) : z = x ||| y := by
  have hi := (List.getElem?_eq_some_iff.1 hx).1
  unfold orL orK at hz
  rw [List.take_of_length_le (by omega), List.take_of_length_le (by omega), List.drop_of_length_le (by omega), List.append_nil, List.getElem?_zipWith, hx, hy] at hz
  simpa using hz.symm
set_option maxRecDepth 20000 in
set_option maxHeartbeats 2000000 in
theorem indexBits_walk {P1 P2 : Nat → Prop} (w : World) (kind : UInt8) (A : Option Addr) (n c : Nat) (l : List UInt8) (ha : BV w P1 A n c l) (D : Option Addr) (m mc : Nat) (data : List UInt8) (hd : BV w P2 D m mc data) (cut : Bool) :
    Calls Try.prog 7 #[.int .u8 (kind.toNat : Int), .slice A n c, .slice D m mc, .bool cut] w fun e w' => e = .returned (.bool true) ∧ Ext w w' := by
  refine calls_enter Try.func7 rfl Try.ntmps7 rfl ?_
  have hE : Ext w w := Ext.refl w
  refine Wc.seq (fun K1 hK1 => ?_)
  refine Wc.keep [(0, _), (1, _), (2, _), (3, _)] (.cons rfl (.cons rfl (.cons rfl (.cons rfl (.nil))))) ?_
  refine Wc.region ?_
  refine Wl.val rfl rfl rfl (Gives.assign rfl rfl) ?_
  refine Wl.nil ?_
  refine Wx.thenN (hK1 _ _ ?_)
  refine Wc.seq (fun K2 hK2 => ?_)
  refine Wc.seq (fun K3 hK3 => ?_)
  refine Wc.keep [(0, _), (1, _), (2, _), (3, _)] (.cons rfl (.cons rfl (.cons rfl (.cons rfl (.nil))))) ?_
  refine Wc.region ?_
  refine Wl.call rfl rfl rfl rfl Try.func9 rfl (by kernel_rfl) rfl (awake_calls w) ?_
  rintro x0 w1 ⟨rfl, hx0⟩
  refine ⟨_, rfl, ?_⟩
  replace hE := hE.trans hx0
  refine Wl.val rfl rfl rfl (Gives.not rfl rfl) ?_
  refine Wl.nil ?_
  refine Wx.thenN (hK3 _ _ ?_)
  refine Wc.condF rfl rfl ?_
  refine Wc.skip ?_
  refine Wx.thenN (hK2 _ _ ?_)
  refine Wc.seq (fun K4 hK4 => ?_)
  refine Wc.seq (fun K5 hK5 => ?_)
  refine Wc.keep [(0, _), (1, _), (2, _), (3, _)] (.cons rfl (.cons rfl (.cons rfl (.cons rfl (.nil))))) ?_
  refine Wc.region ?_
  refine Wl.val rfl rfl rfl (Gives.move rfl rfl) ?_
  refine Wl.val rfl rfl rfl (Gives.lenS rfl Try.underlying22 rfl) ?_
  refine Wl.val rfl rfl rfl (Gives.gtr rfl rfl rfl) ?_
  refine Wl.nil ?_
  refine Wx.thenN (hK5 _ _ ?_)
  refine Wc.cond _ rfl (fun h19 => ?_) (fun h19 => ?_)
  · (first | replace h19 := of_decide_eq_true h19 | replace h19 := nd_true h19 | skip)
    refine Wc.seq (fun K6 hK6 => ?_)
    refine Wc.keep [] (.nil) ?_
    refine Wc.region ?_
    refine Wl.val rfl rfl rfl (Gives.assign rfl rfl) ?_
    refine Wl.nil ?_
    refine Wx.thenN (hK6 _ _ ?_)
    refine Wc.ret ?_
    refine Wx.thenR ?_
    refine Wx.ret [_] ⟨rfl, trivial⟩ ?_
    exact ⟨rfl, hE⟩
  · (first | replace h19 := of_decide_eq_false h19 | replace h19 := nd_false h19 | skip)
    refine Wc.skip ?_
    refine Wx.thenN (hK4 _ _ ?_)
    refine Wc.seq (fun K7 hK7 => ?_)
    refine Wc.keep [(0, _), (1, _), (2, _), (3, _)] (.cons rfl (.cons rfl (.cons rfl (.cons rfl (.nil))))) ?_
    refine Wc.region ?_
    refine Wl.val rfl rfl rfl (Gives.move rfl rfl) ?_
    refine Wl.val rfl rfl rfl (Gives.move rfl rfl) ?_
    refine Wl.call rfl rfl rfl rfl Try.func15 rfl (by kernel_rfl) rfl (written_calls _ kind A n c l (ha.ext hE) false) ?_
    rintro x1 w2 ⟨x, pA, pn, pc, aA, an, ac, dA, dn, dc, rfl, hG, hI0, hx1⟩
    refine ⟨_, rfl, ?_⟩
    have hdl : x.data.length = dn := hI0.2.2.len
    have hd32 : x.data.length ≤ 32 := hG.1
    replace hE := hE.trans hx1
    have hI1 := (BV.nb0 hI0.1)
    have hI2 := (BV.nb0 hI0.2.1)
    have hI3 := (BV.nb0 hI0.2.2)
    refine Wl.does rfl rfl rfl (Does.alB (.agg #[(.int .i64 0), (.int .i64 0), (.int .i64 0), (.int .i64 0), (.slice none 0 0), (.slice none 0 0), (.bool false), (.slice none 0 0)]) rfl (by kernel_rfl) rfl) ?_
    rintro _ w5_3 ⟨b9, rfl, hs9, hb9, hx5_3⟩
    replace hI1 := hI1.nbCons hs9
    replace hI2 := hI2.nbCons hs9
    replace hI3 := hI3.nbCons hs9
    have hg9 : w.heap.size ≤ b9 := Nat.le_trans hE.size hs9
    replace hI1 := hI1.ext hx5_3
    replace hI2 := hI2.ext hx5_3
    replace hI3 := hI3.ext hx5_3
    replace hE := hE.trans hx5_3
    refine Wl.acts rfl rfl (Does.stL 8 rfl rfl rfl hb9 (by kernel_rfl) rfl rfl rfl) ?_
    rintro _ w5_4 ⟨hbn, hF5_4⟩
    replace hI1 := hI1.fr (hF5_4.mono (fun k h => h.1))
    replace hI2 := hI2.fr (hF5_4.mono (fun k h => h.1))
    replace hI3 := hI3.fr (hF5_4.mono (fun k h => h.1))
    replace hE := Ext.over hE hF5_4 hg9
    replace hb9 := hbn
    clear hbn
    refine Wl.nil ?_
    refine Wx.thenN (hK7 _ _ ?_)
    refine Wc.joinC (ι := Option Addr × Nat × Nat × List UInt8) [(9, _)] (fun | (D, m, mc, _) => [(2, .slice D m mc)]) (fun | (D, m, mc, data), wr => BV wr (NB []) D m mc data ∧ IxV wr (NB [b9]) x pA pn pc aA an ac dA dn dc ∧ Blk wr b9 28 #[.int .i64 x.n, .int .i64 x.kind, .int .i64 x.attr, .int .i64 x.size, .slice pA pn pc, .slice aA an ac, .bool x.wr, .slice dA dn dc] ∧ Ext w wr) ?_ ?_ (.cons rfl (.nil))
    · intro K8 hJ8
      refine Wc.seq (fun K9 hK9 => ?_)
      refine Wc.keep [(2, _), (3, _), (9, _)] (.cons rfl (.cons rfl (.cons rfl (.nil)))) ?_
      refine Wc.region ?_
      refine Wl.val rfl rfl rfl (Gives.move rfl rfl) ?_
      refine Wl.val rfl rfl rfl (Gives.not rfl rfl) ?_
      refine Wl.nil ?_
      refine Wx.thenN (hK9 _ _ ?_)
      refine Wc.cond _ rfl (fun h24 => ?_) (fun h24 => ?_)
      · (first | replace h24 := of_decide_eq_true h24 | replace h24 := nd_true h24 | skip)
        refine Wc.keep [(2, _), (9, _)] (.cons rfl (.cons rfl (.nil))) ?_
        refine Wc.region ?_
        refine Wl.val rfl rfl rfl (Gives.move rfl rfl) ?_
        refine Wl.call rfl rfl rfl rfl Try.func11 rfl (by kernel_rfl) rfl (seed_calls _ D m mc data (hd.ext hE)) ?_
        rintro x8 w8 ⟨gs, rfl, hgs, hMs, hxs⟩
        refine ⟨_, rfl, ?_⟩
        replace hb9 := hb9.ext hxs
        replace hI1 := hI1.ext hxs
        replace hI2 := hI2.ext hxs
        replace hI3 := hI3.ext hxs
        replace hE := hE.trans hxs
        refine Wl.val rfl rfl rfl (Gives.cutHi rfl Try.underlying22 (by kernel_rfl) rfl 8 rfl rfl (by omega)) ?_
        refine Wl.val rfl rfl rfl (Gives.assign rfl rfl) ?_
        refine Wl.nil ?_
        refine Wx.thenN ?_
        refine hJ8 (some ⟨gs, 0, none⟩, 8, 32, (seedS data).take 8) _ _ (.cons (by first | exact rfl | exact look_int rfl (by omega) | exact look_slice rfl (by omega)) (.cons rfl (.nil))) ⟨((hMs.bv (P := NB []) (n := 32) (c := 32) trivial (seedS_len _) (by omega) (by omega)).take (k := 8) (by omega)), ⟨hI1, hI2, hI3⟩, hb9, hE⟩
      · (first | replace h24 := of_decide_eq_false h24 | replace h24 := nd_false h24 | skip)
        refine Wc.skip ?_
        refine Wx.thenN ?_
        refine hJ8 (D, m, mc, data) _ _ (.cons (by first | exact rfl | exact look_int rfl (by omega) | exact look_slice rfl (by omega)) (.cons rfl (.nil))) ⟨(hd.ext hE).nb0, ⟨hI1, hI2, hI3⟩, hb9, hE⟩
    intro ⟨D, m, mc, data⟩ wr hJ
    clear hI1 hI2 hI3 hb9 hE hd h19
    obtain ⟨hd, ⟨hI1, hI2, hI3⟩, hb9, hE⟩ := hJ
    have hd0 := BV.nbBox hd hb9 rfl
    have hml := hd.len
    clear hd
    refine Wc.seq (fun K10 hK10 => ?_)
    refine Wc.keep [(2, _), (9, _)] (.cons rfl (.cons rfl (.nil))) ?_
    refine Wc.region ?_
    refine Wl.val rfl rfl rfl (Gives.ldW rfl (by kernel_rfl) rfl hb9 (by kernel_rfl)) ?_
    refine Wl.val rfl rfl rfl (Gives.move rfl rfl) ?_
    refine Wl.call rfl rfl rfl rfl Try.func21 rfl (by kernel_rfl) rfl (setP_calls _ x pA pn pc aA an ac dA dn dc ⟨hI1, hI2, hI3⟩ (fun h3 => by have := hG.2 h3; omega) D m mc data hd0) ?_
    rintro x9 w9 ⟨y, ye, qA, qn, qc, bA, bn, bc, fA, fn, fc, rfl, hY, hJ, hy⟩
    refine ⟨_, rfl, ?_⟩
    replace hb9 := hb9.ext hy
    replace hI1 := hI1.ext hy
    replace hI2 := hI2.ext hy
    replace hI3 := hI3.ext hy
    replace hd0 := hd0.ext hy
    replace hE := hE.trans hy
    have hJ1 := ((BV.nb0 hJ.1).nbBox hb9 rfl)
    have hJ2 := ((BV.nb0 hJ.2.1).nbBox hb9 rfl)
    have hJ3 := ((BV.nb0 hJ.2.2).nbBox hb9 rfl)
    refine Wl.val rfl rfl rfl (Gives.move rfl rfl) ?_
    refine Wl.val rfl rfl rfl (Gives.extract rfl rfl rfl) ?_
    refine Wl.val rfl rfl rfl (Gives.extract rfl rfl rfl) ?_
    refine Wl.does rfl rfl rfl (Does.alB (.agg #[(.int .i64 0), (.int .i64 0), (.int .i64 0), (.int .i64 0), (.slice none 0 0), (.slice none 0 0), (.bool false), (.slice none 0 0)]) rfl (by kernel_rfl) rfl) ?_
    rintro _ w8_6 ⟨b10, rfl, hs10, hb10, hx8_6⟩
    have hn9_10 : b9 ≠ b10 := hb9.ne hs10
    replace hI1 := hI1.nbCons hs10
    replace hI2 := hI2.nbCons hs10
    replace hI3 := hI3.nbCons hs10
    replace hJ1 := hJ1.nbCons hs10
    replace hJ2 := hJ2.nbCons hs10
    replace hJ3 := hJ3.nbCons hs10
    replace hd0 := hd0.nbCons hs10
    have hg10 : w.heap.size ≤ b10 := Nat.le_trans hE.size hs10
    replace hb9 := hb9.ext hx8_6
    replace hI1 := hI1.ext hx8_6
    replace hI2 := hI2.ext hx8_6
    replace hI3 := hI3.ext hx8_6
    replace hJ1 := hJ1.ext hx8_6
    replace hJ2 := hJ2.ext hx8_6
    replace hJ3 := hJ3.ext hx8_6
    replace hd0 := hd0.ext hx8_6
    replace hE := hE.trans hx8_6
    refine Wl.acts rfl rfl (Does.stL 8 rfl rfl rfl hb10 (by kernel_rfl) rfl rfl rfl) ?_
    rintro _ w8_7 ⟨hbn, hF8_7⟩
    replace hb9 := hb9.fr hF8_7 (by first | assumption | exact Ne.symm (by assumption))
    replace hI1 := hI1.fr (hF8_7.mono (fun k h => h.1))
    replace hI2 := hI2.fr (hF8_7.mono (fun k h => h.1))
    replace hI3 := hI3.fr (hF8_7.mono (fun k h => h.1))
    replace hJ1 := hJ1.fr (hF8_7.mono (fun k h => h.1))
    replace hJ2 := hJ2.fr (hF8_7.mono (fun k h => h.1))
    replace hJ3 := hJ3.fr (hF8_7.mono (fun k h => h.1))
    replace hd0 := hd0.fr (hF8_7.mono (fun k h => h.1))
    replace hE := Ext.over hE hF8_7 hg10
    replace hb10 := hbn
    clear hbn
    refine Wl.val rfl rfl rfl (Gives.assign rfl rfl) ?_
    refine Wl.nil ?_
    refine Wx.thenN (hK10 _ _ ?_)
    refine Wc.seq (fun K11 hK11 => ?_)
    refine Wc.keep [(2, _), (9, _), (10, _), (11, _)] (.cons rfl (.cons rfl (.cons rfl (.cons rfl (.nil))))) ?_
    refine Wc.region ?_
    refine Wl.val rfl rfl rfl (Gives.ldW rfl (by kernel_rfl) rfl hb9 (by kernel_rfl)) ?_
    refine Wl.val rfl rfl rfl (Gives.move rfl rfl) ?_
    refine Wl.call rfl rfl rfl rfl Try.func22 rfl (by kernel_rfl) rfl (setR_calls _ x pA pn pc aA an ac dA dn dc ⟨hI1, hI2, hI3⟩ (fun h3 => by have := hG.2 h3; omega) D m mc data hd0) ?_
    rintro x9 w9 ⟨z, ze, rA, rn, rc, sA, sn, sc, uA, un, uc, rfl, hZ, hL, hz⟩
    refine ⟨_, rfl, ?_⟩
    obtain rfl : ze = ye := hZ.out.2.trans hY.out.2.symm
    have hyz : y = z := hY.out.1.trans hZ.out.1.symm
    replace hb9 := hb9.ext hz
    replace hb10 := hb10.ext hz
    replace hI1 := hI1.ext hz
    replace hI2 := hI2.ext hz
    replace hI3 := hI3.ext hz
    replace hJ1 := hJ1.ext hz
    replace hJ2 := hJ2.ext hz
    replace hJ3 := hJ3.ext hz
    replace hd0 := hd0.ext hz
    replace hE := hE.trans hz
    have hL1 := (((BV.nb0 hL.1).nbBox hb9 rfl).nbBox hb10 rfl)
    have hL2 := (((BV.nb0 hL.2.1).nbBox hb9 rfl).nbBox hb10 rfl)
    have hL3 := (((BV.nb0 hL.2.2).nbBox hb9 rfl).nbBox hb10 rfl)
    refine Wl.val rfl rfl rfl (Gives.move rfl rfl) ?_
    refine Wl.val rfl rfl rfl (Gives.extract rfl rfl rfl) ?_
    refine Wl.val rfl rfl rfl (Gives.extract rfl rfl rfl) ?_
    refine Wl.does rfl rfl rfl (Does.alB (.agg #[(.int .i64 0), (.int .i64 0), (.int .i64 0), (.int .i64 0), (.slice none 0 0), (.slice none 0 0), (.bool false), (.slice none 0 0)]) rfl (by kernel_rfl) rfl) ?_
    rintro _ w9_6 ⟨b12, rfl, hs12, hb12, hx9_6⟩
    have hn9_12 : b9 ≠ b12 := hb9.ne hs12
    have hn10_12 : b10 ≠ b12 := hb10.ne hs12
    replace hI1 := hI1.nbCons hs12
    replace hI2 := hI2.nbCons hs12
    replace hI3 := hI3.nbCons hs12
    replace hJ1 := hJ1.nbCons hs12
    replace hJ2 := hJ2.nbCons hs12
    replace hJ3 := hJ3.nbCons hs12
    replace hL1 := hL1.nbCons hs12
    replace hL2 := hL2.nbCons hs12
    replace hL3 := hL3.nbCons hs12
    replace hd0 := hd0.nbCons hs12
    have hg12 : w.heap.size ≤ b12 := Nat.le_trans hE.size hs12
    replace hb9 := hb9.ext hx9_6
    replace hb10 := hb10.ext hx9_6
    replace hI1 := hI1.ext hx9_6
    replace hI2 := hI2.ext hx9_6
    replace hI3 := hI3.ext hx9_6
    replace hJ1 := hJ1.ext hx9_6
    replace hJ2 := hJ2.ext hx9_6
    replace hJ3 := hJ3.ext hx9_6
    replace hL1 := hL1.ext hx9_6
    replace hL2 := hL2.ext hx9_6
    replace hL3 := hL3.ext hx9_6
    replace hd0 := hd0.ext hx9_6
    replace hE := hE.trans hx9_6
    refine Wl.acts rfl rfl (Does.stL 8 rfl rfl rfl hb12 (by kernel_rfl) rfl rfl rfl) ?_
    rintro _ w9_7 ⟨hbn, hF9_7⟩
    replace hb9 := hb9.fr hF9_7 (by first | assumption | exact Ne.symm (by assumption))
    replace hb10 := hb10.fr hF9_7 (by first | assumption | exact Ne.symm (by assumption))
    replace hI1 := hI1.fr (hF9_7.mono (fun k h => h.1))
    replace hI2 := hI2.fr (hF9_7.mono (fun k h => h.1))
    replace hI3 := hI3.fr (hF9_7.mono (fun k h => h.1))
    replace hJ1 := hJ1.fr (hF9_7.mono (fun k h => h.1))
    replace hJ2 := hJ2.fr (hF9_7.mono (fun k h => h.1))
    replace hJ3 := hJ3.fr (hF9_7.mono (fun k h => h.1))
    replace hL1 := hL1.fr (hF9_7.mono (fun k h => h.1))
    replace hL2 := hL2.fr (hF9_7.mono (fun k h => h.1))
    replace hL3 := hL3.fr (hF9_7.mono (fun k h => h.1))
    replace hd0 := hd0.fr (hF9_7.mono (fun k h => h.1))
    replace hE := Ext.over hE hF9_7 hg12
    replace hb12 := hbn
    clear hbn
    refine Wl.val rfl rfl rfl (Gives.assign rfl rfl) ?_
    refine Wl.nil ?_
    refine Wx.thenN (hK11 _ _ ?_)
    refine Wc.seq (fun K12 hK12 => ?_)
    refine Wc.seq (fun K13 hK13 => ?_)
    refine Wc.keep [(2, _), (9, _), (10, _), (11, _), (12, _), (13, _)] (.cons rfl (.cons rfl (.cons rfl (.cons rfl (.cons rfl (.cons rfl (.nil))))))) ?_
    refine Wc.region ?_
    refine Wl.val rfl rfl rfl (Gives.move rfl rfl) ?_
    refine Wl.val rfl rfl rfl (Gives.move rfl rfl) ?_
    refine Wl.val rfl rfl rfl (Gives.neq rfl rfl rfl) ?_
    refine Wl.val rfl rfl rfl (Gives.move rfl rfl) ?_
    refine Wl.guardT rfl rfl rfl (nd_mkF rfl) ?_
    refine Wl.val rfl rfl rfl (Gives.ldW rfl (by kernel_rfl) rfl hb10 (by kernel_rfl)) ?_
    refine Wl.val rfl rfl rfl (Gives.ldW rfl (by kernel_rfl) rfl hb12 (by kernel_rfl)) ?_
    refine Wl.call rfl rfl rfl rfl Try.func14 rfl (by kernel_rfl) rfl (sameI_eq _ y z hyz qA qn qc bA bn bc fA fn fc ⟨hJ1, hJ2, hJ3⟩ rA rn rc sA sn sc uA un uc ⟨hL1, hL2, hL3⟩) ?_
    rintro x9 w9 ⟨rfl, hxs⟩
    refine ⟨_, rfl, ?_⟩
    replace hb9 := hb9.ext hxs
    replace hb10 := hb10.ext hxs
    replace hb12 := hb12.ext hxs
    replace hI1 := hI1.ext hxs
    replace hI2 := hI2.ext hxs
    replace hI3 := hI3.ext hxs
    replace hJ1 := hJ1.ext hxs
    replace hJ2 := hJ2.ext hxs
    replace hJ3 := hJ3.ext hxs
    replace hL1 := hL1.ext hxs
    replace hL2 := hL2.ext hxs
    replace hL3 := hL3.ext hxs
    replace hd0 := hd0.ext hxs
    replace hE := hE.trans hxs
    refine Wl.val rfl rfl rfl (Gives.not rfl rfl) ?_
    refine Wl.val rfl rfl rfl (Gives.pickF rfl rfl rfl rfl) ?_
    refine Wl.nil ?_
    refine Wx.thenN (hK13 _ _ ?_)
    refine Wc.condF rfl rfl ?_
    refine Wc.skip ?_
    refine Wx.thenN (hK12 _ _ ?_)
    refine Wc.seq (fun K14 hK14 => ?_)
    refine Wc.seq (fun K15 hK15 => ?_)
    refine Wc.keep [(2, _), (9, _), (10, _), (11, _)] (.cons rfl (.cons rfl (.cons rfl (.cons rfl (.nil))))) ?_
    refine Wc.region ?_
    refine Wl.val rfl rfl rfl (Gives.assign rfl rfl) ?_
    refine Wl.nil ?_
    refine Wx.thenN (hK15 _ _ ?_)
    refine Wc.block ?_
    refine Wc.keep [(2, _), (9, _), (10, _), (11, _), (14, _)] (.cons rfl (.cons rfl (.cons rfl (.cons rfl (.cons rfl (.nil)))))) ?_
    refine Wc.loopC (ι := Nat) [(2, _), (9, _), (10, _), (11, _)] (fun i => [(14, .int .i64 (i : Int))]) (fun i wr => i ≤ 8 ∧ BV wr (NB []) fA fn fc y.data ∧ BV wr (NB []) dA dn dc x.data ∧ BV wr (NB []) D m mc data ∧ Blk wr b9 28 #[.int .i64 x.n, .int .i64 x.kind, .int .i64 x.attr, .int .i64 x.size, .slice pA pn pc, .slice aA an ac, .bool x.wr, .slice dA dn dc] ∧ Blk wr b10 28 #[.int .i64 y.n, .int .i64 y.kind, .int .i64 y.attr, .int .i64 y.size, .slice qA qn qc, .slice bA bn bc, .bool y.wr, .slice fA fn fc] ∧ Ext w wr) (fun i => 8 - i) (0) (.cons (by first | exact rfl | exact look_int rfl (by omega) | exact look_slice rfl (by omega)) (.cons rfl (.cons rfl (.cons rfl (.cons rfl (.nil)))))) (⟨by omega, hJ3.nb0, hI3.nb0, hd0.nb0, hb9, hb10, hE⟩) ?_
    intro i wr2 hJ KL1 hKL1
    clear hI1 hI2 hI3 hJ1 hJ2 hJ3 hL1 hL2 hL3 hd0 hb9 hb10 hE
    obtain ⟨hi, hJ3, hI3, hd0, hb9, hb10, hE⟩ := hJ
    refine Wc.seq (fun K16 hK16 => ?_)
    refine Wc.seq (fun K17 hK17 => ?_)
    refine Wc.keep [(2, _), (9, _), (10, _), (11, _), (14, _)] (.cons rfl (.cons rfl (.cons rfl (.cons rfl (.cons rfl (.nil)))))) ?_
    refine Wc.region ?_
    refine Wl.val rfl rfl rfl (Gives.move rfl rfl) ?_
    refine Wl.val rfl rfl rfl (Gives.eql rfl rfl rfl) ?_
    refine Wl.val rfl rfl rfl (Gives.move rfl rfl) ?_
    refine Wl.guard rfl rfl rfl (fun h51 => ?_) (fun h51 => ?_)
    · (first | replace h51 := of_decide_eq_true h51 | replace h51 := nd_true h51 | skip)
      refine Wl.val rfl rfl rfl (Gives.move rfl rfl) ?_
      refine Wl.val rfl rfl rfl (Gives.lss rfl rfl rfl) ?_
      refine Wl.val rfl rfl rfl (Gives.pickT rfl rfl rfl rfl) ?_
      refine Wl.nil ?_
      refine Wx.thenN (hK17 _ _ ?_)
      refine Wc.cond _ rfl (fun h54 => ?_) (fun h54 => ?_)
      · (first | replace h54 := of_decide_eq_true h54 | replace h54 := nd_true h54 | skip)
        refine Wc.skip ?_
        refine Wx.thenN (hK16 _ _ ?_)
        refine Wc.seq (fun K18 hK18 => ?_)
        refine Wc.block ?_
        refine Wc.seq (fun K19 hK19 => ?_)
        refine Wc.keep [(2, _), (9, _), (10, _), (11, _), (14, _)] (.cons rfl (.cons rfl (.cons rfl (.cons rfl (.cons rfl (.nil)))))) ?_
        refine Wc.regionD (fun _ => true) Eq (.read 0 (.read 1 (.read 2 (.read 3 (.read 4 (.read 5 (.read 6 (.read 7 (.read 8 (.read 9 (.read 10 (.read 11 (.read 12 (.read 13 (.read 14 (.read 15 (.read 16 (.read 17 (.read 18 (.read 19 (.read 20 (.read 21 (.read 22 (.read 23 (.read 24 (.read 25 (.read 26 (.read 27 (.read 28 (.read 29 (.read 30 (.read 31 (.read 32 (.read 33 (.read 34 (.read 35 (.read 36 (.read 37 (.read 38 (.read 39 (.read 40 (.read 41 (.read 42 (.read 43 (.read 44 (.read 45 (.read 46 (.read 47 (.read 48 (.read 49 .tail)))))))))))))))))))))))))))))))))))))))))))))))))) 50 (by kernel_rfl) (by kernel_rfl) (by kernel_rfl) (fun _ => rfl) (fun _ _ _ h k => h.trans k) Quiet ⟨1, rfl⟩ ?_
        intro w15 hR15
        replace hb9 := hb9.ext hR15.ext
        replace hb10 := hb10.ext hR15.ext
        replace hI3 := hI3.ext hR15.ext
        replace hJ3 := hJ3.ext hR15.ext
        replace hd0 := hd0.ext hR15.ext
        replace hE := hE.trans hR15.ext
        have hk : x.kind = 3 ∧ m = 8 := by
          have h0 := hY.out.2
          rw [h51] at h0
          unfold setE' at h0
          by_cases h3 : x.kind = 3
          · rw [if_neg (not_not_intro h3)] at h0
            by_cases h8 : m = 8
            · exact ⟨h3, h8⟩
            · rw [if_pos h8] at h0; omega
          · rw [if_pos h3] at h0; omega
        have hx8 : x.data.length = 8 := hG.2 hk.1
        have hyo : y.data = orL x.data data := by
          rw [hY.out.1]
          exact (congrArg Ix.data (set_0 hml (by rw [← hY.out.2]; exact h51))).symm
        have hfn : fn = 8 := by rw [← hJ3.len, hyo]; exact orL_len _ _ hx8 (by omega)
        obtain ⟨fb, fo, u, rfl, hu, _, hcu⟩ := hJ3.get (show i < fn by omega)
        obtain ⟨xb, xo, v, rfl, hv, _, hcv⟩ := hI3.get (show i < dn by omega)
        obtain ⟨tb, to_, t, rfl, ht, _, hct⟩ := hd0.get (show i < m by omega)
        have huv : u = v ||| t := orL_get x.data data hx8 (by omega) hv ht (by rw [← hyo]; exact hu)
        subst huv
        refine RunE.readE rfl rfl rfl rfl (Gives.fieldAt 7 rfl Try.underlying28 rfl (by kernel_rfl) rfl rfl) ?_
        refine RunE.readE rfl rfl rfl rfl (Gives.ldK rfl (by kernel_rfl) rfl hb10 rfl) ?_
        refine RunE.readE rfl rfl rfl rfl (Gives.move rfl rfl) ?_
        refine RunE.readE rfl rfl rfl rfl (Gives.ixS (i := _) rfl Try.underlying22 (by kernel_rfl) rfl rfl rfl (by omega)) ?_
        refine RunE.readE rfl rfl rfl rfl (Gives.ldC rfl (by kernel_rfl) rfl hcu) ?_
        refine RunE.readE rfl rfl rfl rfl (Gives.fieldAt 7 rfl Try.underlying28 rfl (by kernel_rfl) rfl rfl) ?_
        refine RunE.readE rfl rfl rfl rfl (Gives.ldK rfl (by kernel_rfl) rfl hb9 rfl) ?_
        refine RunE.readE rfl rfl rfl rfl (Gives.move rfl rfl) ?_
        refine RunE.readE rfl rfl rfl rfl (Gives.ixS (i := _) rfl Try.underlying22 (by kernel_rfl) rfl rfl rfl (by omega)) ?_
        refine RunE.readE rfl rfl rfl rfl (Gives.ldC rfl (by kernel_rfl) rfl hcv) ?_
        refine RunE.readE rfl rfl rfl rfl (Gives.bits .and (by simp) rfl rfl rfl (bits_u8and _ _)) ?_
        refine RunE.readE rfl rfl rfl rfl (Gives.fieldAt 7 rfl Try.underlying28 rfl (by kernel_rfl) rfl rfl) ?_
        refine RunE.readE rfl rfl rfl rfl (Gives.ldK rfl (by kernel_rfl) rfl hb9 rfl) ?_
        refine RunE.readE rfl rfl rfl rfl (Gives.move rfl rfl) ?_
        refine RunE.readE rfl rfl rfl rfl (Gives.ixS (i := _) rfl Try.underlying22 (by kernel_rfl) rfl rfl rfl (by omega)) ?_
        refine RunE.readE rfl rfl rfl rfl (Gives.ldC rfl (by kernel_rfl) rfl hcv) ?_
        refine RunE.readE rfl rfl rfl rfl (Gives.neq rfl rfl rfl) ?_
        refine RunE.readE rfl rfl rfl rfl (Gives.move rfl rfl) ?_
        refine RunE.fix (t := 74) false rfl (nd_mkF (by rw [or_and])) ?_
        refine RunE.readE rfl rfl rfl rfl (Gives.fieldAt 7 rfl Try.underlying28 rfl (by kernel_rfl) rfl rfl) ?_
        refine RunE.readE rfl rfl rfl rfl (Gives.ldK rfl (by kernel_rfl) rfl hb10 rfl) ?_
        refine RunE.readE rfl rfl rfl rfl (Gives.move rfl rfl) ?_
        refine RunE.readE rfl rfl rfl rfl (Gives.ixS (i := _) rfl Try.underlying22 (by kernel_rfl) rfl rfl rfl (by omega)) ?_
        refine RunE.readE rfl rfl rfl rfl (Gives.ldC rfl (by kernel_rfl) rfl hcu) ?_
        refine RunE.readE rfl rfl rfl rfl (Gives.move rfl rfl) ?_
        refine RunE.readE rfl rfl rfl rfl (Gives.move rfl rfl) ?_
        refine RunE.readE rfl rfl rfl rfl (Gives.ixS (i := _) rfl Try.underlying22 (by kernel_rfl) rfl rfl rfl (by omega)) ?_
        refine RunE.readE rfl rfl rfl rfl (Gives.ldC rfl (by kernel_rfl) rfl hct) ?_
        refine RunE.readE rfl rfl rfl rfl (Gives.bits .and (by simp) rfl rfl rfl (bits_u8and _ _)) ?_
        refine RunE.readE rfl rfl rfl rfl (Gives.move rfl rfl) ?_
        refine RunE.readE rfl rfl rfl rfl (Gives.move rfl rfl) ?_
        refine RunE.readE rfl rfl rfl rfl (Gives.ixS (i := _) rfl Try.underlying22 (by kernel_rfl) rfl rfl rfl (by omega)) ?_
        refine RunE.readE rfl rfl rfl rfl (Gives.ldC rfl (by kernel_rfl) rfl hct) ?_
        refine RunE.readE rfl rfl rfl rfl (Gives.neq rfl rfl rfl) ?_
        refine RunE.readE rfl rfl rfl rfl (Gives.pickF rfl rfl rfl rfl) ?_
        refine RunE.readE rfl rfl rfl rfl (Gives.move rfl rfl) ?_
        refine RunE.fix (t := 91) false rfl (nd_mkF (by rw [or_and'])) ?_
        refine RunE.readE rfl rfl rfl rfl (Gives.fieldAt 7 rfl Try.underlying28 rfl (by kernel_rfl) rfl rfl) ?_
        refine RunE.readE rfl rfl rfl rfl (Gives.ldK rfl (by kernel_rfl) rfl hb10 rfl) ?_
        refine RunE.readE rfl rfl rfl rfl (Gives.move rfl rfl) ?_
        refine RunE.readE rfl rfl rfl rfl (Gives.ixS (i := _) rfl Try.underlying22 (by kernel_rfl) rfl rfl rfl (by omega)) ?_
        refine RunE.readE rfl rfl rfl rfl (Gives.ldC rfl (by kernel_rfl) rfl hcu) ?_
        refine RunE.readE rfl rfl rfl rfl (Gives.fieldAt 7 rfl Try.underlying28 rfl (by kernel_rfl) rfl rfl) ?_
        refine RunE.readE rfl rfl rfl rfl (Gives.ldK rfl (by kernel_rfl) rfl hb9 rfl) ?_
        refine RunE.readE rfl rfl rfl rfl (Gives.move rfl rfl) ?_
        refine RunE.readE rfl rfl rfl rfl (Gives.ixS (i := _) rfl Try.underlying22 (by kernel_rfl) rfl rfl rfl (by omega)) ?_
        refine RunE.readE rfl rfl rfl rfl (Gives.ldC rfl (by kernel_rfl) rfl hcv) ?_
        refine RunE.readE rfl rfl rfl rfl (Gives.move rfl rfl) ?_
        refine RunE.readE rfl rfl rfl rfl (Gives.move rfl rfl) ?_
        refine RunE.readE rfl rfl rfl rfl (Gives.ixS (i := _) rfl Try.underlying22 (by kernel_rfl) rfl rfl rfl (by omega)) ?_
        refine RunE.readE rfl rfl rfl rfl (Gives.ldC rfl (by kernel_rfl) rfl hct) ?_
        refine RunE.readE rfl rfl rfl rfl (Gives.bits .or (by simp) rfl rfl rfl (bits_u8 _ _)) ?_
        refine RunE.tail rfl ?_
        refine Wl.val rfl rfl rfl (Gives.bits .andNot (by simp) rfl rfl rfl (bits_u8not _ _)) ?_
        refine Wl.val rfl rfl rfl (Gives.neq rfl rfl rfl) ?_
        refine Wl.val rfl rfl rfl (Gives.pickF rfl rfl rfl rfl) ?_
        refine Wl.nil ?_
        refine Wx.thenN (hK19 _ _ ?_)
        refine Wc.condF rfl (nd_mkF (by rw [or_not]; rfl)) ?_
        refine Wc.skip ?_
        refine Wx.blockN ?_
        refine Wx.thenN (hK18 _ _ ?_)
        refine Wc.keep [(2, _), (9, _), (10, _), (11, _), (14, _)] (.cons rfl (.cons rfl (.cons rfl (.cons rfl (.cons rfl (.nil)))))) ?_
        refine Wc.region ?_
        refine Wl.val rfl rfl rfl (Gives.move rfl rfl) ?_
        refine Wl.val rfl rfl rfl (Gives.add rfl rfl rfl (by first | exact IntWalk.i64_in _ (by omega) | exact u64_in _ (by omega) | exact u32_in _ (by omega) | exact u8_in _ (by omega) | exact rfl)) ?_
        refine Wl.val rfl rfl rfl (Gives.assign rfl rfl) ?_
        refine Wl.nil ?_
        refine Wx.thenN ?_
        refine hKL1 (i + 1) _ _ (.cons (by first | exact rfl | exact look_int rfl (by omega) | exact look_slice rfl (by omega)) (.cons rfl (.cons rfl (.cons rfl (.cons rfl (.nil)))))) ⟨by omega, hJ3, hI3, hd0, hb9, hb10, hE⟩ (by omega)
      · (first | replace h54 := of_decide_eq_false h54 | replace h54 := nd_false h54 | skip)
        refine Wc.exit ?_
        refine Wx.thenE ?_
        refine Wx.thenE ?_
        refine Wx.hit ?_
        refine Wx.thenN (hK14 _ _ ?_)
        refine Wc.seq (fun K20 hK20 => ?_)
        refine Wc.keep [] (.nil) ?_
        refine Wc.region ?_
        refine Wl.val rfl rfl rfl (Gives.assign rfl rfl) ?_
        refine Wl.nil ?_
        refine Wx.thenN (hK20 _ _ ?_)
        refine Wc.ret ?_
        refine Wx.ret [_] ⟨rfl, trivial⟩ ?_
        exact ⟨rfl, hE⟩
    · (first | replace h51 := of_decide_eq_false h51 | replace h51 := nd_false h51 | skip)
      refine Wl.pass rfl rfl rfl ?_
      refine Wl.pass rfl rfl rfl ?_
      refine Wl.val rfl rfl rfl (Gives.pickF rfl rfl rfl rfl) ?_
      refine Wl.nil ?_
      refine Wx.thenN (hK17 _ _ ?_)
      refine Wc.condF rfl rfl ?_
      refine Wc.exit ?_
      refine Wx.thenE ?_
      refine Wx.thenE ?_
      refine Wx.hit ?_
      refine Wx.thenN (hK14 _ _ ?_)
      refine Wc.seq (fun K21 hK21 => ?_)
      refine Wc.keep [] (.nil) ?_
      refine Wc.region ?_
      refine Wl.val rfl rfl rfl (Gives.assign rfl rfl) ?_
      refine Wl.nil ?_
      refine Wx.thenN (hK21 _ _ ?_)
      refine Wc.ret ?_
      refine Wx.ret [_] ⟨rfl, trivial⟩ ?_
      exact ⟨rfl, hE⟩
end Go.Proofs.Ytdekjkcnfebfnaa
