/- IndexIncrement: the walk. -/
import Derived.Test.YtdekjkcnfebfnaaIdxA
import Derived.Test.YtdekjkcnfebfnaaIdxG
import Derived.Test.YtdekjkcnfebfnaaWireV
namespace Go.Proofs.Ytdekjkcnfebfnaa
set_option linter.all false
open Go.RowKit
theorem num_uint (v : Int) (h0 : 0 ≤ v) (h1 : v ≤ 9223372036854775807) : numS (uintS [] 8 v) = v := by
  obtain ⟨n, rfl⟩ := Int.eq_ofNat_of_zero_le h0
  unfold numS uintS
  rw [if_pos (by omega)]
  have h := rd_be [] [] 8 (by omega) (by omega) n (by have : (256 : Nat) ^ 8 = 18446744073709551616 := by decide
                                                      omega) (by omega)
  simp only [List.nil_append, List.append_nil, List.length_nil] at h
  show (rdUint ⟨[] ++ beS _ (8 : Int).toNat, 0, 0⟩ 8).2 = _
  rw [List.nil_append]
  exact congrArg (·.2) h
theorem inc_facts (x : Ix) (m : Int) (hm : 0 ≤ m) (h : incE' x m = 0) : m ≤ incV' x m ∧ numS (incI' x m).data ≤ incV' x m ∧ (x.wr = true → numS (incI' x m).data = numS x.data + 1) ∧ (x.wr = false → numS (incI' x m).data = m + 1) ∧ 0 ≤ incN x m := by
  have hk : ¬ 1099511627776 ≤ incN x m := by
    intro hk
    unfold incE' at h
    by_cases h2 : x.kind ≠ 2
    · rw [if_pos h2] at h; omega
    · rw [if_neg h2, if_pos hk] at h; omega
  have hn : 0 ≤ incN x m := by unfold incN; split; exact (numS_lo _).1; exact hm
  have hd := num_uint (incN x m + 1) (by omega) (by omega)
  have e1 : (incI' x m).data = uintS [] 8 (incN x m + 1) := by rw [← (inc_ok h).1]
  have e2 := (inc_ok h).2
  rw [e1, hd, ← e2]
  unfold iMax
  refine ⟨by omega, by omega, fun hw => ?_, fun hw => ?_, hn⟩ <;> (unfold incN; rw [hw]; simp)
set_option maxRecDepth 20000 in
set_option maxHeartbeats 2000000 in
theorem indexIncrement_walk {P1 : Nat → Prop} (w : World) (kind : UInt8) (A : Option Addr) (n c : Nat) (l : List UInt8) (ha : BV w P1 A n c l) (most : Int) (high : Bool) :
    Calls Try.prog 8 #[.int .u8 (kind.toNat : Int), .slice A n c, .int .i64 most, .bool high] w fun e w' => e = .returned (.bool true) ∧ Ext w w' := by
  refine calls_enter Try.func8 rfl Try.ntmps8 rfl ?_
  have hE : Ext w w := Ext.refl w
  refine Wc.seq (fun K1 hK1 => ?_)
  refine Wc.keep [(0, _), (1, _), (2, _), (3, _)] (.cons rfl (.cons rfl (.cons rfl (.cons rfl (.nil))))) ?_
  refine Wc.region ?_
  refine Wl.val rfl rfl rfl (Gives.assign rfl rfl) ?_
  refine Wl.nil ?_
  refine Wx.thenN (hK1 _ _ ?_)
  refine Wc.seq (fun K2 hK2 => ?_)
  refine Wc.seq (fun K3 hK3 => ?_)
  refine Wc.keep [(0, _), (1, _), (2, _), (3, _)] (.cons rfl (.cons rfl (.cons rfl (.cons rfl (.nil))))) ?_
  refine Wc.region ?_
  refine Wl.call rfl rfl rfl rfl Try.func9 rfl (by kernel_rfl) rfl (awake_calls w) ?_
  rintro x0 w1 ⟨rfl, hx0⟩
  refine ⟨_, rfl, ?_⟩
  replace hE := hE.trans hx0
  refine Wl.val rfl rfl rfl (Gives.not rfl rfl) ?_
  refine Wl.nil ?_
  refine Wx.thenN (hK3 _ _ ?_)
  refine Wc.condF rfl rfl ?_
  refine Wc.skip ?_
  refine Wx.thenN (hK2 _ _ ?_)
  refine Wc.seq (fun K4 hK4 => ?_)
  refine Wc.keep [(0, _), (1, _), (2, _), (3, _)] (.cons rfl (.cons rfl (.cons rfl (.cons rfl (.nil))))) ?_
  refine Wc.region ?_
  refine Wl.val rfl rfl rfl (Gives.move rfl rfl) ?_
  refine Wl.val rfl rfl rfl (Gives.move rfl rfl) ?_
  refine Wl.call rfl rfl rfl rfl Try.func15 rfl (by kernel_rfl) rfl (written_calls _ kind A n c l (ha.ext hE) true) ?_
  rintro x1 w2 ⟨x, pA, pn, pc, aA, an, ac, dA, dn, dc, rfl, hG, hI0, hx1⟩
  refine ⟨_, rfl, ?_⟩
  have hdl : x.data.length = dn := hI0.2.2.len
  have hd32 : x.data.length ≤ 32 := hG.1
  replace hE := hE.trans hx1
  have hI1 := (BV.nb0 hI0.1)
  have hI2 := (BV.nb0 hI0.2.1)
  have hI3 := (BV.nb0 hI0.2.2)
  refine Wl.does rfl rfl rfl (Does.alB (.agg #[(.int .i64 0), (.int .i64 0), (.int .i64 0), (.int .i64 0), (.slice none 0 0), (.slice none 0 0), (.bool false), (.slice none 0 0)]) rfl (by kernel_rfl) rfl) ?_
  rintro _ w3_3 ⟨b9, rfl, hs9, hb9, hx3_3⟩
  replace hI1 := hI1.nbCons hs9
  replace hI2 := hI2.nbCons hs9
  replace hI3 := hI3.nbCons hs9
  have hg9 : w.heap.size ≤ b9 := Nat.le_trans hE.size hs9
  replace hI1 := hI1.ext hx3_3
  replace hI2 := hI2.ext hx3_3
  replace hI3 := hI3.ext hx3_3
  replace hE := hE.trans hx3_3
  refine Wl.acts rfl rfl (Does.stL 8 rfl rfl rfl hb9 (by kernel_rfl) rfl rfl rfl) ?_
  rintro _ w3_4 ⟨hbn, hF3_4⟩
  replace hI1 := hI1.fr (hF3_4.mono (fun k h => h.1))
  replace hI2 := hI2.fr (hF3_4.mono (fun k h => h.1))
  replace hI3 := hI3.fr (hF3_4.mono (fun k h => h.1))
  replace hE := Ext.over hE hF3_4 hg9
  replace hb9 := hbn
  clear hbn
  refine Wl.nil ?_
  refine Wx.thenN (hK4 _ _ ?_)
  refine Wc.seq (fun K5 hK5 => ?_)
  refine Wc.keep [(2, _), (3, _), (9, _)] (.cons rfl (.cons rfl (.cons rfl (.nil)))) ?_
  refine Wc.region ?_
  refine Wl.val rfl rfl rfl (Gives.move rfl rfl) ?_
  refine Wl.val rfl rfl rfl (Gives.call rfl Try.func10 rfl (by kernel_rfl) rfl (mod_calls _ _ _ (by omega) (by omega))) ?_
  refine Wl.val rfl rfl rfl (Gives.assign rfl rfl) ?_
  refine Wl.nil ?_
  refine Wx.thenN (hK5 _ _ ?_)
  refine Wc.joinC (ι := Int) [(9, _)] (fun v => [(10, .int .i64 v)]) (fun v wr => (0 ≤ v ∧ v ≤ 1099511627776) ∧ IxV wr (NB [b9]) x pA pn pc aA an ac dA dn dc ∧ Blk wr b9 28 #[.int .i64 x.n, .int .i64 x.kind, .int .i64 x.attr, .int .i64 x.size, .slice pA pn pc, .slice aA an ac, .bool x.wr, .slice dA dn dc] ∧ Ext w wr) ?_ ?_ (.cons rfl (.nil))
  · intro K6 hJ6
    refine Wc.seq (fun K7 hK7 => ?_)
    refine Wc.keep [(2, _), (3, _), (9, _), (10, _)] (.cons rfl (.cons rfl (.cons rfl (.cons rfl (.nil))))) ?_
    refine Wc.region ?_
    refine Wl.val rfl rfl rfl (Gives.move rfl rfl) ?_
    refine Wl.nil ?_
    refine Wx.thenN (hK7 _ _ ?_)
    refine Wc.cond _ rfl (fun h24 => ?_) (fun h24 => ?_)
    · (first | replace h24 := of_decide_eq_true h24 | replace h24 := nd_true h24 | skip)
      refine Wc.keep [(2, _), (9, _)] (.cons rfl (.cons rfl (.nil))) ?_
      refine Wc.region ?_
      refine Wl.val rfl rfl rfl (Gives.move rfl rfl) ?_
      refine Wl.val rfl rfl rfl (Gives.call rfl Try.func10 rfl (by kernel_rfl) rfl (mod_calls _ _ _ (by omega) (by omega))) ?_
      refine Wl.val rfl rfl rfl (Gives.sub rfl rfl rfl (by first | exact IntWalk.i64_in _ (by omega) | exact u64_in _ (by omega) | exact u32_in _ (by omega) | exact u8_in _ (by omega) | exact rfl)) ?_
      refine Wl.val rfl rfl rfl (Gives.assign rfl rfl) ?_
      refine Wl.nil ?_
      refine Wx.thenN ?_
      refine hJ6 _ _ _ (.cons (by first | exact rfl | exact look_int rfl (by omega) | exact look_slice rfl (by omega)) (.cons rfl (.nil))) ⟨by omega, ⟨hI1, hI2, hI3⟩, hb9, hE⟩
    · (first | replace h24 := of_decide_eq_false h24 | replace h24 := nd_false h24 | skip)
      refine Wc.skip ?_
      refine Wx.thenN ?_
      refine hJ6 _ _ _ (.cons (by first | exact rfl | exact look_int rfl (by omega) | exact look_slice rfl (by omega)) (.cons rfl (.nil))) ⟨by omega, ⟨hI1, hI2, hI3⟩, hb9, hE⟩
  intro v wr hJ
  clear hI1 hI2 hI3 hb9 hE
  obtain ⟨hv, ⟨hI1, hI2, hI3⟩, hb9, hE⟩ := hJ
  obtain ⟨m, hmm⟩ : ∃ m, m = iMax v 600 := ⟨_, rfl⟩
  have hmx : 600 ≤ m ∧ m ≤ 1099511627776 := by rw [hmm]; unfold iMax; omega
  refine Wc.seq (fun K8 hK8 => ?_)
  refine Wc.keep [(9, _), (10, _)] (.cons rfl (.cons rfl (.nil))) ?_
  refine Wc.region ?_
  refine Wl.val rfl rfl rfl (Gives.move rfl rfl) ?_
  refine Wl.val rfl rfl rfl (Gives.max rfl rfl rfl hmm.symm) ?_
  refine Wl.val rfl rfl rfl (Gives.assign rfl rfl) ?_
  refine Wl.nil ?_
  refine Wx.thenN (hK8 _ _ ?_)
  refine Wc.seq (fun K9 hK9 => ?_)
  refine Wc.keep [(9, _), (10, _)] (.cons rfl (.cons rfl (.nil))) ?_
  refine Wc.region ?_
  refine Wl.val rfl rfl rfl (Gives.ldW rfl (by kernel_rfl) rfl hb9 (by kernel_rfl)) ?_
  refine Wl.val rfl rfl rfl (Gives.move rfl rfl) ?_
  refine Wl.call rfl rfl rfl rfl Try.func23 rfl (by kernel_rfl) rfl (incP_calls _ x pA pn pc aA an ac dA dn dc ⟨hI1, hI2, hI3⟩ (by omega) m (by omega)) ?_
  rintro x9 w9 ⟨y, yv, ye, qA, qn, qc, bA, bn, bc, fA, fn, fc, rfl, hY, hJ, hy⟩
  refine ⟨_, rfl, ?_⟩
  replace hb9 := hb9.ext hy
  replace hI1 := hI1.ext hy
  replace hI2 := hI2.ext hy
  replace hI3 := hI3.ext hy
  replace hE := hE.trans hy
  have hJ1 := ((BV.nb0 hJ.1).nbBox hb9 rfl)
  have hJ2 := ((BV.nb0 hJ.2.1).nbBox hb9 rfl)
  have hJ3 := ((BV.nb0 hJ.2.2).nbBox hb9 rfl)
  refine Wl.val rfl rfl rfl (Gives.move rfl rfl) ?_
  refine Wl.val rfl rfl rfl (Gives.extract rfl rfl rfl) ?_
  refine Wl.val rfl rfl rfl (Gives.extract rfl rfl rfl) ?_
  refine Wl.val rfl rfl rfl (Gives.extract rfl rfl rfl) ?_
  refine Wl.does rfl rfl rfl (Does.alB (.agg #[(.int .i64 0), (.int .i64 0), (.int .i64 0), (.int .i64 0), (.slice none 0 0), (.slice none 0 0), (.bool false), (.slice none 0 0)]) rfl (by kernel_rfl) rfl) ?_
  rintro _ w8_7 ⟨b11, rfl, hs11, hb11, hx8_7⟩
  have hn9_11 : b9 ≠ b11 := hb9.ne hs11
  replace hI1 := hI1.nbCons hs11
  replace hI2 := hI2.nbCons hs11
  replace hI3 := hI3.nbCons hs11
  replace hJ1 := hJ1.nbCons hs11
  replace hJ2 := hJ2.nbCons hs11
  replace hJ3 := hJ3.nbCons hs11
  have hg11 : w.heap.size ≤ b11 := Nat.le_trans hE.size hs11
  replace hb9 := hb9.ext hx8_7
  replace hI1 := hI1.ext hx8_7
  replace hI2 := hI2.ext hx8_7
  replace hI3 := hI3.ext hx8_7
  replace hJ1 := hJ1.ext hx8_7
  replace hJ2 := hJ2.ext hx8_7
  replace hJ3 := hJ3.ext hx8_7
  replace hE := hE.trans hx8_7
  refine Wl.acts rfl rfl (Does.stL 8 rfl rfl rfl hb11 (by kernel_rfl) rfl rfl rfl) ?_
  rintro _ w8_8 ⟨hbn, hF8_8⟩
  replace hb9 := hb9.fr hF8_8 (by first | assumption | exact Ne.symm (by assumption))
  replace hI1 := hI1.fr (hF8_8.mono (fun k h => h.1))
  replace hI2 := hI2.fr (hF8_8.mono (fun k h => h.1))
  replace hI3 := hI3.fr (hF8_8.mono (fun k h => h.1))
  replace hJ1 := hJ1.fr (hF8_8.mono (fun k h => h.1))
  replace hJ2 := hJ2.fr (hF8_8.mono (fun k h => h.1))
  replace hJ3 := hJ3.fr (hF8_8.mono (fun k h => h.1))
  replace hE := Ext.over hE hF8_8 hg11
  replace hb11 := hbn
  clear hbn
  refine Wl.val rfl rfl rfl (Gives.assign rfl rfl) ?_
  refine Wl.val rfl rfl rfl (Gives.assign rfl rfl) ?_
  refine Wl.nil ?_
  refine Wx.thenN (hK9 _ _ ?_)
  refine Wc.seq (fun K10 hK10 => ?_)
  refine Wc.keep [(9, _), (10, _), (11, _), (12, _), (13, _)] (.cons rfl (.cons rfl (.cons rfl (.cons rfl (.cons rfl (.nil)))))) ?_
  refine Wc.region ?_
  refine Wl.val rfl rfl rfl (Gives.ldW rfl (by kernel_rfl) rfl hb9 (by kernel_rfl)) ?_
  refine Wl.val rfl rfl rfl (Gives.move rfl rfl) ?_
  refine Wl.call rfl rfl rfl rfl Try.func24 rfl (by kernel_rfl) rfl (incR_calls _ x pA pn pc aA an ac dA dn dc ⟨hI1, hI2, hI3⟩ (by omega) m (by omega)) ?_
  rintro x9 w9 ⟨z, zv, ze, rA, rn, rc, sA, sn, sc, uA, un, uc, rfl, hZ, hL, hz⟩
  refine ⟨_, rfl, ?_⟩
  obtain rfl : ze = ye := hZ.2.2.trans hY.2.2.symm
  obtain rfl : zv = yv := hZ.2.1.trans hY.2.1.symm
  have hyz : y = z := hY.1.trans hZ.1.symm
  replace hb9 := hb9.ext hz
  replace hb11 := hb11.ext hz
  replace hI1 := hI1.ext hz
  replace hI2 := hI2.ext hz
  replace hI3 := hI3.ext hz
  replace hJ1 := hJ1.ext hz
  replace hJ2 := hJ2.ext hz
  replace hJ3 := hJ3.ext hz
  replace hE := hE.trans hz
  have hL1 := (((BV.nb0 hL.1).nbBox hb9 rfl).nbBox hb11 rfl)
  have hL2 := (((BV.nb0 hL.2.1).nbBox hb9 rfl).nbBox hb11 rfl)
  have hL3 := (((BV.nb0 hL.2.2).nbBox hb9 rfl).nbBox hb11 rfl)
  refine Wl.val rfl rfl rfl (Gives.move rfl rfl) ?_
  refine Wl.val rfl rfl rfl (Gives.extract rfl rfl rfl) ?_
  refine Wl.val rfl rfl rfl (Gives.extract rfl rfl rfl) ?_
  refine Wl.val rfl rfl rfl (Gives.extract rfl rfl rfl) ?_
  refine Wl.does rfl rfl rfl (Does.alB (.agg #[(.int .i64 0), (.int .i64 0), (.int .i64 0), (.int .i64 0), (.slice none 0 0), (.slice none 0 0), (.bool false), (.slice none 0 0)]) rfl (by kernel_rfl) rfl) ?_
  rintro _ w9_7 ⟨b14, rfl, hs14, hb14, hx9_7⟩
  have hn9_14 : b9 ≠ b14 := hb9.ne hs14
  have hn11_14 : b11 ≠ b14 := hb11.ne hs14
  replace hI1 := hI1.nbCons hs14
  replace hI2 := hI2.nbCons hs14
  replace hI3 := hI3.nbCons hs14
  replace hJ1 := hJ1.nbCons hs14
  replace hJ2 := hJ2.nbCons hs14
  replace hJ3 := hJ3.nbCons hs14
  replace hL1 := hL1.nbCons hs14
  replace hL2 := hL2.nbCons hs14
  replace hL3 := hL3.nbCons hs14
  have hg14 : w.heap.size ≤ b14 := Nat.le_trans hE.size hs14
  replace hb9 := hb9.ext hx9_7
  replace hb11 := hb11.ext hx9_7
  replace hI1 := hI1.ext hx9_7
  replace hI2 := hI2.ext hx9_7
  replace hI3 := hI3.ext hx9_7
  replace hJ1 := hJ1.ext hx9_7
  replace hJ2 := hJ2.ext hx9_7
  replace hJ3 := hJ3.ext hx9_7
  replace hL1 := hL1.ext hx9_7
  replace hL2 := hL2.ext hx9_7
  replace hL3 := hL3.ext hx9_7
  replace hE := hE.trans hx9_7
  refine Wl.acts rfl rfl (Does.stL 8 rfl rfl rfl hb14 (by kernel_rfl) rfl rfl rfl) ?_
  rintro _ w9_8 ⟨hbn, hF9_8⟩
  replace hb9 := hb9.fr hF9_8 (by first | assumption | exact Ne.symm (by assumption))
  replace hb11 := hb11.fr hF9_8 (by first | assumption | exact Ne.symm (by assumption))
  replace hI1 := hI1.fr (hF9_8.mono (fun k h => h.1))
  replace hI2 := hI2.fr (hF9_8.mono (fun k h => h.1))
  replace hI3 := hI3.fr (hF9_8.mono (fun k h => h.1))
  replace hJ1 := hJ1.fr (hF9_8.mono (fun k h => h.1))
  replace hJ2 := hJ2.fr (hF9_8.mono (fun k h => h.1))
  replace hJ3 := hJ3.fr (hF9_8.mono (fun k h => h.1))
  replace hL1 := hL1.fr (hF9_8.mono (fun k h => h.1))
  replace hL2 := hL2.fr (hF9_8.mono (fun k h => h.1))
  replace hL3 := hL3.fr (hF9_8.mono (fun k h => h.1))
  replace hE := Ext.over hE hF9_8 hg14
  replace hb14 := hbn
  clear hbn
  refine Wl.val rfl rfl rfl (Gives.assign rfl rfl) ?_
  refine Wl.val rfl rfl rfl (Gives.assign rfl rfl) ?_
  refine Wl.nil ?_
  refine Wx.thenN (hK10 _ _ ?_)
  refine Wc.seq (fun K11 hK11 => ?_)
  refine Wc.seq (fun K12 hK12 => ?_)
  refine Wc.keep [(9, _), (10, _), (11, _), (12, _), (13, _), (14, _), (15, _), (16, _)] (.cons rfl (.cons rfl (.cons rfl (.cons rfl (.cons rfl (.cons rfl (.cons rfl (.cons rfl (.nil))))))))) ?_
  refine Wc.region ?_
  refine Wl.val rfl rfl rfl (Gives.move rfl rfl) ?_
  refine Wl.val rfl rfl rfl (Gives.move rfl rfl) ?_
  refine Wl.val rfl rfl rfl (Gives.neq rfl rfl rfl) ?_
  refine Wl.val rfl rfl rfl (Gives.move rfl rfl) ?_
  refine Wl.guardT rfl rfl rfl (nd_mkF rfl) ?_
  refine Wl.val rfl rfl rfl (Gives.move rfl rfl) ?_
  refine Wl.val rfl rfl rfl (Gives.move rfl rfl) ?_
  refine Wl.val rfl rfl rfl (Gives.neq rfl rfl rfl) ?_
  refine Wl.val rfl rfl rfl (Gives.pickF rfl rfl rfl rfl) ?_
  refine Wl.val rfl rfl rfl (Gives.move rfl rfl) ?_
  refine Wl.guardT rfl rfl rfl (nd_mkF rfl) ?_
  refine Wl.val rfl rfl rfl (Gives.ldW rfl (by kernel_rfl) rfl hb11 (by kernel_rfl)) ?_
  refine Wl.val rfl rfl rfl (Gives.ldW rfl (by kernel_rfl) rfl hb14 (by kernel_rfl)) ?_
  refine Wl.call rfl rfl rfl rfl Try.func14 rfl (by kernel_rfl) rfl (sameI_eq _ y z hyz qA qn qc bA bn bc fA fn fc ⟨hJ1, hJ2, hJ3⟩ rA rn rc sA sn sc uA un uc ⟨hL1, hL2, hL3⟩) ?_
  rintro x9 w9 ⟨rfl, hxs⟩
  refine ⟨_, rfl, ?_⟩
  replace hb9 := hb9.ext hxs
  replace hb11 := hb11.ext hxs
  replace hb14 := hb14.ext hxs
  replace hI1 := hI1.ext hxs
  replace hI2 := hI2.ext hxs
  replace hI3 := hI3.ext hxs
  replace hJ1 := hJ1.ext hxs
  replace hJ2 := hJ2.ext hxs
  replace hJ3 := hJ3.ext hxs
  replace hL1 := hL1.ext hxs
  replace hL2 := hL2.ext hxs
  replace hL3 := hL3.ext hxs
  replace hE := hE.trans hxs
  refine Wl.val rfl rfl rfl (Gives.not rfl rfl) ?_
  refine Wl.val rfl rfl rfl (Gives.pickF rfl rfl rfl rfl) ?_
  refine Wl.nil ?_
  refine Wx.thenN (hK12 _ _ ?_)
  refine Wc.condF rfl rfl ?_
  refine Wc.skip ?_
  refine Wx.thenN (hK11 _ _ ?_)
  refine Wc.seq (fun K13 hK13 => ?_)
  refine Wc.keep [(9, _), (10, _), (11, _), (12, _), (13, _)] (.cons rfl (.cons rfl (.cons rfl (.cons rfl (.cons rfl (.nil)))))) ?_
  have hyl : y.data.length = fn := hJ3.len
  have hfn : fn ≤ 1000000 := by
    rw [← hyl, hY.1]; unfold incI'; split
    · simp only; rw [uintS_8]; omega
    · simp [zeroIx]
  have hF : zv = zv := rfl
  refine Wc.regionB (fun q => [7, 8, 14, 17, 18, 19, 20, 27, 29, 30].contains q) [] (.read 0 (.read 1 (.read 2 (.read 3 (.read 4 (.read 5 (.read 6 (.read 7 (.read 9 (.call true 8 (.read 10 (.read 11 (.read 12 (.read 13 (.read 14 (.read 15 (.read 16 (.read 17 (.read 19 (.call false 18 (.call true 20 (.read 21 (.read 22 (.read 23 (.read 24 (.read 25 (.read 26 (.read 27 (.read 28 (.read 29 (.read 31 (.read 32 (.call true 30 .tail .none)))))))))))) .none) .none)))))))))) .none)))))))))) 33 (by kernel_rfl) (by kernel_rfl) (by kernel_rfl) ?_
  intro w12 hR12
  replace hb9 := hb9.ext hR12.ext
  replace hb11 := hb11.ext hR12.ext
  replace hb14 := hb14.ext hR12.ext
  replace hI1 := hI1.ext hR12.ext
  replace hI2 := hI2.ext hR12.ext
  replace hI3 := hI3.ext hR12.ext
  replace hJ1 := hJ1.ext hR12.ext
  replace hJ2 := hJ2.ext hR12.ext
  replace hJ3 := hJ3.ext hR12.ext
  replace hL1 := hL1.ext hR12.ext
  replace hL2 := hL2.ext hR12.ext
  replace hL3 := hL3.ext hR12.ext
  replace hE := hE.trans hR12.ext
  have hO12_9 : Old w12.heap.size [] b9 := ⟨hb9.lt, trivial⟩
  have hO12_11 : Old w12.heap.size [] b11 := ⟨hb11.lt, trivial⟩
  have hO12_14 : Old w12.heap.size [] b14 := ⟨hb14.lt, trivial⟩
  have hX := Ext.refl w12
  refine RunE.read rfl rfl rfl rfl (fun wS _ => (Gives.move rfl rfl)) ?_
  refine RunE.read rfl rfl rfl rfl (fun wS _ => (Gives.neq rfl rfl rfl)) ?_
  refine RunE.read rfl rfl rfl rfl (fun wS _ => (Gives.move rfl rfl)) ?_
  refine RunE.split (t := 60) rfl (fun h60 => ?_) (fun h60 => ?_)
  · (first | replace h60 := of_decide_eq_true h60 | replace h60 := nd_true h60 | skip)
    refine RunE.pass rfl rfl rfl rfl ?_
    refine RunE.pass rfl rfl rfl rfl ?_
    refine RunE.pass rfl rfl rfl rfl ?_
    refine RunE.pass rfl rfl rfl rfl ?_
    refine RunE.pass rfl rfl rfl rfl ?_
    refine RunE.pass rfl rfl rfl rfl ?_
    refine RunE.passC (fun _ => Fr.refl _ _) rfl rfl rfl rfl ?_ RunE.none
    refine RunE.pass rfl rfl rfl rfl ?_
    refine RunE.pass rfl rfl rfl rfl ?_
    refine RunE.pass rfl rfl rfl rfl ?_
    refine RunE.pass rfl rfl rfl rfl ?_
    refine RunE.pass rfl rfl rfl rfl ?_
    refine RunE.pass rfl rfl rfl rfl ?_
    refine RunE.pass rfl rfl rfl rfl ?_
    refine RunE.pass rfl rfl rfl rfl ?_
    refine RunE.pass rfl rfl rfl rfl ?_
    refine RunE.passC (fun _ => Fr.refl _ _) rfl rfl rfl rfl ?_ RunE.none
    refine RunE.passC (fun _ => Fr.refl _ _) rfl rfl rfl rfl ?_ RunE.none
    refine RunE.pass rfl rfl rfl rfl ?_
    refine RunE.pass rfl rfl rfl rfl ?_
    refine RunE.pass rfl rfl rfl rfl ?_
    refine RunE.pass rfl rfl rfl rfl ?_
    refine RunE.pass rfl rfl rfl rfl ?_
    refine RunE.pass rfl rfl rfl rfl ?_
    refine RunE.pass rfl rfl rfl rfl ?_
    refine RunE.pass rfl rfl rfl rfl ?_
    refine RunE.pass rfl rfl rfl rfl ?_
    refine RunE.pass rfl rfl rfl rfl ?_
    refine RunE.pass rfl rfl rfl rfl ?_
    refine RunE.passC (fun _ => Fr.refl _ _) rfl rfl rfl rfl ?_ RunE.none
    refine RunE.tail rfl ?_
    replace hb9 := hb9.ext hX
    replace hb11 := hb11.ext hX
    replace hb14 := hb14.ext hX
    replace hI1 := hI1.ext hX
    replace hI2 := hI2.ext hX
    replace hI3 := hI3.ext hX
    replace hJ1 := hJ1.ext hX
    replace hJ2 := hJ2.ext hX
    replace hJ3 := hJ3.ext hX
    replace hL1 := hL1.ext hX
    replace hL2 := hL2.ext hX
    replace hL3 := hL3.ext hX
    replace hE := hE.trans hX
    refine Wl.pass rfl rfl rfl ?_
    refine Wl.pass rfl rfl rfl ?_
    refine Wl.pass rfl rfl rfl ?_
    refine Wl.val rfl rfl rfl (Gives.pickT rfl rfl rfl rfl) ?_
    refine Wl.val rfl rfl rfl (Gives.assign rfl rfl) ?_
    refine Wl.nil ?_
    refine Wx.thenN (hK13 _ _ ?_)
    refine Wc.ret ?_
    refine Wx.ret [_] ⟨rfl, trivial⟩ ?_
    first | exact ⟨rfl, hE⟩ | exact ⟨ret_bool (decide_eq_true (by rw [hY.1]; exact (inc_facts x m (by omega) (by rw [← hY.2.2]; exact h60)).2.2.2.1 (by simpa using h86))), hE⟩ | (exfalso; simp_all)
  · (first | replace h60 := of_decide_eq_false h60 | replace h60 := nd_false h60 | skip)
    refine RunE.read rfl rfl rfl rfl (fun wS _ => (Gives.move rfl rfl)) ?_
    refine RunE.read rfl rfl rfl rfl (fun wS _ => (Gives.move rfl rfl)) ?_
    refine RunE.read rfl rfl rfl rfl (fun wS _ => (Gives.geq rfl rfl rfl)) ?_
    refine RunE.read rfl rfl rfl rfl (fun wS _ => (Gives.move rfl rfl)) ?_
    refine RunE.fix (t := 64) true rfl (decide_eq_true (by rw [hY.2.1]; exact (inc_facts x m (by omega) (by rw [← hY.2.2]; exact h60)).1)) ?_
    refine RunE.readM rfl rfl rfl rfl rfl (fun wS hS => (Gives.ldW rfl (by kernel_rfl) rfl ((hb11.ext hX).fr hS hO12_11) (by kernel_rfl))) ?_
    refine RunE.read rfl rfl rfl rfl (fun wS _ => (Gives.move rfl rfl)) ?_
    refine RunE.freeC rfl rfl rfl rfl rfl Try.func25 rfl (by kernel_rfl) rfl (number_any _ _ _ _ _ _ _ _ _ _ _ (by first | exact ⟨hJ1.ext hX, hJ2.ext hX, hJ3.ext hX⟩ | exact ⟨hI1.ext hX, hI2.ext hX, hI3.ext hX⟩) (by omega)) ?_ RunE.none
    rintro xq wq ⟨rfl, hxq⟩
    refine ⟨_, rfl, ?_⟩
    replace hX := hX.trans hxq
    refine RunE.read rfl rfl rfl rfl (fun wS _ => (Gives.leq rfl rfl rfl)) ?_
    refine RunE.read rfl rfl rfl rfl (fun wS _ => (Gives.pickT rfl rfl rfl rfl)) ?_
    refine RunE.read rfl rfl rfl rfl (fun wS _ => (Gives.move rfl rfl)) ?_
    refine RunE.fix (t := 70) true rfl (decide_eq_true (by rw [hY.2.1, hY.1]; exact (inc_facts x m (by omega) (by rw [← hY.2.2]; exact h60)).2.1)) ?_
    refine RunE.read rfl rfl rfl rfl (fun wS _ => (Gives.fieldAt 6 rfl Try.underlying28 rfl (by kernel_rfl) rfl rfl)) ?_
    refine RunE.readM rfl rfl rfl rfl rfl (fun wS hS => (Gives.ldK rfl (by kernel_rfl) rfl ((hb9.ext hX).fr hS hO12_9) rfl)) ?_
    refine RunE.read rfl rfl rfl rfl (fun wS _ => (Gives.not rfl rfl)) ?_
    refine RunE.read rfl rfl rfl rfl (fun wS _ => (Gives.move rfl rfl)) ?_
    refine RunE.split (t := 74) rfl (fun h74 => ?_) (fun h74 => ?_)
    · (first | replace h74 := of_decide_eq_true h74 | replace h74 := nd_true h74 | skip)
      refine RunE.pass rfl rfl rfl rfl ?_
      refine RunE.pass rfl rfl rfl rfl ?_
      refine RunE.passC (fun _ => Fr.refl _ _) rfl rfl rfl rfl ?_ RunE.none
      refine RunE.passC (fun _ => Fr.refl _ _) rfl rfl rfl rfl ?_ RunE.none
      refine RunE.pass rfl rfl rfl rfl ?_
      refine RunE.pass rfl rfl rfl rfl ?_
      refine RunE.read rfl rfl rfl rfl (fun wS _ => (Gives.pickT rfl rfl rfl rfl)) ?_
      refine RunE.read rfl rfl rfl rfl (fun wS _ => (Gives.pickT rfl rfl rfl rfl)) ?_
      refine RunE.read rfl rfl rfl rfl (fun wS _ => (Gives.move rfl rfl)) ?_
      refine RunE.fix (t := 83) true rfl rfl ?_
      refine RunE.read rfl rfl rfl rfl (fun wS _ => (Gives.fieldAt 6 rfl Try.underlying28 rfl (by kernel_rfl) rfl rfl)) ?_
      refine RunE.readM rfl rfl rfl rfl rfl (fun wS hS => (Gives.ldK rfl (by kernel_rfl) rfl ((hb9.ext hX).fr hS hO12_9) rfl)) ?_
      refine RunE.read rfl rfl rfl rfl (fun wS _ => (Gives.move rfl rfl)) ?_
      refine RunE.split (t := 86) rfl (fun h86 => ?_) (fun h86 => ?_)
      · (first | replace h86 := of_decide_eq_true h86 | replace h86 := nd_true h86 | skip)
        refine RunE.pass rfl rfl rfl rfl ?_
        refine RunE.pass rfl rfl rfl rfl ?_
        refine RunE.pass rfl rfl rfl rfl ?_
        refine RunE.passC (fun _ => Fr.refl _ _) rfl rfl rfl rfl ?_ RunE.none
        refine RunE.tail rfl ?_
        replace hb9 := hb9.ext hX
        replace hb11 := hb11.ext hX
        replace hb14 := hb14.ext hX
        replace hI1 := hI1.ext hX
        replace hI2 := hI2.ext hX
        replace hI3 := hI3.ext hX
        replace hJ1 := hJ1.ext hX
        replace hJ2 := hJ2.ext hX
        replace hJ3 := hJ3.ext hX
        replace hL1 := hL1.ext hX
        replace hL2 := hL2.ext hX
        replace hL3 := hL3.ext hX
        replace hE := hE.trans hX
        refine Wl.pass rfl rfl rfl ?_
        refine Wl.val rfl rfl rfl (Gives.pickT rfl rfl rfl rfl) ?_
        refine Wl.val rfl rfl rfl (Gives.pickT rfl rfl rfl rfl) ?_
        refine Wl.val rfl rfl rfl (Gives.pickF rfl rfl rfl rfl) ?_
        refine Wl.val rfl rfl rfl (Gives.assign rfl rfl) ?_
        refine Wl.nil ?_
        refine Wx.thenN (hK13 _ _ ?_)
        refine Wc.ret ?_
        refine Wx.ret [_] ⟨rfl, trivial⟩ ?_
        first | exact ⟨rfl, hE⟩ | exact ⟨ret_bool (decide_eq_true (by rw [hY.1]; exact (inc_facts x m (by omega) (by rw [← hY.2.2]; exact h60)).2.2.2.1 (by simpa using h86))), hE⟩ | (exfalso; simp_all)
      · (first | replace h86 := of_decide_eq_false h86 | replace h86 := nd_false h86 | skip)
        refine RunE.readM rfl rfl rfl rfl rfl (fun wS hS => (Gives.ldW rfl (by kernel_rfl) rfl ((hb11.ext hX).fr hS hO12_11) (by kernel_rfl))) ?_
        refine RunE.read rfl rfl rfl rfl (fun wS _ => (Gives.move rfl rfl)) ?_
        refine RunE.read rfl rfl rfl rfl (fun wS _ => (Gives.add rfl rfl rfl (by first | exact IntWalk.i64_in _ (by omega) | exact u64_in _ (by omega) | exact u32_in _ (by omega) | exact u8_in _ (by omega) | exact rfl))) ?_
        refine RunE.freeC rfl rfl rfl rfl rfl Try.func25 rfl (by kernel_rfl) rfl (number_any _ _ _ _ _ _ _ _ _ _ _ (by first | exact ⟨hJ1.ext hX, hJ2.ext hX, hJ3.ext hX⟩ | exact ⟨hI1.ext hX, hI2.ext hX, hI3.ext hX⟩) (by omega)) ?_ RunE.none
        rintro xq wq ⟨rfl, hxq⟩
        refine ⟨_, rfl, ?_⟩
        replace hX := hX.trans hxq
        refine RunE.tail rfl ?_
        replace hb9 := hb9.ext hX
        replace hb11 := hb11.ext hX
        replace hb14 := hb14.ext hX
        replace hI1 := hI1.ext hX
        replace hI2 := hI2.ext hX
        replace hI3 := hI3.ext hX
        replace hJ1 := hJ1.ext hX
        replace hJ2 := hJ2.ext hX
        replace hJ3 := hJ3.ext hX
        replace hL1 := hL1.ext hX
        replace hL2 := hL2.ext hX
        replace hL3 := hL3.ext hX
        replace hE := hE.trans hX
        refine Wl.val rfl rfl rfl (Gives.eql rfl rfl rfl) ?_
        refine Wl.val rfl rfl rfl (Gives.pickF rfl rfl rfl rfl) ?_
        refine Wl.val rfl rfl rfl (Gives.pickT rfl rfl rfl rfl) ?_
        refine Wl.val rfl rfl rfl (Gives.pickF rfl rfl rfl rfl) ?_
        refine Wl.val rfl rfl rfl (Gives.assign rfl rfl) ?_
        refine Wl.nil ?_
        refine Wx.thenN (hK13 _ _ ?_)
        refine Wc.ret ?_
        refine Wx.ret [_] ⟨rfl, trivial⟩ ?_
        first | exact ⟨rfl, hE⟩ | exact ⟨ret_bool (decide_eq_true (by rw [hY.1]; exact (inc_facts x m (by omega) (by rw [← hY.2.2]; exact h60)).2.2.2.1 (by simpa using h86))), hE⟩ | (exfalso; simp_all)
    · (first | replace h74 := of_decide_eq_false h74 | replace h74 := nd_false h74 | skip)
      refine RunE.readM rfl rfl rfl rfl rfl (fun wS hS => (Gives.ldW rfl (by kernel_rfl) rfl ((hb11.ext hX).fr hS hO12_11) (by kernel_rfl))) ?_
      refine RunE.readM rfl rfl rfl rfl rfl (fun wS hS => (Gives.ldW rfl (by kernel_rfl) rfl ((hb9.ext hX).fr hS hO12_9) (by kernel_rfl))) ?_
      refine RunE.turnC rfl rfl rfl rfl rfl Try.func25 rfl (by kernel_rfl) rfl (number_any _ _ _ _ _ _ _ _ _ _ _ (by first | exact ⟨hJ1.ext hX, hJ2.ext hX, hJ3.ext hX⟩ | exact ⟨hI1.ext hX, hI2.ext hX, hI3.ext hX⟩) (by omega)) ?_ RunE.none
      rintro xq wq ⟨rfl, hxq⟩
      refine ⟨_, rfl, ?_⟩
      refine ⟨hxq.fr, ?_⟩
      replace hX := hX.trans hxq
      refine RunE.freeC rfl rfl rfl rfl rfl Try.func25 rfl (by kernel_rfl) rfl (number_any _ _ _ _ _ _ _ _ _ _ _ (by first | exact ⟨hJ1.ext hX, hJ2.ext hX, hJ3.ext hX⟩ | exact ⟨hI1.ext hX, hI2.ext hX, hI3.ext hX⟩) (by omega)) ?_ RunE.none
      rintro xq wq ⟨rfl, hxq⟩
      refine ⟨_, rfl, ?_⟩
      replace hX := hX.trans hxq
      refine RunE.read rfl rfl rfl rfl (fun wS _ => (Gives.add rfl rfl rfl (by exact IntWalk.i64_in _ (by have h1 := numS_lo x.data; have h2 := (inc_facts x m (by omega) (by rw [← hY.2.2]; exact h60)).2.2.1 (by simpa using h74); have h3 := numS_lo (incI' x m).data; omega)))) ?_
      refine RunE.read rfl rfl rfl rfl (fun wS _ => (Gives.eql rfl rfl rfl)) ?_
      refine RunE.read rfl rfl rfl rfl (fun wS _ => (Gives.pickF rfl rfl rfl rfl)) ?_
      refine RunE.read rfl rfl rfl rfl (fun wS _ => (Gives.pickT rfl rfl rfl rfl)) ?_
      refine RunE.read rfl rfl rfl rfl (fun wS _ => (Gives.move rfl rfl)) ?_
      refine RunE.fix (t := 83) true rfl (decide_eq_true (by rw [hY.1, (inc_facts x m (by omega) (by rw [← hY.2.2]; exact h60)).2.2.1 (by simpa using h74)])) ?_
      refine RunE.read rfl rfl rfl rfl (fun wS _ => (Gives.fieldAt 6 rfl Try.underlying28 rfl (by kernel_rfl) rfl rfl)) ?_
      refine RunE.readM rfl rfl rfl rfl rfl (fun wS hS => (Gives.ldK rfl (by kernel_rfl) rfl ((hb9.ext hX).fr hS hO12_9) rfl)) ?_
      refine RunE.read rfl rfl rfl rfl (fun wS _ => (Gives.move rfl rfl)) ?_
      refine RunE.split (t := 86) rfl (fun h86 => ?_) (fun h86 => ?_)
      · (first | replace h86 := of_decide_eq_true h86 | replace h86 := nd_true h86 | skip)
        refine RunE.pass rfl rfl rfl rfl ?_
        refine RunE.pass rfl rfl rfl rfl ?_
        refine RunE.pass rfl rfl rfl rfl ?_
        refine RunE.passC (fun _ => Fr.refl _ _) rfl rfl rfl rfl ?_ RunE.none
        refine RunE.tail rfl ?_
        replace hb9 := hb9.ext hX
        replace hb11 := hb11.ext hX
        replace hb14 := hb14.ext hX
        replace hI1 := hI1.ext hX
        replace hI2 := hI2.ext hX
        replace hI3 := hI3.ext hX
        replace hJ1 := hJ1.ext hX
        replace hJ2 := hJ2.ext hX
        replace hJ3 := hJ3.ext hX
        replace hL1 := hL1.ext hX
        replace hL2 := hL2.ext hX
        replace hL3 := hL3.ext hX
        replace hE := hE.trans hX
        refine Wl.pass rfl rfl rfl ?_
        refine Wl.val rfl rfl rfl (Gives.pickT rfl rfl rfl rfl) ?_
        refine Wl.val rfl rfl rfl (Gives.pickT rfl rfl rfl rfl) ?_
        refine Wl.val rfl rfl rfl (Gives.pickF rfl rfl rfl rfl) ?_
        refine Wl.val rfl rfl rfl (Gives.assign rfl rfl) ?_
        refine Wl.nil ?_
        refine Wx.thenN (hK13 _ _ ?_)
        refine Wc.ret ?_
        refine Wx.ret [_] ⟨rfl, trivial⟩ ?_
        first | exact ⟨rfl, hE⟩ | exact ⟨ret_bool (decide_eq_true (by rw [hY.1]; exact (inc_facts x m (by omega) (by rw [← hY.2.2]; exact h60)).2.2.2.1 (by simpa using h86))), hE⟩ | (exfalso; simp_all)
      · (first | replace h86 := of_decide_eq_false h86 | replace h86 := nd_false h86 | skip)
        refine RunE.readM rfl rfl rfl rfl rfl (fun wS hS => (Gives.ldW rfl (by kernel_rfl) rfl ((hb11.ext hX).fr hS hO12_11) (by kernel_rfl))) ?_
        refine RunE.read rfl rfl rfl rfl (fun wS _ => (Gives.move rfl rfl)) ?_
        refine RunE.read rfl rfl rfl rfl (fun wS _ => (Gives.add rfl rfl rfl (by first | exact IntWalk.i64_in _ (by omega) | exact u64_in _ (by omega) | exact u32_in _ (by omega) | exact u8_in _ (by omega) | exact rfl))) ?_
        refine RunE.freeC rfl rfl rfl rfl rfl Try.func25 rfl (by kernel_rfl) rfl (number_any _ _ _ _ _ _ _ _ _ _ _ (by first | exact ⟨hJ1.ext hX, hJ2.ext hX, hJ3.ext hX⟩ | exact ⟨hI1.ext hX, hI2.ext hX, hI3.ext hX⟩) (by omega)) ?_ RunE.none
        rintro xq wq ⟨rfl, hxq⟩
        refine ⟨_, rfl, ?_⟩
        replace hX := hX.trans hxq
        refine RunE.tail rfl ?_
        replace hb9 := hb9.ext hX
        replace hb11 := hb11.ext hX
        replace hb14 := hb14.ext hX
        replace hI1 := hI1.ext hX
        replace hI2 := hI2.ext hX
        replace hI3 := hI3.ext hX
        replace hJ1 := hJ1.ext hX
        replace hJ2 := hJ2.ext hX
        replace hJ3 := hJ3.ext hX
        replace hL1 := hL1.ext hX
        replace hL2 := hL2.ext hX
        replace hL3 := hL3.ext hX
        replace hE := hE.trans hX
        refine Wl.val rfl rfl rfl (Gives.eql rfl rfl rfl) ?_
        refine Wl.val rfl rfl rfl (Gives.pickF rfl rfl rfl rfl) ?_
        refine Wl.val rfl rfl rfl (Gives.pickT rfl rfl rfl rfl) ?_
        refine Wl.val rfl rfl rfl (Gives.pickF rfl rfl rfl rfl) ?_
        refine Wl.val rfl rfl rfl (Gives.assign rfl rfl) ?_
        refine Wl.nil ?_
        refine Wx.thenN (hK13 _ _ ?_)
        refine Wc.ret ?_
        refine Wx.ret [_] ⟨rfl, trivial⟩ ?_
        first | exact ⟨rfl, hE⟩ | exact ⟨ret_bool (decide_eq_true (by rw [hY.1]; exact (inc_facts x m (by omega) (by rw [← hY.2.2]; exact h60)).2.2.2.1 (by simpa using h86))), hE⟩ | (exfalso; simp_all)
end Go.Proofs.Ytdekjkcnfebfnaa
