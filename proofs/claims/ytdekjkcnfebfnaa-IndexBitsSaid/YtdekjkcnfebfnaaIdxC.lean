/- Indices: Cut, Number, Increment, SetBits. -/
import Derived.Test.YtdekjkcnfebfnaaIdxW
import Derived.Test.YtdekjkcnfebfnaaWireQ
import Derived.Test.YtdekjkcnfebfnaaVc4
import Derived.Test.YtdekjkcnfebfnaaVcA
namespace Go.Proofs.Ytdekjkcnfebfnaa
set_option linter.all false
open Go.RowKit
theorem cut_calls (w : World) (A : Option Addr) (n c : Nat) (hle : n ≤ c ∧ c ≤ 9223372036854775807) (z : Int) (hz : 0 ≤ z) :
    Calls Try.prog 28 #[.slice A n c, .int .i64 z] w fun e w' => e = .returned (.slice A (min n z.toNat) c) ∧ w = w' := by
  obtain ⟨k, rfl⟩ := Int.eq_ofNat_of_zero_le hz
  rw [Int.toNat_natCast]
  refine calls_enter Try.func28 rfl Try.ntmps28 rfl ?_
  refine Wc.seq (fun K1 hK1 => ?_)
  refine Wc.keep [(0, _), (1, _)] (.cons rfl (.cons rfl (.nil))) ?_
  refine Wc.region ?_
  refine Wl.val rfl rfl rfl (Gives.assign rfl rfl) ?_
  refine Wl.nil ?_
  refine Wx.thenN (hK1 _ _ ?_)
  refine Wc.seq (fun K2 hK2 => ?_)
  refine Wc.seq (fun K3 hK3 => ?_)
  refine Wc.keep [(0, _), (1, _)] (.cons rfl (.cons rfl (.nil))) ?_
  refine Wc.region ?_
  refine Wl.val rfl rfl rfl (Gives.move rfl rfl) ?_
  refine Wl.val rfl rfl rfl (Gives.lenS rfl Try.underlying22 rfl) ?_
  refine Wl.val rfl rfl rfl (Gives.move rfl rfl) ?_
  refine Wl.val rfl rfl rfl (Gives.gtr rfl rfl rfl) ?_
  refine Wl.nil ?_
  refine Wx.thenN (hK3 _ _ ?_)
  refine Wc.cond _ rfl (fun h8 => ?_) (fun h8 => ?_)
  · (first | replace h8 := of_decide_eq_true h8 | replace h8 := nd_true h8 | skip)
    refine Wc.seq (fun K4 hK4 => ?_)
    refine Wc.keep [(0, _), (1, _)] (.cons rfl (.cons rfl (.nil))) ?_
    refine Wc.region ?_
    refine Wl.val rfl rfl rfl (Gives.move rfl rfl) ?_
    refine Wl.val rfl rfl rfl (Gives.move rfl rfl) ?_
    refine Wl.val rfl rfl rfl (Gives.cutHi rfl Try.underlying22 (by kernel_rfl) rfl k rfl rfl (by omega)) ?_
    refine Wl.val rfl rfl rfl (Gives.assign rfl rfl) ?_
    refine Wl.nil ?_
    refine Wx.thenN (hK4 _ _ ?_)
    refine Wc.ret ?_
    refine Wx.thenR ?_
    refine Wx.ret [_] ⟨rfl, trivial⟩ ?_
    exact ⟨by rw [Nat.min_eq_right (by omega)]; rfl, rfl⟩
  · (first | replace h8 := of_decide_eq_false h8 | replace h8 := nd_false h8 | skip)
    refine Wc.skip ?_
    refine Wx.thenN (hK2 _ _ ?_)
    refine Wc.seq (fun K5 hK5 => ?_)
    refine Wc.keep [(0, _)] (.cons rfl (.nil)) ?_
    refine Wc.region ?_
    refine Wl.val rfl rfl rfl (Gives.move rfl rfl) ?_
    refine Wl.val rfl rfl rfl (Gives.assign rfl rfl) ?_
    refine Wl.nil ?_
    refine Wx.thenN (hK5 _ _ ?_)
    refine Wc.ret ?_
    refine Wx.ret [_] ⟨rfl, trivial⟩ ?_
    exact ⟨by rw [Nat.min_eq_left (by omega)]; rfl, rfl⟩
theorem BV.cutS {P : Nat → Prop} {w : World} {A : Option Addr} {n c : Nat} {l : List UInt8} (ha : BV w P A n c l) (k : Nat) : BV w P A (min n k) c (l.take k) := by
  have h := ha.take (Nat.min_le_left n k)
  have hl := ha.len
  rwa [show l.take (min n k) = l.take k by rw [← hl, Nat.min_comm]; simp] at h
def numS (l : List UInt8) : Int := (rdUint ⟨l, 0, 0⟩ 8).2
theorem numS_lo (l : List UInt8) : 0 ≤ numS l ∧ numS l ≤ 9223372036854775807 := by
  unfold numS rdUint
  simp only [ne_eq, not_true_eq_false, if_false]
  repeat' split
  all_goals first | (constructor <;> simp; done) | skip
  rename_i h
  unfold tooBig at h
  simp only [decide_eq_true_eq, Nat.not_lt] at h
  simp only [] at *
  omega
def incN (x : Ix) (most : Int) : Int := if x.wr = true then numS x.data else most
def incE' (x : Ix) (most : Int) : Int := if x.kind ≠ 2 then 19 else if 1099511627776 ≤ incN x most then 31 else 0
def incI' (x : Ix) (most : Int) : Ix := if incE' x most = 0 then { x with wr := true, data := uintS [] 8 (incN x most + 1) } else zeroIx
def incV' (x : Ix) (most : Int) : Int := if incE' x most = 0 then iMax most (incN x most + 1) else 0
/-- What hands back an index, a number and an error. -/
def IxR3 (w : World) (X : Ix) (V E : Int) (e : Ending) (w' : World) : Prop :=
  ∃ x v er pA pn pc aA an ac dA dn dc, e = .returned (.tuple #[.agg #[.int .i64 x.n, .int .i64 x.kind, .int .i64 x.attr, .int .i64 x.size, .slice pA pn pc, .slice aA an ac, .bool x.wr, .slice dA dn dc], .int .i64 v, .int .i64 er]) ∧ (x = X ∧ v = V ∧ er = E) ∧ IxV w' (fun _ => True) x pA pn pc aA an ac dA dn dc ∧ Ext w w'
theorem IxR3.mk {w w' : World} {X x : Ix} {V v E er : Int} {e : Ending} {pA aA dA : Option Addr} {pn pc an ac dn dc : Nat} (he : e = .returned (.tuple #[.agg #[.int .i64 x.n, .int .i64 x.kind, .int .i64 x.attr, .int .i64 x.size, .slice pA pn pc, .slice aA an ac, .bool x.wr, .slice dA dn dc], .int .i64 v, .int .i64 er])) (hx : x = X) (hv : v = V) (her : er = E) (h : IxV w' (fun _ => True) x pA pn pc aA an ac dA dn dc) (hE : Ext w w') : IxR3 w X V E e w' :=
  ⟨x, v, er, pA, pn, pc, aA, an, ac, dA, dn, dc, he, ⟨hx, hv, her⟩, h, hE⟩
theorem inc_err {x : Ix} {most er : Int} (h : incE' x most = er) (h0 : er ≠ 0) : zeroIx = incI' x most ∧ 0 = incV' x most := by
  unfold incI' incV'; rw [h, if_neg h0, if_neg h0]; exact ⟨rfl, rfl⟩
theorem inc_ok {x : Ix} {most : Int} (h : incE' x most = 0) : { x with wr := true, data := uintS [] 8 (incN x most + 1) } = incI' x most ∧ iMax most (incN x most + 1) = incV' x most := by
  unfold incI' incV'; rw [h, if_pos rfl, if_pos rfl]; exact ⟨rfl, rfl⟩
theorem uintS_8 (k : Int) : (uintS [] 8 k).length = 8 := by unfold uintS; rw [if_pos (by omega)]; rw [List.nil_append, beS_len]; rfl
theorem number_calls {P : Nat → Prop} (w : World) (x : Ix) (pA : Option Addr) (pn pc : Nat) (aA : Option Addr) (an ac : Nat) (dA : Option Addr) (dn dc : Nat) (hd : BV w P dA dn dc x.data) (hdn : dn ≤ 1000000) :
    Calls Try.prog 25 #[.agg #[.int .i64 x.n, .int .i64 x.kind, .int .i64 x.attr, .int .i64 x.size, .slice pA pn pc, .slice aA an ac, .bool x.wr, .slice dA dn dc]] w fun e w' => e = .returned (.int .i64 (numS x.data)) ∧ Ext w w' := by
  refine calls_enter Try.func25 rfl Try.ntmps25 rfl ?_
  have hE : Ext w w := Ext.refl w
  refine Wc.seq (fun K1 hK1 => ?_)
  refine Wc.keep [(0, _)] (.cons rfl (.nil)) ?_
  refine Wc.region ?_
  refine Wl.does rfl rfl rfl (Does.boxA rfl rfl) ?_
  rintro _ w0_0 ⟨b1, rfl, hs1, hb1, hx0_0⟩
  have hg1 : w.heap.size ≤ b1 := Nat.le_trans hE.size hs1
  replace hE := hE.trans hx0_0
  refine Wl.val rfl rfl rfl (Gives.assign rfl rfl) ?_
  refine Wl.nil ?_
  refine Wx.thenN (hK1 _ _ ?_)
  refine Wc.seq (fun K2 hK2 => ?_)
  refine Wc.keep [(1, _)] (.cons rfl (.nil)) ?_
  refine Wc.region ?_
  refine Wl.val rfl rfl rfl (Gives.fieldAt 7 rfl Try.underlying28 rfl (by kernel_rfl) rfl rfl) ?_
  refine Wl.val rfl rfl rfl (Gives.ldK rfl (by kernel_rfl) rfl hb1 rfl) ?_
  refine Wl.call rfl rfl rfl rfl Try.func38 rfl (by kernel_rfl) rfl (newR_rd _ dA dn dc x.data (hd.ext hE) (by omega)) ?_
  rintro x1 w11 ⟨g, A, n, c, rfl, hg, hRD, hxa⟩
  refine ⟨_, rfl, ?_⟩
  refine Wl.call rfl rfl rfl rfl Try.func39 rfl (by kernel_rfl) rfl (sUint_calls w11 g A n c x.data 0 0 8 hRD) ?_
  rintro x2 w12 ⟨v, r, rfl, hvr, hRD2, hFa⟩
  refine ⟨_, rfl, ?_⟩
  have hx2 := Ext.over hxa hFa hg
  replace hb1 := hb1.ext hx2
  replace hE := hE.trans hx2
  refine Wl.val rfl rfl rfl (Gives.assign rfl rfl) ?_
  refine Wl.nil ?_
  refine Wx.thenN (hK2 _ _ ?_)
  refine Wc.ret ?_
  refine Wx.ret [_] ⟨rfl, trivial⟩ ?_
  exact ⟨by rw [hvr.out.1]; rfl, hE⟩
theorem number_any {P : Nat → Prop} (w : World) (x : Ix) (pA : Option Addr) (pn pc : Nat) (aA : Option Addr) (an ac : Nat) (dA : Option Addr) (dn dc : Nat) (hx : IxV w P x pA pn pc aA an ac dA dn dc) (hdn : dn ≤ 1000000) :
    Calls Try.prog 25 #[.agg #[.int .i64 x.n, .int .i64 x.kind, .int .i64 x.attr, .int .i64 x.size, .slice pA pn pc, .slice aA an ac, .bool x.wr, .slice dA dn dc]] w fun e w' => e = .returned (.int .i64 (numS x.data)) ∧ Ext w w' := number_calls w x pA pn pc aA an ac dA dn dc hx.2.2 hdn
theorem incR_calls {P : Nat → Prop} (w : World) (x : Ix) (pA : Option Addr) (pn pc : Nat) (aA : Option Addr) (an ac : Nat) (dA : Option Addr) (dn dc : Nat) (hx : IxV w P x pA pn pc aA an ac dA dn dc) (hdn : dn ≤ 1000000) (most : Int) (hm : -4611686018427387904 ≤ most ∧ most ≤ 4611686018427387904) :
    Calls Try.prog 24 #[.agg #[.int .i64 x.n, .int .i64 x.kind, .int .i64 x.attr, .int .i64 x.size, .slice pA pn pc, .slice aA an ac, .bool x.wr, .slice dA dn dc], .int .i64 most] w (IxR3 w (incI' x most) (incV' x most) (incE' x most)) := by
  have hnl := numS_lo x.data
  refine calls_enter Try.func24 rfl Try.ntmps24 rfl ?_
  have hE : Ext w w := Ext.refl w
  refine Wc.seq (fun K1 hK1 => ?_)
  refine Wc.keep [(0, _), (1, _)] (.cons rfl (.cons rfl (.nil))) ?_
  refine Wc.region ?_
  refine Wl.does rfl rfl rfl (Does.boxA rfl rfl) ?_
  rintro _ w0_0 ⟨b2, rfl, hs2, hb2, hx0_0⟩
  have hg2 : w.heap.size ≤ b2 := Nat.le_trans hE.size hs2
  replace hE := hE.trans hx0_0
  refine Wl.does rfl rfl rfl (Does.alB (.agg #[(.int .i64 0), (.int .i64 0), (.int .i64 0), (.int .i64 0), (.slice none 0 0), (.slice none 0 0), (.bool false), (.slice none 0 0)]) rfl (by kernel_rfl) rfl) ?_
  rintro _ w0_1 ⟨b4, rfl, hs4, hb4, hx0_1⟩
  have hn2_4 : b2 ≠ b4 := hb2.ne hs4
  have hg4 : w.heap.size ≤ b4 := Nat.le_trans hE.size hs4
  replace hb2 := hb2.ext hx0_1
  replace hE := hE.trans hx0_1
  refine Wl.val rfl rfl rfl (Gives.assign rfl rfl) ?_
  refine Wl.val rfl rfl rfl (Gives.assign rfl rfl) ?_
  refine Wl.nil ?_
  refine Wx.thenN (hK1 _ _ ?_)
  refine Wc.seq (fun K2 hK2 => ?_)
  refine Wc.seq (fun K3 hK3 => ?_)
  refine Wc.keep [(1, _), (2, _), (4, _)] (.cons rfl (.cons rfl (.cons rfl (.nil)))) ?_
  refine Wc.region ?_
  refine Wl.val rfl rfl rfl (Gives.fieldAt 1 rfl Try.underlying28 rfl (by kernel_rfl) rfl rfl) ?_
  refine Wl.val rfl rfl rfl (Gives.ldK rfl (by kernel_rfl) rfl hb2 rfl) ?_
  refine Wl.val rfl rfl rfl (Gives.neq rfl rfl rfl) ?_
  refine Wl.nil ?_
  refine Wx.thenN (hK3 _ _ ?_)
  refine Wc.cond _ rfl (fun h10 => ?_) (fun h10 => ?_)
  · (first | replace h10 := of_decide_eq_true h10 | replace h10 := nd_true h10 | skip)
    refine Wc.seq (fun K4 hK4 => ?_)
    refine Wc.keep [(4, _)] (.cons rfl (.nil)) ?_
    refine Wc.region ?_
    refine Wl.val rfl rfl rfl (Gives.buildS (pl := [(0, 1), (1, 1), (2, 1), (3, 1), (4, 1), (5, 1), (6, 1), (7, 1)]) (zv := (.agg #[(.int .i64 0), (.int .i64 0), (.int .i64 0), (.int .i64 0), (.slice none 0 0), (.slice none 0 0), (.bool false), (.slice none 0 0)])) rfl Try.underlying28 (by kernel_rfl) (by kernel_rfl) rfl rfl) ?_
    refine Wl.acts rfl rfl (Does.stL 8 rfl rfl rfl hb4 (by kernel_rfl) rfl rfl rfl) ?_
    rintro _ w2_1 ⟨hbn, hF2_1⟩
    replace hb2 := hb2.fr hF2_1 (by first | assumption | exact Ne.symm (by assumption))
    replace hE := Ext.over hE hF2_1 hg4
    replace hb4 := hbn
    clear hbn
    refine Wl.val rfl rfl rfl (Gives.assign rfl rfl) ?_
    refine Wl.val rfl rfl rfl (Gives.assign rfl rfl) ?_
    refine Wl.nil ?_
    refine Wx.thenN (hK4 _ _ ?_)
    refine Wc.ret ?_
    refine Wx.thenR ?_
    refine Wx.ret [_, _, _] ⟨⟨_, rfl, res_blk hb4 Try.underlying28 rfl (by kernel_rfl)⟩, ⟨rfl, ⟨rfl, trivial⟩⟩⟩ ?_
    have he : incE' x most = 19 := by unfold incE'; rw [if_pos h10]
    exact IxR3.mk (x := zeroIx) rfl (inc_err he (by decide)).1 (inc_err he (by decide)).2 he.symm (IxV.zero _ _) hE
  · (first | replace h10 := of_decide_eq_false h10 | replace h10 := nd_false h10 | skip)
    refine Wc.skip ?_
    refine Wx.thenN (hK2 _ _ ?_)
    refine Wc.seq (fun K5 hK5 => ?_)
    refine Wc.keep [(1, _), (2, _), (4, _)] (.cons rfl (.cons rfl (.cons rfl (.nil)))) ?_
    refine Wc.region ?_
    refine Wl.val rfl rfl rfl (Gives.move rfl rfl) ?_
    refine Wl.val rfl rfl rfl (Gives.assign rfl rfl) ?_
    refine Wl.nil ?_
    refine Wx.thenN (hK5 _ _ ?_)
    refine Wc.joinC (ι := Int) [(1, _), (2, _), (4, _)] (fun v => [(7, .int .i64 v)]) (fun v wJ => v = incN x most ∧ Blk wJ b2 28 #[.int .i64 x.n, .int .i64 x.kind, .int .i64 x.attr, .int .i64 x.size, .slice pA pn pc, .slice aA an ac, .bool x.wr, .slice dA dn dc] ∧ Blk wJ b4 28 #[.int .i64 0, .int .i64 0, .int .i64 0, .int .i64 0, .slice none 0 0, .slice none 0 0, .bool false, .slice none 0 0] ∧ Ext w wJ) ?_ ?_ (.cons rfl (.cons rfl (.cons rfl (.nil))))
    · intro K6 hJ6
      refine Wc.seq (fun K7 hK7 => ?_)
      refine Wc.keep [(1, _), (2, _), (4, _), (7, _)] (.cons rfl (.cons rfl (.cons rfl (.cons rfl (.nil))))) ?_
      refine Wc.region ?_
      refine Wl.val rfl rfl rfl (Gives.fieldAt 6 rfl Try.underlying28 rfl (by kernel_rfl) rfl rfl) ?_
      refine Wl.val rfl rfl rfl (Gives.ldK rfl (by kernel_rfl) rfl hb2 rfl) ?_
      refine Wl.nil ?_
      refine Wx.thenN (hK7 _ _ ?_)
      refine Wc.cond _ rfl (fun h14 => ?_) (fun h14 => ?_)
      · (first | replace h14 := of_decide_eq_true h14 | replace h14 := nd_true h14 | skip)
        refine Wc.keep [(1, _), (2, _), (4, _)] (.cons rfl (.cons rfl (.cons rfl (.nil)))) ?_
        refine Wc.region ?_
        refine Wl.val rfl rfl rfl (Gives.ldW rfl (by kernel_rfl) rfl hb2 (by kernel_rfl)) ?_
        refine Wl.call rfl rfl rfl rfl Try.func25 rfl (by kernel_rfl) rfl (number_calls _ x pA pn pc aA an ac dA dn dc (hx.2.2.ext hE) hdn) ?_
        rintro x1 w11 ⟨rfl, hxa⟩
        refine ⟨_, rfl, ?_⟩
        replace hb2 := hb2.ext hxa
        replace hb4 := hb4.ext hxa
        replace hE := hE.trans hxa
        refine Wl.val rfl rfl rfl (Gives.assign rfl rfl) ?_
        refine Wl.nil ?_
        refine Wx.thenN ?_
        refine hJ6 (numS x.data) _ _ (.cons (by first | exact rfl | exact look_int rfl (by omega) | exact look_slice rfl (by omega)) (.cons rfl (.cons rfl (.cons rfl (.nil))))) ⟨by unfold incN; rw [if_pos h14], hb2, hb4, hE⟩
      · (first | replace h14 := of_decide_eq_false h14 | replace h14 := nd_false h14 | skip)
        refine Wc.skip ?_
        refine Wx.thenN ?_
        refine hJ6 most _ _ (.cons (by first | exact rfl | exact look_int rfl (by omega) | exact look_slice rfl (by omega)) (.cons rfl (.cons rfl (.cons rfl (.nil))))) ⟨by unfold incN; rw [if_neg (by simp [h14])], hb2, hb4, hE⟩
    intro v wJ hJ
    clear hb2 hb4 hE
    obtain ⟨hv, hb2, hb4, hE⟩ := hJ
    have hvb : -4611686018427387904 ≤ v ∧ v ≤ 9223372036854775807 := by rw [hv]; unfold incN; split <;> omega
    refine Wc.seq (fun K8 hK8 => ?_)
    refine Wc.seq (fun K9 hK9 => ?_)
    refine Wc.keep [(1, _), (2, _), (4, _), (7, _)] (.cons rfl (.cons rfl (.cons rfl (.cons rfl (.nil))))) ?_
    refine Wc.region ?_
    refine Wl.val rfl rfl rfl (Gives.move rfl rfl) ?_
    refine Wl.val rfl rfl rfl (Gives.geq rfl rfl rfl) ?_
    refine Wl.nil ?_
    refine Wx.thenN (hK9 _ _ ?_)
    refine Wc.cond _ rfl (fun h18 => ?_) (fun h18 => ?_)
    · (first | replace h18 := of_decide_eq_true h18 | replace h18 := nd_true h18 | skip)
      refine Wc.seq (fun K10 hK10 => ?_)
      refine Wc.keep [(4, _)] (.cons rfl (.nil)) ?_
      refine Wc.region ?_
      refine Wl.val rfl rfl rfl (Gives.buildS (pl := [(0, 1), (1, 1), (2, 1), (3, 1), (4, 1), (5, 1), (6, 1), (7, 1)]) (zv := (.agg #[(.int .i64 0), (.int .i64 0), (.int .i64 0), (.int .i64 0), (.slice none 0 0), (.slice none 0 0), (.bool false), (.slice none 0 0)])) rfl Try.underlying28 (by kernel_rfl) (by kernel_rfl) rfl rfl) ?_
      refine Wl.acts rfl rfl (Does.stL 8 rfl rfl rfl hb4 (by kernel_rfl) rfl rfl rfl) ?_
      rintro _ w7_1 ⟨hbn, hF7_1⟩
      replace hb2 := hb2.fr hF7_1 (by first | assumption | exact Ne.symm (by assumption))
      replace hE := Ext.over hE hF7_1 hg4
      replace hb4 := hbn
      clear hbn
      refine Wl.val rfl rfl rfl (Gives.assign rfl rfl) ?_
      refine Wl.val rfl rfl rfl (Gives.assign rfl rfl) ?_
      refine Wl.nil ?_
      refine Wx.thenN (hK10 _ _ ?_)
      refine Wc.ret ?_
      refine Wx.thenR ?_
      refine Wx.ret [_, _, _] ⟨⟨_, rfl, res_blk hb4 Try.underlying28 rfl (by kernel_rfl)⟩, ⟨rfl, ⟨rfl, trivial⟩⟩⟩ ?_
      have he : incE' x most = 31 := by unfold incE'; rw [if_neg (not_not_intro h10), ← hv, if_pos h18]
      exact IxR3.mk (x := zeroIx) rfl (inc_err he (by decide)).1 (inc_err he (by decide)).2 he.symm (IxV.zero _ _) hE
    · (first | replace h18 := of_decide_eq_false h18 | replace h18 := nd_false h18 | skip)
      refine Wc.skip ?_
      refine Wx.thenN (hK8 _ _ ?_)
      refine Wc.seq (fun K11 hK11 => ?_)
      refine Wc.keep [(1, _), (2, _), (4, _), (7, _)] (.cons rfl (.cons rfl (.cons rfl (.cons rfl (.nil))))) ?_
      refine Wc.region ?_
      refine Wl.val rfl rfl rfl (Gives.move rfl rfl) ?_
      refine Wl.val rfl rfl rfl (Gives.add rfl rfl rfl (by first | exact IntWalk.i64_in _ (by omega) | exact u64_in _ (by omega) | exact u32_in _ (by omega) | exact u8_in _ (by omega) | exact rfl)) ?_
      refine Wl.val rfl rfl rfl (Gives.assign rfl rfl) ?_
      refine Wl.nil ?_
      refine Wx.thenN (hK11 _ _ ?_)
      refine Wc.seq (fun K12 hK12 => ?_)
      refine Wc.keep [(1, _), (2, _), (4, _), (7, _)] (.cons rfl (.cons rfl (.cons rfl (.cons rfl (.nil))))) ?_
      refine Wc.region ?_
      refine Wl.val rfl rfl rfl (Gives.move rfl rfl) ?_
      refine Wl.call rfl rfl rfl rfl Try.func37 rfl (by kernel_rfl) rfl (uintR_calls (P := fun _ => True) _ none 0 0 [] (BV.nil_ _ _) (by omega) 8 (v + 1)) ?_
      rintro x2 w12 ⟨S, sn, sk, rfl, hO, hxb⟩
      refine ⟨_, rfl, ?_⟩
      have hD := hO.nb (ls := [b2, b4]) ⟨hb2.lt, hb4.lt, trivial⟩
      replace hb2 := hb2.ext hxb
      replace hb4 := hb4.ext hxb
      replace hE := hE.trans hxb
      refine Wl.val rfl rfl rfl (Gives.fieldAt 7 rfl Try.underlying28 rfl (by kernel_rfl) rfl rfl) ?_
      refine Wl.acts rfl rfl (Does.stC rfl rfl rfl hb2 (by kernel_rfl) (Nat.le_of_ble_eq_true rfl) rfl) ?_
      rintro _ w9_3 ⟨hbn, hF9_3⟩
      replace hb4 := hb4.fr hF9_3 (by first | assumption | exact Ne.symm (by assumption))
      replace hD := hD.fr (hF9_3.mono (fun k h => h.1))
      replace hE := Ext.over hE hF9_3 hg2
      replace hb2 := hbn
      clear hbn
      (try simp only [List.setIfInBounds_toArray, List.set_cons_zero, List.set_cons_succ, Nat.reduceAdd, Nat.zero_add] at hb2)
      refine Wl.val rfl rfl rfl (Gives.fieldAt 6 rfl Try.underlying28 rfl (by kernel_rfl) rfl rfl) ?_
      refine Wl.acts rfl rfl (Does.stC rfl rfl rfl hb2 (by kernel_rfl) (Nat.le_of_ble_eq_true rfl) rfl) ?_
      rintro _ w9_5 ⟨hbn, hF9_5⟩
      replace hb4 := hb4.fr hF9_5 (by first | assumption | exact Ne.symm (by assumption))
      replace hD := hD.fr (hF9_5.mono (fun k h => h.1))
      replace hE := Ext.over hE hF9_5 hg2
      replace hb2 := hbn
      clear hbn
      (try simp only [List.setIfInBounds_toArray, List.set_cons_zero, List.set_cons_succ, Nat.reduceAdd, Nat.zero_add] at hb2)
      refine Wl.nil ?_
      refine Wx.thenN (hK12 _ _ ?_)
      refine Wc.seq (fun K13 hK13 => ?_)
      refine Wc.keep [(1, _), (2, _), (4, _), (7, _)] (.cons rfl (.cons rfl (.cons rfl (.cons rfl (.nil))))) ?_
      refine Wc.region ?_
      refine Wl.val rfl rfl rfl (Gives.ldW rfl (by kernel_rfl) rfl hb2 (by kernel_rfl)) ?_
      refine Wl.val rfl rfl rfl (Gives.move rfl rfl) ?_
      refine Wl.val rfl rfl rfl (Gives.move rfl rfl) ?_
      refine Wl.val rfl rfl rfl (Gives.max rfl rfl rfl rfl) ?_
      refine Wl.acts rfl rfl (Does.stL 8 rfl rfl rfl hb4 (by kernel_rfl) rfl rfl rfl) ?_
      rintro _ w10_4 ⟨hbn, hF10_4⟩
      replace hb2 := hb2.fr hF10_4 (by first | assumption | exact Ne.symm (by assumption))
      replace hD := hD.fr (hF10_4.mono (fun k h => h.2.1))
      replace hE := Ext.over hE hF10_4 hg4
      replace hb4 := hbn
      clear hbn
      refine Wl.val rfl rfl rfl (Gives.assign rfl rfl) ?_
      refine Wl.val rfl rfl rfl (Gives.assign rfl rfl) ?_
      refine Wl.nil ?_
      refine Wx.thenN (hK13 _ _ ?_)
      refine Wc.ret ?_
      refine Wx.ret [_, _, _] ⟨⟨_, rfl, res_blk hb4 Try.underlying28 rfl (by kernel_rfl)⟩, ⟨rfl, ⟨rfl, trivial⟩⟩⟩ ?_
      have he : incE' x most = 0 := by unfold incE'; rw [if_neg (not_not_intro h10), ← hv, if_neg h18]
      have hi := inc_ok he
      rw [← hv] at hi
      exact IxR3.mk (x := { x with wr := true, data := uintS [] 8 (v + 1) }) rfl hi.1 hi.2 he.symm ⟨(hx.1.ext hE).mono (fun _ _ => trivial), (hx.2.1.ext hE).mono (fun _ _ => trivial), hD.mono (fun _ _ => trivial)⟩ hE
theorem incP_calls {P : Nat → Prop} (w : World) (x : Ix) (pA : Option Addr) (pn pc : Nat) (aA : Option Addr) (an ac : Nat) (dA : Option Addr) (dn dc : Nat) (hx : IxV w P x pA pn pc aA an ac dA dn dc) (hdn : dn ≤ 1000000) (most : Int) (hm : -4611686018427387904 ≤ most ∧ most ≤ 4611686018427387904) :
    Calls Try.prog 23 #[.agg #[.int .i64 x.n, .int .i64 x.kind, .int .i64 x.attr, .int .i64 x.size, .slice pA pn pc, .slice aA an ac, .bool x.wr, .slice dA dn dc], .int .i64 most] w (IxR3 w (incI' x most) (incV' x most) (incE' x most)) := by
  have hnl := numS_lo x.data
  refine calls_enter Try.func23 rfl Try.ntmps23 rfl ?_
  have hE : Ext w w := Ext.refl w
  refine Wc.seq (fun K1 hK1 => ?_)
  refine Wc.keep [(0, _), (1, _)] (.cons rfl (.cons rfl (.nil))) ?_
  refine Wc.region ?_
  refine Wl.does rfl rfl rfl (Does.boxA rfl rfl) ?_
  rintro _ w0_0 ⟨b2, rfl, hs2, hb2, hx0_0⟩
  have hg2 : w.heap.size ≤ b2 := Nat.le_trans hE.size hs2
  replace hE := hE.trans hx0_0
  refine Wl.does rfl rfl rfl (Does.alB (.agg #[(.int .i64 0), (.int .i64 0), (.int .i64 0), (.int .i64 0), (.slice none 0 0), (.slice none 0 0), (.bool false), (.slice none 0 0)]) rfl (by kernel_rfl) rfl) ?_
  rintro _ w0_1 ⟨b4, rfl, hs4, hb4, hx0_1⟩
  have hn2_4 : b2 ≠ b4 := hb2.ne hs4
  have hg4 : w.heap.size ≤ b4 := Nat.le_trans hE.size hs4
  replace hb2 := hb2.ext hx0_1
  replace hE := hE.trans hx0_1
  refine Wl.val rfl rfl rfl (Gives.assign rfl rfl) ?_
  refine Wl.val rfl rfl rfl (Gives.assign rfl rfl) ?_
  refine Wl.nil ?_
  refine Wx.thenN (hK1 _ _ ?_)
  refine Wc.seq (fun K2 hK2 => ?_)
  refine Wc.seq (fun K3 hK3 => ?_)
  refine Wc.keep [(1, _), (2, _), (4, _)] (.cons rfl (.cons rfl (.cons rfl (.nil)))) ?_
  refine Wc.region ?_
  refine Wl.val rfl rfl rfl (Gives.fieldAt 1 rfl Try.underlying28 rfl (by kernel_rfl) rfl rfl) ?_
  refine Wl.val rfl rfl rfl (Gives.ldK rfl (by kernel_rfl) rfl hb2 rfl) ?_
  refine Wl.val rfl rfl rfl (Gives.neq rfl rfl rfl) ?_
  refine Wl.nil ?_
  refine Wx.thenN (hK3 _ _ ?_)
  refine Wc.cond _ rfl (fun h10 => ?_) (fun h10 => ?_)
  · (first | replace h10 := of_decide_eq_true h10 | replace h10 := nd_true h10 | skip)
    refine Wc.seq (fun K4 hK4 => ?_)
    refine Wc.keep [(4, _)] (.cons rfl (.nil)) ?_
    refine Wc.region ?_
    refine Wl.val rfl rfl rfl (Gives.buildS (pl := [(0, 1), (1, 1), (2, 1), (3, 1), (4, 1), (5, 1), (6, 1), (7, 1)]) (zv := (.agg #[(.int .i64 0), (.int .i64 0), (.int .i64 0), (.int .i64 0), (.slice none 0 0), (.slice none 0 0), (.bool false), (.slice none 0 0)])) rfl Try.underlying28 (by kernel_rfl) (by kernel_rfl) rfl rfl) ?_
    refine Wl.acts rfl rfl (Does.stL 8 rfl rfl rfl hb4 (by kernel_rfl) rfl rfl rfl) ?_
    rintro _ w2_1 ⟨hbn, hF2_1⟩
    replace hb2 := hb2.fr hF2_1 (by first | assumption | exact Ne.symm (by assumption))
    replace hE := Ext.over hE hF2_1 hg4
    replace hb4 := hbn
    clear hbn
    refine Wl.val rfl rfl rfl (Gives.assign rfl rfl) ?_
    refine Wl.val rfl rfl rfl (Gives.assign rfl rfl) ?_
    refine Wl.nil ?_
    refine Wx.thenN (hK4 _ _ ?_)
    refine Wc.ret ?_
    refine Wx.thenR ?_
    refine Wx.ret [_, _, _] ⟨⟨_, rfl, res_blk hb4 Try.underlying28 rfl (by kernel_rfl)⟩, ⟨rfl, ⟨rfl, trivial⟩⟩⟩ ?_
    have he : incE' x most = 19 := by unfold incE'; rw [if_pos h10]
    exact IxR3.mk (x := zeroIx) rfl (inc_err he (by decide)).1 (inc_err he (by decide)).2 he.symm (IxV.zero _ _) hE
  · (first | replace h10 := of_decide_eq_false h10 | replace h10 := nd_false h10 | skip)
    refine Wc.skip ?_
    refine Wx.thenN (hK2 _ _ ?_)
    refine Wc.seq (fun K5 hK5 => ?_)
    refine Wc.keep [(1, _), (2, _), (4, _)] (.cons rfl (.cons rfl (.cons rfl (.nil)))) ?_
    refine Wc.region ?_
    refine Wl.val rfl rfl rfl (Gives.move rfl rfl) ?_
    refine Wl.val rfl rfl rfl (Gives.assign rfl rfl) ?_
    refine Wl.nil ?_
    refine Wx.thenN (hK5 _ _ ?_)
    refine Wc.joinC (ι := Int) [(1, _), (2, _), (4, _)] (fun v => [(7, .int .i64 v)]) (fun v wJ => v = incN x most ∧ Blk wJ b2 28 #[.int .i64 x.n, .int .i64 x.kind, .int .i64 x.attr, .int .i64 x.size, .slice pA pn pc, .slice aA an ac, .bool x.wr, .slice dA dn dc] ∧ Blk wJ b4 28 #[.int .i64 0, .int .i64 0, .int .i64 0, .int .i64 0, .slice none 0 0, .slice none 0 0, .bool false, .slice none 0 0] ∧ Ext w wJ) ?_ ?_ (.cons rfl (.cons rfl (.cons rfl (.nil))))
    · intro K6 hJ6
      refine Wc.seq (fun K7 hK7 => ?_)
      refine Wc.keep [(1, _), (2, _), (4, _), (7, _)] (.cons rfl (.cons rfl (.cons rfl (.cons rfl (.nil))))) ?_
      refine Wc.region ?_
      refine Wl.val rfl rfl rfl (Gives.fieldAt 6 rfl Try.underlying28 rfl (by kernel_rfl) rfl rfl) ?_
      refine Wl.val rfl rfl rfl (Gives.ldK rfl (by kernel_rfl) rfl hb2 rfl) ?_
      refine Wl.nil ?_
      refine Wx.thenN (hK7 _ _ ?_)
      refine Wc.cond _ rfl (fun h14 => ?_) (fun h14 => ?_)
      · (first | replace h14 := of_decide_eq_true h14 | replace h14 := nd_true h14 | skip)
        refine Wc.keep [(1, _), (2, _), (4, _)] (.cons rfl (.cons rfl (.cons rfl (.nil)))) ?_
        refine Wc.region ?_
        refine Wl.val rfl rfl rfl (Gives.fieldAt 7 rfl Try.underlying28 rfl (by kernel_rfl) rfl rfl) ?_
        refine Wl.val rfl rfl rfl (Gives.ldK rfl (by kernel_rfl) rfl hb2 rfl) ?_
        refine Wl.call rfl rfl rfl rfl Try.func34 rfl (by kernel_rfl) rfl (newP_rd _ dA dn dc x.data (hx.2.2.ext hE) (by omega)) ?_
        rintro x1 w11 ⟨g, A, n, c, rfl, hg, hRD, hxa⟩
        refine ⟨_, rfl, ?_⟩
        refine Wl.call rfl rfl rfl rfl Try.func35 rfl (by kernel_rfl) rfl (rUint_calls w11 g A n c x.data 0 0 8 hRD) ?_
        rintro x2 w12 ⟨v, r, rfl, hvr, hRD2, hFa⟩
        refine ⟨_, rfl, ?_⟩
        have hx2 := Ext.over hxa hFa hg
        replace hb2 := hb2.ext hx2
        replace hb4 := hb4.ext hx2
        replace hE := hE.trans hx2
        refine Wl.val rfl rfl rfl (Gives.assign rfl rfl) ?_
        refine Wl.nil ?_
        refine Wx.thenN ?_
        refine hJ6 v _ _ (.cons (by first | exact rfl | exact look_int rfl (by omega) | exact look_slice rfl (by omega)) (.cons rfl (.cons rfl (.cons rfl (.nil))))) ⟨by unfold incN; rw [if_pos h14, hvr.out.1]; rfl, hb2, hb4, hE⟩
      · (first | replace h14 := of_decide_eq_false h14 | replace h14 := nd_false h14 | skip)
        refine Wc.skip ?_
        refine Wx.thenN ?_
        refine hJ6 most _ _ (.cons (by first | exact rfl | exact look_int rfl (by omega) | exact look_slice rfl (by omega)) (.cons rfl (.cons rfl (.cons rfl (.nil))))) ⟨by unfold incN; rw [if_neg (by simp [h14])], hb2, hb4, hE⟩
    intro v wJ hJ
    clear hb2 hb4 hE
    obtain ⟨hv, hb2, hb4, hE⟩ := hJ
    have hvb : -4611686018427387904 ≤ v ∧ v ≤ 9223372036854775807 := by rw [hv]; unfold incN; split <;> omega
    refine Wc.seq (fun K8 hK8 => ?_)
    refine Wc.seq (fun K9 hK9 => ?_)
    refine Wc.keep [(1, _), (2, _), (4, _), (7, _)] (.cons rfl (.cons rfl (.cons rfl (.cons rfl (.nil))))) ?_
    refine Wc.region ?_
    refine Wl.val rfl rfl rfl (Gives.move rfl rfl) ?_
    refine Wl.val rfl rfl rfl (Gives.geq rfl rfl rfl) ?_
    refine Wl.nil ?_
    refine Wx.thenN (hK9 _ _ ?_)
    refine Wc.cond _ rfl (fun h18 => ?_) (fun h18 => ?_)
    · (first | replace h18 := of_decide_eq_true h18 | replace h18 := nd_true h18 | skip)
      refine Wc.seq (fun K10 hK10 => ?_)
      refine Wc.keep [(4, _)] (.cons rfl (.nil)) ?_
      refine Wc.region ?_
      refine Wl.val rfl rfl rfl (Gives.buildS (pl := [(0, 1), (1, 1), (2, 1), (3, 1), (4, 1), (5, 1), (6, 1), (7, 1)]) (zv := (.agg #[(.int .i64 0), (.int .i64 0), (.int .i64 0), (.int .i64 0), (.slice none 0 0), (.slice none 0 0), (.bool false), (.slice none 0 0)])) rfl Try.underlying28 (by kernel_rfl) (by kernel_rfl) rfl rfl) ?_
      refine Wl.acts rfl rfl (Does.stL 8 rfl rfl rfl hb4 (by kernel_rfl) rfl rfl rfl) ?_
      rintro _ w7_1 ⟨hbn, hF7_1⟩
      replace hb2 := hb2.fr hF7_1 (by first | assumption | exact Ne.symm (by assumption))
      replace hE := Ext.over hE hF7_1 hg4
      replace hb4 := hbn
      clear hbn
      refine Wl.val rfl rfl rfl (Gives.assign rfl rfl) ?_
      refine Wl.val rfl rfl rfl (Gives.assign rfl rfl) ?_
      refine Wl.nil ?_
      refine Wx.thenN (hK10 _ _ ?_)
      refine Wc.ret ?_
      refine Wx.thenR ?_
      refine Wx.ret [_, _, _] ⟨⟨_, rfl, res_blk hb4 Try.underlying28 rfl (by kernel_rfl)⟩, ⟨rfl, ⟨rfl, trivial⟩⟩⟩ ?_
      have he : incE' x most = 31 := by unfold incE'; rw [if_neg (not_not_intro h10), ← hv, if_pos h18]
      exact IxR3.mk (x := zeroIx) rfl (inc_err he (by decide)).1 (inc_err he (by decide)).2 he.symm (IxV.zero _ _) hE
    · (first | replace h18 := of_decide_eq_false h18 | replace h18 := nd_false h18 | skip)
      refine Wc.skip ?_
      refine Wx.thenN (hK8 _ _ ?_)
      refine Wc.seq (fun K11 hK11 => ?_)
      refine Wc.keep [(1, _), (2, _), (4, _), (7, _)] (.cons rfl (.cons rfl (.cons rfl (.cons rfl (.nil))))) ?_
      refine Wc.region ?_
      refine Wl.val rfl rfl rfl (Gives.move rfl rfl) ?_
      refine Wl.val rfl rfl rfl (Gives.add rfl rfl rfl (by first | exact IntWalk.i64_in _ (by omega) | exact u64_in _ (by omega) | exact u32_in _ (by omega) | exact u8_in _ (by omega) | exact rfl)) ?_
      refine Wl.val rfl rfl rfl (Gives.assign rfl rfl) ?_
      refine Wl.nil ?_
      refine Wx.thenN (hK11 _ _ ?_)
      refine Wc.seq (fun K12 hK12 => ?_)
      refine Wc.keep [(1, _), (2, _), (4, _), (7, _)] (.cons rfl (.cons rfl (.cons rfl (.cons rfl (.nil))))) ?_
      refine Wc.regionB (fun q => [0, 2, 3].contains q) [] (.read 0 (.read 1 (.read 4 (.read 5 (.read 6 (.call false 2 (.call true 3 (.call true 7 .tail .none) .none) .none)))))) 8 (by kernel_rfl) (by kernel_rfl) (by kernel_rfl) ?_
      intro w9 hR9
      replace hb2 := hb2.ext hR9.ext
      replace hb4 := hb4.ext hR9.ext
      replace hE := hE.trans hR9.ext
      have hO9_2 : Old w9.heap.size [] b2 := ⟨hb2.lt, trivial⟩
      have hO9_4 : Old w9.heap.size [] b4 := ⟨hb4.lt, trivial⟩
      have hX := Ext.refl w9
      refine RunE.readM rfl rfl rfl rfl rfl (fun wS hS => (Gives.ldW rfl (by kernel_rfl) rfl ((hb2.ext hX).fr hS hO9_2) (by kernel_rfl))) ?_
      refine RunE.read rfl rfl rfl rfl (fun wS _ => (Gives.move rfl rfl)) ?_
      refine RunE.read rfl rfl rfl rfl (fun wS _ => (Gives.move rfl rfl)) ?_
      refine RunE.read rfl rfl rfl rfl (fun wS _ => (Gives.move rfl rfl)) ?_
      refine RunE.read rfl rfl rfl rfl (fun wS _ => (Gives.max rfl rfl rfl rfl)) ?_
      refine RunE.turnC rfl rfl rfl rfl rfl Try.func36 rfl (by kernel_rfl) rfl (uint_calls (P := fun _ => True) _ none 0 0 [] (BV.nil_ _ _) (by omega) 8 (v + 1)) ?_ RunE.none
      rintro x3 w13 ⟨S, sn, sk, rfl, hO, hxb⟩
      refine ⟨_, rfl, ?_⟩
      have hD := hO.nb (ls := [b2, b4]) ⟨Nat.lt_of_lt_of_le hb2.lt hX.size, Nat.lt_of_lt_of_le hb4.lt hX.size, trivial⟩
      refine ⟨hxb.fr, ?_⟩
      replace hX := hX.trans hxb
      refine RunE.freeC rfl rfl rfl rfl rfl Try.func31 rfl (by kernel_rfl) rfl (writtenP_calls w13 x pA pn pc aA an ac dA dn dc S sn sk) ?_ RunE.none
      rintro x4 w14 ⟨rfl, hxc⟩
      refine ⟨_, rfl, ?_⟩
      replace hD := hD.ext hxc
      replace hX := hX.trans hxc
      replace hb2 := hb2.ext hX
      replace hb4 := hb4.ext hX
      replace hE := hE.trans hX
      refine RunE.freeN rfl rfl rfl (Does.stL 8 rfl rfl rfl hb4 (by kernel_rfl) rfl rfl rfl) ?_ RunE.none
      rintro _ w9_7 ⟨hbn, hF9_7⟩
      replace hb2 := hb2.fr hF9_7 (by first | assumption | exact Ne.symm (by assumption))
      replace hD := hD.fr (hF9_7.mono (fun k h => h.2.1))
      replace hE := Ext.over hE hF9_7 hg4
      replace hb4 := hbn
      clear hbn
      replace hX := Ext.refl w9_7
      refine RunE.tail rfl ?_
      replace hb2 := hb2.ext hX
      replace hb4 := hb4.ext hX
      replace hD := hD.ext hX
      replace hE := hE.trans hX
      refine Wl.val rfl rfl rfl (Gives.assign rfl rfl) ?_
      refine Wl.val rfl rfl rfl (Gives.assign rfl rfl) ?_
      refine Wl.nil ?_
      refine Wx.thenN (hK12 _ _ ?_)
      refine Wc.ret ?_
      refine Wx.ret [_, _, _] ⟨⟨_, rfl, res_blk hb4 Try.underlying28 rfl (by kernel_rfl)⟩, ⟨rfl, ⟨rfl, trivial⟩⟩⟩ ?_
      have he : incE' x most = 0 := by unfold incE'; rw [if_neg (not_not_intro h10), ← hv, if_neg h18]
      have hi := inc_ok he
      rw [← hv] at hi
      exact IxR3.mk (x := { x with wr := true, data := uintS [] 8 (v + 1) }) rfl hi.1 hi.2 he.symm ⟨(hx.1.ext hE).mono (fun _ _ => trivial), (hx.2.1.ext hE).mono (fun _ _ => trivial), hD.mono (fun _ _ => trivial)⟩ hE
end Go.Proofs.Ytdekjkcnfebfnaa
