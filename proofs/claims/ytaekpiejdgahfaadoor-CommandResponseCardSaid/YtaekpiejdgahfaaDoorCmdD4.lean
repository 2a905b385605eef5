/- Commands: Decode of the reference. -/
import Derived.Test.YtaekpiejdgahfaaDoorCmdD3
import Derived.Test.YtaekpiejdgahfaaDoorCmdL
namespace Go.Proofs.YtaekpiejdgahfaaDoor
set_option linter.all false
open Go.RowKit
theorem refuse_x (w : World) (g N : Nat) (A : Option Addr) (n c : Nat) (r : Rd) (is : Bool) (er : Int) (h : RDX 84 w g N A n c r) :
    Calls Tryd.prog 48 #[.pointer (some ⟨g, 0, none⟩), .bool is, .int .i64 er] w fun e w' => e = .returned (.tuple #[]) ∧ RDX 84 w' g N A n c (refuseS r is er) ∧ Fr (fun k => k ≠ g) w w' := by
  have hb := h.rd.1
  refine calls_enter Tryd.func48 rfl Tryd.ntmps48 rfl ?_
  refine Wc.seq (fun K1 hK1 => ?_)
  refine Wc.keep [(0, _), (1, _), (2, _)] (.cons rfl (.cons rfl (.cons rfl (.nil)))) ?_
  refine Wc.region ?_
  refine Wl.val rfl rfl rfl (Gives.move rfl rfl) ?_
  refine Wl.val rfl rfl rfl (Gives.nilCheck rfl rfl) ?_
  refine Wl.val rfl rfl rfl (Gives.fieldAt 2 rfl Tryd.underlying84 rfl (by kernel_rfl) rfl rfl) ?_
  refine Wl.val rfl rfl rfl (Gives.ldC rfl (by kernel_rfl) rfl ((hb.cell _).trans rfl)) ?_
  refine Wl.val rfl rfl rfl (Gives.eql rfl rfl rfl) ?_
  refine Wl.val rfl rfl rfl (Gives.move rfl rfl) ?_
  refine Wl.guard rfl rfl rfl (fun h11 => ?_) (fun h11 => ?_)
  · (first | replace h11 := of_decide_eq_true h11 | replace h11 := nd_true h11 | skip)
    refine Wl.val rfl rfl rfl (Gives.move rfl rfl) ?_
    refine Wl.val rfl rfl rfl (Gives.pickT rfl rfl rfl rfl) ?_
    refine Wl.nil ?_
    refine Wx.thenN (hK1 _ _ ?_)
    refine Wc.cond _ rfl (fun h13 => ?_) (fun h13 => ?_)
    · (first | replace h13 := of_decide_eq_true h13 | replace h13 := nd_true h13 | skip)
      refine Wc.keep [(0, _), (2, _)] (.cons rfl (.cons rfl (.nil))) ?_
      refine Wc.region ?_
      refine Wl.val rfl rfl rfl (Gives.move rfl rfl) ?_
      refine Wl.val rfl rfl rfl (Gives.move rfl rfl) ?_
      refine Wl.val rfl rfl rfl (Gives.nilCheck rfl rfl) ?_
      refine Wl.val rfl rfl rfl (Gives.fieldAt 2 rfl Tryd.underlying84 rfl (by kernel_rfl) rfl rfl) ?_
      refine Wl.acts rfl rfl (Does.stC (i := 0 + 2) rfl rfl rfl hb (by kernel_rfl) (Nat.le_of_ble_eq_true rfl) rfl) ?_
      rintro _ w1 ⟨hb1, hF1⟩
      refine Wl.nil ?_
      refine Wx.end_ [] trivial ?_
      refine ⟨rfl, ?_, hF1⟩
      rw [show is = true from h13, refuse_yes h11]
      exact h.next ⟨hb1, h.rd.2.1.fr hF1, h.rd.2.2⟩ rfl hF1
    · (first | replace h13 := of_decide_eq_false h13 | replace h13 := nd_false h13 | skip)
      refine Wc.skip ?_
      refine Wx.end_ [] trivial ?_
      exact ⟨rfl, by rw [refuse_no (Or.inr h13)]; exact h, Fr.refl _ _⟩
  · (first | replace h11 := of_decide_eq_false h11 | replace h11 := nd_false h11 | skip)
    refine Wl.pass rfl rfl rfl ?_
    refine Wl.val rfl rfl rfl (Gives.pickF rfl rfl rfl rfl) ?_
    refine Wl.nil ?_
    refine Wx.thenN (hK1 _ _ ?_)
    refine Wc.condF rfl rfl ?_
    refine Wc.skip ?_
    refine Wx.end_ [] trivial ?_
    exact ⟨rfl, by rw [refuse_no (Or.inl h11)]; exact h, Fr.refl _ _⟩
theorem blobU_stop {r : Rd} {most : Int} {j : Nat} : ∀ (k : Nat), j ≤ k → (blobU r most j).1.e ≠ 0 → (blobU r most k).1 = (blobU r most j).1
  | 0, h, _ => by obtain rfl : j = 0 := by omega
                  rfl
  | k + 1, h, he => by
    by_cases hj : j = k + 1
    · rw [hj]
    · have ih := blobU_stop k (by omega) he
      show (rdBlob (blobU r most k).1 most).1 = _
      rw [ih, rdBlob_stuck he]
set_option maxHeartbeats 2000000 in
set_option maxRecDepth 10000 in
theorem decodeR_calls {P : Nat → Prop} (w : World) (A : Option Addr) (n c : Nat) (l : List UInt8) (ha : BV w P A n c l) (hn : n ≤ 1000000) :
    Calls Tryd.prog 23 #[.slice A n c] w (ReqR w (decR l).1 (decR l).2) := by
  have hl := ha.len
  subst hl
  refine calls_enter Tryd.func23 rfl Tryd.ntmps23 rfl ?_
  have hE : Ext w w := Ext.refl w
  refine Wc.seq (fun K1 hK1 => ?_)
  refine Wc.keep [(0, _)] (.cons rfl (.nil)) ?_
  refine Wc.region ?_
  refine Wl.does rfl rfl rfl (Does.alB (.agg #[(.int .i64 0), (.slice none 0 0), (.slice none 0 0), (.slice none 0 0), (.slice none 0 0)]) rfl (by kernel_rfl) rfl) ?_
  rintro _ w0_0 ⟨b2, rfl, hs2, hb2, hx0_0⟩
  have hg2 : w.heap.size ≤ b2 := Nat.le_trans hE.size hs2
  replace hE := hE.trans hx0_0
  refine Wl.val rfl rfl rfl (Gives.assign rfl rfl) ?_
  refine Wl.nil ?_
  refine Wx.thenN (hK1 _ _ ?_)
  refine Wc.seq (fun K2 hK2 => ?_)
  refine Wc.seq (fun K3 hK3 => ?_)
  refine Wc.keep [(0, _), (2, _)] (.cons rfl (.cons rfl (.nil))) ?_
  refine Wc.region ?_
  refine Wl.val rfl rfl rfl (Gives.move rfl rfl) ?_
  refine Wl.val rfl rfl rfl (Gives.lenS rfl Tryd.underlying36 rfl) ?_
  refine Wl.val rfl rfl rfl (Gives.gtr rfl rfl rfl) ?_
  refine Wl.nil ?_
  refine Wx.thenN (hK3 _ _ ?_)
  refine Wc.cond _ rfl (fun h19 => ?_) (fun h19 => ?_)
  · (first | replace h19 := of_decide_eq_true h19 | replace h19 := nd_true h19 | skip)
    refine Wc.seq (fun K4 hK4 => ?_)
    refine Wc.keep [(2, _)] (.cons rfl (.nil)) ?_
    refine Wc.region ?_
    refine Wl.val rfl rfl rfl (Gives.buildS (pl := [(0, 1), (1, 1), (2, 1), (3, 1), (4, 1)]) (zv := (.agg #[(.int .i64 0), (.slice none 0 0), (.slice none 0 0), (.slice none 0 0), (.slice none 0 0)])) rfl Tryd.underlying33 (by kernel_rfl) (by kernel_rfl) rfl rfl) ?_
    refine Wl.acts rfl rfl (Does.stL 5 rfl rfl rfl hb2 (by kernel_rfl) rfl rfl rfl) ?_
    rintro _ w2_1 ⟨hbn, hF2_1⟩
    replace hE := Ext.over hE hF2_1 hg2
    replace hb2 := hbn
    clear hbn
    refine Wl.val rfl rfl rfl (Gives.assign rfl rfl) ?_
    refine Wl.nil ?_
    refine Wx.thenN (hK4 _ _ ?_)
    refine Wc.ret ?_
    refine Wx.thenR ?_
    refine Wx.ret [_, _] ⟨⟨_, rfl, res_blk hb2 Tryd.underlying33 rfl (by kernel_rfl)⟩, ⟨rfl, trivial⟩⟩ ?_
    exact ReqR.zero 4 (by unfold decR; rw [if_pos (by omega)]) (by unfold decR; rw [if_pos (by omega)]) hE
  · (first | replace h19 := of_decide_eq_false h19 | replace h19 := nd_false h19 | skip)
    refine Wc.skip ?_
    refine Wx.thenN (hK2 _ _ ?_)
    refine Wc.seq (fun K5 hK5 => ?_)
    refine Wc.keep [(0, _), (2, _)] (.cons rfl (.cons rfl (.nil))) ?_
    refine Wc.region ?_
    refine Wl.val rfl rfl rfl (Gives.move rfl rfl) ?_
    refine Wl.call rfl rfl rfl rfl Tryd.func47 rfl (by kernel_rfl) rfl ((newR_rd _ _ _ _ l (ha.ext hE) (by omega)).mono fun _ _ h => NewRd.x h) ?_
    rintro x3 w13 ⟨g, A', n', c', rfl, hg, hR, hx3⟩
    refine ⟨_, rfl, ?_⟩
    have hgg : w.heap.size ≤ g := Nat.le_trans hE.size hg
    have hn2g : b2 ≠ g := hb2.ne hg
    have h2g : b2 < g := Nat.lt_of_lt_of_le hb2.lt hg
    replace hb2 := hb2.ext hx3
    replace hE := hE.trans hx3
    generalize hNr : w13.heap.size = N0 at hR
    refine Wl.val rfl rfl rfl (Gives.assign rfl rfl) ?_
    refine Wl.nil ?_
    refine Wx.thenN (hK5 _ _ ?_)
    refine Wc.seq (fun K6 hK6 => ?_)
    refine Wc.keep [(0, _), (2, _), (4, _)] (.cons rfl (.cons rfl (.cons rfl (.nil)))) ?_
    refine Wc.region ?_
    refine Wl.val rfl rfl rfl (Gives.move rfl rfl) ?_
    refine Wl.val rfl rfl rfl (Gives.move rfl rfl) ?_
    refine Wl.val rfl rfl rfl (Gives.lenS rfl Tryd.underlying36 rfl) ?_
    refine Wl.val rfl rfl rfl (Gives.lss rfl rfl rfl) ?_
    refine Wl.call rfl rfl rfl rfl Tryd.func48 rfl (by kernel_rfl) rfl (refuse_x _ g N0 A' n' c' _ _ 2 hR) ?_
    rintro x4 w14 ⟨rfl, hR1, hF4⟩
    refine ⟨_, rfl, ?_⟩
    change RDX _ _ _ _ _ _ _ (hd1 l) at hR1
    replace hb2 := hb2.fr hF4 (by first | assumption | exact Ne.symm (by assumption))
    replace hE := Ext.over hE hF4 hgg
    refine Wl.nil ?_
    refine Wx.thenN (hK6 _ _ ?_)
    refine Wc.seq (fun K7 hK7 => ?_)
    refine Wc.keep [(0, _), (2, _), (4, _)] (.cons rfl (.cons rfl (.cons rfl (.nil)))) ?_
    refine Wc.region ?_
    refine Wl.val rfl rfl rfl (Gives.move rfl rfl) ?_
    refine Wl.call rfl rfl rfl rfl Tryd.func49 rfl (by kernel_rfl) rfl (sUint_x _ g N0 A' n' c' _ 2 hR1) ?_
    rintro x5 w15 ⟨rfl, hR2, hF5⟩
    refine ⟨_, rfl, ?_⟩
    replace hb2 := hb2.fr hF5 (by first | assumption | exact Ne.symm (by assumption))
    replace hE := Ext.over hE hF5 hgg
    refine Wl.val rfl rfl rfl (Gives.assign rfl rfl) ?_
    refine Wl.nil ?_
    refine Wx.thenN (hK7 _ _ ?_)
    refine Wc.seq (fun K8 hK8 => ?_)
    refine Wc.keep [(0, _), (2, _), (4, _), (5, _)] (.cons rfl (.cons rfl (.cons rfl (.cons rfl (.nil))))) ?_
    refine Wc.region ?_
    refine Wl.val rfl rfl rfl (Gives.move rfl rfl) ?_
    refine Wl.val rfl rfl rfl (Gives.move rfl rfl) ?_
    refine Wl.val rfl rfl rfl (Gives.neq rfl rfl rfl) ?_
    refine Wl.call rfl rfl rfl rfl Tryd.func48 rfl (by kernel_rfl) rfl (refuse_x _ g N0 A' n' c' _ _ 5 hR2) ?_
    rintro x6 w16 ⟨rfl, hR3, hF6⟩
    refine ⟨_, rfl, ?_⟩
    change RDX _ _ _ _ _ _ _ (hd3 l) at hR3
    replace hb2 := hb2.fr hF6 (by first | assumption | exact Ne.symm (by assumption))
    replace hE := Ext.over hE hF6 hgg
    refine Wl.nil ?_
    refine Wx.thenN (hK8 _ _ ?_)
    refine Wc.seq (fun K9 hK9 => ?_)
    refine Wc.keep [(0, _), (2, _), (4, _)] (.cons rfl (.cons rfl (.cons rfl (.nil)))) ?_
    refine Wc.region ?_
    refine Wl.val rfl rfl rfl (Gives.move rfl rfl) ?_
    refine Wl.call rfl rfl rfl rfl Tryd.func49 rfl (by kernel_rfl) rfl (sUint_x _ g N0 A' n' c' _ 2 hR3) ?_
    rintro x7 w17 ⟨rfl, hR4, hF7⟩
    refine ⟨_, rfl, ?_⟩
    replace hb2 := hb2.fr hF7 (by first | assumption | exact Ne.symm (by assumption))
    replace hE := Ext.over hE hF7 hgg
    refine Wl.val rfl rfl rfl (Gives.assign rfl rfl) ?_
    refine Wl.nil ?_
    refine Wx.thenN (hK9 _ _ ?_)
    refine Wc.seq (fun K10 hK10 => ?_)
    refine Wc.keep [(0, _), (2, _), (4, _), (6, _)] (.cons rfl (.cons rfl (.cons rfl (.cons rfl (.nil))))) ?_
    refine Wc.region ?_
    refine Wl.val rfl rfl rfl (Gives.move rfl rfl) ?_
    refine Wl.val rfl rfl rfl (Gives.move rfl rfl) ?_
    refine Wl.val rfl rfl rfl (Gives.move rfl rfl) ?_
    refine Wl.val rfl rfl rfl (Gives.lenS rfl Tryd.underlying36 rfl) ?_
    refine Wl.val rfl rfl rfl (Gives.gtr rfl rfl rfl) ?_
    refine Wl.call rfl rfl rfl rfl Tryd.func48 rfl (by kernel_rfl) rfl (refuse_x _ g N0 A' n' c' _ _ 2 hR4) ?_
    rintro x8 w18 ⟨rfl, hR5, hF8⟩
    refine ⟨_, rfl, ?_⟩
    change RDX _ _ _ _ _ _ _ (hd5 l) at hR5
    replace hb2 := hb2.fr hF8 (by first | assumption | exact Ne.symm (by assumption))
    replace hE := Ext.over hE hF8 hgg
    refine Wl.nil ?_
    refine Wx.thenN (hK10 _ _ ?_)
    refine Wc.seq (fun K11 hK11 => ?_)
    refine Wc.keep [(0, _), (2, _), (4, _), (6, _)] (.cons rfl (.cons rfl (.cons rfl (.cons rfl (.nil))))) ?_
    refine Wc.region ?_
    refine Wl.val rfl rfl rfl (Gives.move rfl rfl) ?_
    refine Wl.val rfl rfl rfl (Gives.move rfl rfl) ?_
    refine Wl.val rfl rfl rfl (Gives.move rfl rfl) ?_
    refine Wl.val rfl rfl rfl (Gives.lenS rfl Tryd.underlying36 rfl) ?_
    refine Wl.val rfl rfl rfl (Gives.lss rfl rfl rfl) ?_
    refine Wl.call rfl rfl rfl rfl Tryd.func48 rfl (by kernel_rfl) rfl (refuse_x _ g N0 A' n' c' _ _ 3 hR5) ?_
    rintro x9 w19 ⟨rfl, hR6, hF9⟩
    refine ⟨_, rfl, ?_⟩
    change RDX _ _ _ _ _ _ _ (hd6 l) at hR6
    replace hb2 := hb2.fr hF9 (by first | assumption | exact Ne.symm (by assumption))
    replace hE := Ext.over hE hF9 hgg
    refine Wl.nil ?_
    refine Wx.thenN (hK11 _ _ ?_)
    refine Wc.seq (fun K12 hK12 => ?_)
    refine Wc.keep [(2, _), (4, _)] (.cons rfl (.cons rfl (.nil))) ?_
    refine Wc.region ?_
    refine Wl.val rfl rfl rfl (Gives.move rfl rfl) ?_
    refine Wl.call rfl rfl rfl rfl Tryd.func49 rfl (by kernel_rfl) rfl (sUint_x _ g N0 A' n' c' _ 1 hR6) ?_
    rintro x10 w110 ⟨rfl, hR7, hF10⟩
    refine ⟨_, rfl, ?_⟩
    change RDX _ _ _ _ _ _ _ (hd7 l).1 at hR7
    replace hb2 := hb2.fr hF10 (by first | assumption | exact Ne.symm (by assumption))
    replace hE := Ext.over hE hF10 hgg
    have hcd : (rdUint (hd6 l) 1).2 = (hd7 l).2 := rfl
    rw [hcd]
    generalize hcd2 : (hd7 l).2 = code at *
    have hN0 : N0 ≤ w110.heap.size := by have := hF4.size; have := hF5.size; have := hF6.size; have := hF7.size; have := hF8.size; have := hF9.size; have := hF10.size; omega
    refine Wl.val rfl rfl rfl (Gives.buildS (pl := [(0, 1), (1, 1), (2, 1), (3, 1), (4, 1)]) (zv := (.agg #[(.int .i64 0), (.slice none 0 0), (.slice none 0 0), (.slice none 0 0), (.slice none 0 0)])) rfl Tryd.underlying33 (by kernel_rfl) (by kernel_rfl) rfl rfl) ?_
    refine Wl.does rfl rfl rfl (Does.alB (.agg #[(.int .i64 0), (.slice none 0 0), (.slice none 0 0), (.slice none 0 0), (.slice none 0 0)]) rfl (by kernel_rfl) rfl) ?_
    rintro _ w10_3 ⟨b7, rfl, hs7, hb7, hx10_3⟩
    have hn2_7 : b2 ≠ b7 := hb2.ne hs7
    have hg7 : w.heap.size ≤ b7 := Nat.le_trans hE.size hs7
    replace hb2 := hb2.ext hx10_3
    replace hE := hE.trans hx10_3
    refine Wl.acts rfl rfl (Does.stL 5 rfl rfl rfl hb7 (by kernel_rfl) rfl rfl rfl) ?_
    rintro _ w10_4 ⟨hbn, hF10_4⟩
    replace hb2 := hb2.fr hF10_4 (by first | assumption | exact Ne.symm (by assumption))
    replace hE := Ext.over hE hF10_4 hg7
    replace hb7 := hbn
    clear hbn
    have hR8 := ((hR7.ext hx10_3).fr hF10_4 (fun k hk => by omega)).up (show N0 ≤ b7 by omega)
    have hgN : g < b7 := hR8.lt
    have hn7g : b7 ≠ g := by omega
    refine Wl.nil ?_
    refine Wx.thenN (hK12 _ _ ?_)
    refine Wc.seq (fun K13 hK13 => ?_)
    refine Wc.keep [(2, _), (4, _), (7, _)] (.cons rfl (.cons rfl (.cons rfl (.nil)))) ?_
    refine Wc.region ?_
    refine Wl.val rfl rfl rfl (Gives.fieldAt 0 rfl Tryd.underlying33 rfl (by kernel_rfl) rfl rfl) ?_
    refine Wl.val rfl rfl rfl (Gives.ldK rfl (by kernel_rfl) rfl hb7 rfl) ?_
    refine Wl.call rfl rfl rfl rfl Tryd.func12 rfl (by kernel_rfl) rfl (shapeR_calls _ code) ?_
    rintro x2 w12 ⟨rfl, hx2⟩
    refine ⟨_, rfl, ?_⟩
    generalize hsq : shapeS code = s at *
    have hR9 := hR8.ext hx2
    have hbd := shape_bounds code
    rw [hsq] at hbd
    replace hb2 := hb2.ext hx2
    replace hb7 := hb7.ext hx2
    replace hE := hE.trans hx2
    have hlt7 : b7 < w12.heap.size := hb7.lt
    refine Wl.val rfl rfl rfl (Gives.move rfl rfl) ?_
    refine Wl.val rfl rfl rfl (Gives.extract rfl rfl rfl) ?_
    refine Wl.val rfl rfl rfl (Gives.extract rfl rfl rfl) ?_
    refine Wl.does rfl rfl rfl (Does.alB (.agg #[(.int .i64 0), (.int .i64 0), (.int .i64 0), (.int .i64 0)]) rfl (by kernel_rfl) rfl) ?_
    rintro _ w11_6 ⟨b8, rfl, hs8, hb8, hx11_6⟩
    have hn2_8 : b2 ≠ b8 := hb2.ne hs8
    have hn7_8 : b7 ≠ b8 := hb7.ne hs8
    have hg8 : w.heap.size ≤ b8 := Nat.le_trans hE.size hs8
    replace hb2 := hb2.ext hx11_6
    replace hb7 := hb7.ext hx11_6
    replace hE := hE.trans hx11_6
    refine Wl.acts rfl rfl (Does.stL 4 rfl rfl rfl hb8 (by kernel_rfl) rfl rfl rfl) ?_
    rintro _ w11_7 ⟨hbn, hF11_7⟩
    replace hb2 := hb2.fr hF11_7 (by first | assumption | exact Ne.symm (by assumption))
    replace hb7 := hb7.fr hF11_7 (by first | assumption | exact Ne.symm (by assumption))
    replace hE := Ext.over hE hF11_7 hg8
    replace hb8 := hbn
    clear hbn
    have hR10 := (hR9.ext hx11_6).fr hF11_7 (fun k hk => by omega)
    have hn8g : b8 ≠ g := by omega
    have h78 : b7 < b8 := by omega
    refine Wl.val rfl rfl rfl (Gives.assign rfl rfl) ?_
    refine Wl.nil ?_
    refine Wx.thenN (hK13 _ _ ?_)
    refine Wc.seq (fun K14 hK14 => ?_)
    refine Wc.keep [(2, _), (4, _), (7, _), (8, _), (9, _)] (.cons rfl (.cons rfl (.cons rfl (.cons rfl (.cons rfl (.nil)))))) ?_
    refine Wc.region ?_
    refine Wl.val rfl rfl rfl (Gives.move rfl rfl) ?_
    refine Wl.val rfl rfl rfl (Gives.move rfl rfl) ?_
    refine Wl.val rfl rfl rfl (Gives.not rfl rfl) ?_
    refine Wl.call rfl rfl rfl rfl Tryd.func48 rfl (by kernel_rfl) rfl (refuse_x _ g b7 A' n' c' _ _ 6 hR10) ?_
    rintro x12 w112 ⟨rfl, hR11, hF12⟩
    refine ⟨_, rfl, ?_⟩
    have hR12 : RDX 84 w112 g b7 A' n' c' (hd8 l) := by unfold hd8; rw [hcd2, hsq]; exact hR11
    replace hb2 := hb2.fr hF12 (by first | assumption | exact Ne.symm (by assumption))
    replace hb7 := hb7.fr hF12 (by first | assumption | exact Ne.symm (by assumption))
    replace hb8 := hb8.fr hF12 (by first | assumption | exact Ne.symm (by assumption))
    replace hE := Ext.over hE hF12 hgg
    refine Wl.nil ?_
    refine Wx.thenN (hK14 _ _ ?_)
    refine Wc.seq (fun K15 hK15 => ?_)
    refine Wc.seq (fun K16 hK16 => ?_)
    refine Wc.keep [(2, _), (4, _), (7, _), (8, _)] (.cons rfl (.cons rfl (.cons rfl (.cons rfl (.nil))))) ?_
    have hdec : decR l = (decQ s (hd8 l) code, decE s (hd8 l)) := by unfold decR; rw [if_neg (by omega), hcd2, hsq]
    generalize hr0 : hd8 l = r0 at *
    refine Wc.region ?_
    refine Wl.val rfl rfl rfl (Gives.assign rfl rfl) ?_
    refine Wl.nil ?_
    refine Wx.thenN (hK16 _ _ ?_)
    refine Wc.block ?_
    refine Wc.keep [(2, _), (4, _), (7, _), (8, _), (10, _)] (.cons rfl (.cons rfl (.cons rfl (.cons rfl (.cons rfl (.nil)))))) ?_
    refine Wc.loopC (ι := Nat × Option Addr × Nat) [(2, _), (4, _), (7, _), (8, _)] (fun | (i, _, _) => [(10, .int .i64 (i : Int))]) (fun | (i, B, c1), wr => i ≤ s.h.toNat ∧ RDX 84 wr g b7 A' n' c' (handU r0 i).1 ∧ OI wr (b8 + 1) B i c1 (handU r0 i).2 ∧ Blk wr b7 33 #[.int .i64 code, .slice B i c1, .slice none 0 0, .slice none 0 0, .slice none 0 0] ∧ Blk wr b8 25 #[.int .i64 s.h, .int .i64 s.a, .int .i64 s.i, .int .i64 s.b] ∧ Blk wr b2 33 #[.int .i64 0, .slice none 0 0, .slice none 0 0, .slice none 0 0, .slice none 0 0] ∧ Ext w wr) (fun | (i, _, _) => s.h.toNat - i) ((0, none, 0)) (.cons (by first | exact rfl | exact look_int rfl (by omega) | exact look_slice rfl (by omega)) (.cons rfl (.cons rfl (.cons rfl (.cons rfl (.nil)))))) (⟨Nat.zero_le _, hR12, OI.nil_ _ _, hb7, hb8, hb2, hE⟩) ?_
    intro ⟨i, B, c1⟩ wr1 hJ KL1 hKL1
    clear hb7 hb8 hb2 hE hR12
    obtain ⟨hi, hR, hI, hb7, hb8, hb2, hE⟩ := hJ
    refine Wc.seq (fun K17 hK17 => ?_)
    refine Wc.seq (fun K18 hK18 => ?_)
    refine Wc.keep [(2, _), (4, _), (7, _), (8, _), (10, _)] (.cons rfl (.cons rfl (.cons rfl (.cons rfl (.cons rfl (.nil)))))) ?_
    refine Wc.region ?_
    refine Wl.val rfl rfl rfl (Gives.move rfl rfl) ?_
    refine Wl.val rfl rfl rfl (Gives.ixA (i := 0) rfl Tryd.underlying25 (by kernel_rfl) rfl rfl rfl (by omega)) ?_
    refine Wl.val rfl rfl rfl (Gives.ldK rfl (by kernel_rfl) rfl hb8 rfl) ?_
    refine Wl.val rfl rfl rfl (Gives.lss rfl rfl rfl) ?_
    refine Wl.nil ?_
    refine Wx.thenN (hK18 _ _ ?_)
    refine Wc.cond _ rfl (fun h64 => ?_) (fun h64 => ?_)
    · (first | replace h64 := of_decide_eq_true h64 | replace h64 := nd_true h64 | skip)
      refine Wc.skip ?_
      refine Wx.thenN (hK17 _ _ ?_)
      refine Wc.seq (fun K19 hK19 => ?_)
      refine Wc.block ?_
      refine Wc.keep [(2, _), (4, _), (7, _), (8, _), (10, _)] (.cons rfl (.cons rfl (.cons rfl (.cons rfl (.cons rfl (.nil)))))) ?_
      refine Wc.regionB (fun q => [1, 3].contains q) [g] (.read 0 (.read 1 (.read 2 (.call false 3 (.call false 4 .tail .none) .none)))) 5 (by kernel_rfl) (by kernel_rfl) (by kernel_rfl) ?_
      intro w16 hR16
      replace hb2 := hb2.ext hR16.ext
      replace hb7 := hb7.ext hR16.ext
      replace hb8 := hb8.ext hR16.ext
      replace hE := hE.trans hR16.ext
      have hO16_2 : Old w16.heap.size [g] b2 := ⟨hb2.lt, ⟨by first | assumption | exact Ne.symm (by assumption), trivial⟩⟩
      have hO16_7 : Old w16.heap.size [g] b7 := ⟨hb7.lt, ⟨by first | assumption | exact Ne.symm (by assumption), trivial⟩⟩
      have hO16_8 : Old w16.heap.size [g] b8 := ⟨hb8.lt, ⟨by first | assumption | exact Ne.symm (by assumption), trivial⟩⟩
      have hX := Ext.refl w16
      replace hR := hR.ext hR16.ext
      replace hI := hI.ext hR16.ext
      refine RunE.read rfl rfl rfl rfl (fun wS _ => (Gives.fieldAt 1 rfl Tryd.underlying33 rfl (by kernel_rfl) rfl rfl)) ?_
      refine RunE.readM rfl rfl rfl rfl rfl (fun wS hS => (Gives.ldK rfl (by kernel_rfl) rfl ((hb7.ext hX).fr hS hO16_7) rfl)) ?_
      refine RunE.read rfl rfl rfl rfl (fun wS _ => (Gives.move rfl rfl)) ?_
      refine RunE.turnC rfl rfl rfl rfl rfl Tryd.func49 rfl (by kernel_rfl) rfl (sUint_x _ g b7 A' n' c' _ 2 hR) ?_ RunE.none
      rintro x1 w111 ⟨rfl, hR1, hF1⟩
      refine ⟨_, rfl, ?_⟩
      refine ⟨hF1.mono (fun k h => h.2.1), ?_⟩
      replace hb2 := (hb2.ext hX).fr hF1 (by first | assumption | exact Ne.symm (by assumption))
      replace hb7 := (hb7.ext hX).fr hF1 (by first | assumption | exact Ne.symm (by assumption))
      replace hb8 := (hb8.ext hX).fr hF1 (by first | assumption | exact Ne.symm (by assumption))
      replace hE := Ext.over (hE.trans hX) hF1 hgg
      replace hX := Ext.refl w111
      have hI1 := hI.fr hF1 (fun k hk => by omega)
      refine RunE.turn rfl rfl rfl rfl (Does.lit rfl Tryd.underlying29 infoI2 rfl rfl rfl rfl rfl) ?_ RunE.none
      rintro _ w112 ⟨g112, rfl, hs112, hk112, hx112⟩
      refine ⟨hx112.fr, ?_⟩
      replace hX := hX.trans hx112
      refine RunE.tail rfl ?_
      replace hb2 := hb2.ext hX
      replace hb7 := hb7.ext hX
      replace hb8 := hb8.ext hX
      replace hE := hE.trans hX
      refine Wl.does rfl rfl rfl (Does.appI rfl rfl rfl (hI1.ext hx112) hk112 (by omega) hb8.lt) ?_
      rintro _ w113 ⟨B', c2, rfl, hI2, hB113⟩
      replace hb2 := Blk.bel hb2 hB113 (by omega)
      replace hb7 := Blk.bel hb7 hB113 (by omega)
      replace hb8 := Blk.bel hb8 hB113 (by omega)
      replace hE := Ext.step hE hB113 (by omega)
      have hR2 := (hR1.ext hx112).fr (below_fr hB113) (fun k hk => by omega)
      refine Wl.val rfl rfl rfl (Gives.fieldAt 1 rfl Tryd.underlying33 rfl (by kernel_rfl) rfl rfl) ?_
      refine Wl.acts rfl rfl (Does.stC rfl rfl rfl hb7 (by kernel_rfl) (Nat.le_of_ble_eq_true rfl) rfl) ?_
      rintro _ w16_7 ⟨hbn, hF16_7⟩
      replace hb2 := hb2.fr hF16_7 (by first | assumption | exact Ne.symm (by assumption))
      replace hb8 := hb8.fr hF16_7 (by first | assumption | exact Ne.symm (by assumption))
      replace hE := Ext.over hE hF16_7 hg7
      replace hb7 := hbn
      clear hbn
      (try simp only [List.setIfInBounds_toArray, List.set_cons_zero, List.set_cons_succ, Nat.reduceAdd, Nat.zero_add] at hb7)
      replace hR2 := hR2.fr hF16_7 (fun k hk => by omega)
      replace hI2 := hI2.fr hF16_7 (fun k hk => by omega)
      refine Wl.nil ?_
      refine Wx.blockN ?_
      refine Wx.thenN (hK19 _ _ ?_)
      refine Wc.keep [(2, _), (4, _), (7, _), (8, _), (10, _)] (.cons rfl (.cons rfl (.cons rfl (.cons rfl (.cons rfl (.nil)))))) ?_
      refine Wc.region ?_
      refine Wl.val rfl rfl rfl (Gives.move rfl rfl) ?_
      refine Wl.val rfl rfl rfl (Gives.add rfl rfl rfl (by first | exact IntWalk.i64_in _ (by omega) | exact u64_in _ (by omega) | exact u32_in _ (by omega) | exact u8_in _ (by omega) | exact rfl)) ?_
      refine Wl.val rfl rfl rfl (Gives.assign rfl rfl) ?_
      refine Wl.nil ?_
      refine Wx.thenN ?_
      refine hKL1 (i + 1, B', c2) _ _ (.cons (by first | exact rfl | exact look_int rfl (by omega) | exact look_slice rfl (by omega)) (.cons rfl (.cons rfl (.cons rfl (.cons rfl (.nil)))))) ⟨by omega, hR2, hI2, hb7, hb8, hb2, hE⟩ (by show s.h.toNat - (i + 1) < s.h.toNat - i; omega)
    · (first | replace h64 := of_decide_eq_false h64 | replace h64 := nd_false h64 | skip)
      refine Wc.exit ?_
      refine Wx.thenE ?_
      refine Wx.thenE ?_
      refine Wx.hit ?_
      refine Wx.thenN (hK15 _ _ ?_)
      refine Wc.seq (fun K20 hK20 => ?_)
      refine Wc.seq (fun K21 hK21 => ?_)
      refine Wc.keep [(2, _), (4, _), (7, _), (8, _)] (.cons rfl (.cons rfl (.cons rfl (.cons rfl (.nil))))) ?_
      have hih : s.h.toNat = i := by omega
      clear hi
      have hH : IV wr1 (fun k => b7 < k ∧ k < wr1.heap.size) B i c1 (stH s r0).2 := by
        have h := hI.iv (P := fun k => b7 < k) (fun k hk => by omega)
        unfold stH
        rw [hih]
        exact Row.bd h
      have hR0 : RDX 84 wr1 g b7 A' n' c' (stH s r0).1 := by unfold stH; rw [hih]; exact hR
      clear hI hR
      have hN1 : b7 < wr1.heap.size := hb7.lt
      have hN8 : b8 < wr1.heap.size := hb8.lt
      generalize hBn : i = hcnt at *
      generalize hNw : wr1.heap.size = N2 at *
      have hK0 : Fr (fun k => k ≠ g ∧ k ≠ b7 ∧ k < N2) wr1 wr1 := Fr.refl _ _
      refine Wc.region ?_
      refine Wl.val rfl rfl rfl (Gives.assign rfl rfl) ?_
      refine Wl.nil ?_
      refine Wx.thenN (hK21 _ _ ?_)
      refine Wc.block ?_
      refine Wc.keep [(2, _), (4, _), (7, _), (8, _), (11, _)] (.cons rfl (.cons rfl (.cons rfl (.cons rfl (.cons rfl (.nil)))))) ?_
      refine Wc.loopC (ι := Nat × Option Addr × Nat) [(2, _), (4, _), (7, _), (8, _)] (fun | (i, _, _) => [(11, .int .i64 (i : Int))]) (fun | (i, B2, c2), wr => i ≤ s.a.toNat ∧ RDX 84 wr g b7 A' n' c' (authU (stH s r0).1 i).1 ∧ OAu wr (fun k => b7 < k) N2 B2 i c2 (authU (stH s r0).1 i).2 ∧ Fr (fun k => k ≠ g ∧ k ≠ b7 ∧ k < N2) wr1 wr ∧ Blk wr b7 33 #[.int .i64 code, .slice B hcnt c1, .slice B2 i c2, .slice none 0 0, .slice none 0 0] ∧ Blk wr b8 25 #[.int .i64 s.h, .int .i64 s.a, .int .i64 s.i, .int .i64 s.b] ∧ Blk wr b2 33 #[.int .i64 0, .slice none 0 0, .slice none 0 0, .slice none 0 0, .slice none 0 0] ∧ Ext w wr) (fun | (i, _, _) => s.a.toNat - i) ((0, none, 0)) (.cons (by first | exact rfl | exact look_int rfl (by omega) | exact look_slice rfl (by omega)) (.cons rfl (.cons rfl (.cons rfl (.cons rfl (.nil)))))) (⟨Nat.zero_le _, hR0, OAu.nil_ _ _ _, hK0, hb7, hb8, hb2, hE⟩) ?_
      intro ⟨i, B2, c2⟩ wr2 hJ KL2 hKL2
      clear hb7 hb8 hb2 hE hR0 hK0
      obtain ⟨hi, hR, hU, hK, hb7, hb8, hb2, hE⟩ := hJ
      have hNs : N2 ≤ wr2.heap.size := by rw [← hNw]; exact hK.size
      refine Wc.seq (fun K22 hK22 => ?_)
      refine Wc.seq (fun K23 hK23 => ?_)
      refine Wc.keep [(2, _), (4, _), (7, _), (8, _), (11, _)] (.cons rfl (.cons rfl (.cons rfl (.cons rfl (.cons rfl (.nil)))))) ?_
      refine Wc.region ?_
      refine Wl.val rfl rfl rfl (Gives.move rfl rfl) ?_
      refine Wl.val rfl rfl rfl (Gives.ixA (i := 1) rfl Tryd.underlying25 (by kernel_rfl) rfl rfl rfl (by omega)) ?_
      refine Wl.val rfl rfl rfl (Gives.ldK rfl (by kernel_rfl) rfl hb8 rfl) ?_
      refine Wl.val rfl rfl rfl (Gives.lss rfl rfl rfl) ?_
      refine Wl.nil ?_
      refine Wx.thenN (hK23 _ _ ?_)
      refine Wc.cond _ rfl (fun h77 => ?_) (fun h77 => ?_)
      · (first | replace h77 := of_decide_eq_true h77 | replace h77 := nd_true h77 | skip)
        refine Wc.skip ?_
        refine Wx.thenN (hK22 _ _ ?_)
        refine Wc.seq (fun K24 hK24 => ?_)
        refine Wc.block ?_
        refine Wc.seq (fun K25 hK25 => ?_)
        refine Wc.keep [(2, _), (4, _), (7, _), (8, _), (11, _)] (.cons rfl (.cons rfl (.cons rfl (.cons rfl (.cons rfl (.nil)))))) ?_
        refine Wc.region ?_
        refine Wl.val rfl rfl rfl (Gives.buildS (pl := [(0, 1), (1, 1), (2, 1)]) (zv := (.agg #[(.int .i64 0), (.slice none 0 0), (.slice none 0 0)])) rfl Tryd.underlying38 (by kernel_rfl) (by kernel_rfl) rfl rfl) ?_
        refine Wl.does rfl rfl rfl (Does.alB (.agg #[(.int .i64 0), (.slice none 0 0), (.slice none 0 0)]) rfl (by kernel_rfl) rfl) ?_
        rintro _ w20_1 ⟨b12, rfl, hs12, hb12, hx20_1⟩
        have hn2_12 : b2 ≠ b12 := hb2.ne hs12
        have hn7_12 : b7 ≠ b12 := hb7.ne hs12
        have hn8_12 : b8 ≠ b12 := hb8.ne hs12
        have hg12 : w.heap.size ≤ b12 := Nat.le_trans hE.size hs12
        replace hb2 := hb2.ext hx20_1
        replace hb7 := hb7.ext hx20_1
        replace hb8 := hb8.ext hx20_1
        replace hE := hE.trans hx20_1
        refine Wl.acts rfl rfl (Does.stL 3 rfl rfl rfl hb12 (by kernel_rfl) rfl rfl rfl) ?_
        rintro _ w20_2 ⟨hbn, hF20_2⟩
        replace hb2 := hb2.fr hF20_2 (by first | assumption | exact Ne.symm (by assumption))
        replace hb7 := hb7.fr hF20_2 (by first | assumption | exact Ne.symm (by assumption))
        replace hb8 := hb8.fr hF20_2 (by first | assumption | exact Ne.symm (by assumption))
        replace hE := Ext.over hE hF20_2 hg12
        replace hb12 := hbn
        clear hbn
        have hx20 := Ext.over hx20_1 hF20_2 hs12
        have hR1 := hR.ext hx20
        have hG1 : Fr (fun k => k ≠ g) wr2 w20_2 := hx20.fr
        have h12 : b7 < b12 := by omega
        have hn12g : b12 ≠ g := by omega
        have hlt12 : b12 < w20_2.heap.size := hb12.lt
        refine Wl.nil ?_
        refine Wx.thenN (hK25 _ _ ?_)
        refine Wc.seq (fun K26 hK26 => ?_)
        refine Wc.keep [(2, _), (4, _), (7, _), (8, _), (11, _), (12, _)] (.cons rfl (.cons rfl (.cons rfl (.cons rfl (.cons rfl (.cons rfl (.nil))))))) ?_
        refine Wc.region ?_
        refine Wl.val rfl rfl rfl (Gives.move rfl rfl) ?_
        refine Wl.call rfl rfl rfl rfl Tryd.func49 rfl (by kernel_rfl) rfl (sUint_x _ g b7 A' n' c' _ 2 hR1) ?_
        rintro x1 w151 ⟨rfl, hR2, hF1⟩
        refine ⟨_, rfl, ?_⟩
        replace hb2 := hb2.fr hF1 (by first | assumption | exact Ne.symm (by assumption))
        replace hb7 := hb7.fr hF1 (by first | assumption | exact Ne.symm (by assumption))
        replace hb8 := hb8.fr hF1 (by first | assumption | exact Ne.symm (by assumption))
        replace hb12 := hb12.fr hF1 (by first | assumption | exact Ne.symm (by assumption))
        replace hE := Ext.over hE hF1 hgg
        have hG2 := hG1.trans hF1
        refine Wl.val rfl rfl rfl (Gives.fieldAt 0 rfl Tryd.underlying38 rfl (by kernel_rfl) rfl rfl) ?_
        refine Wl.acts rfl rfl (Does.stC rfl rfl rfl hb12 (by kernel_rfl) (Nat.le_of_ble_eq_true rfl) rfl) ?_
        rintro _ w21_3 ⟨hbn, hF21_3⟩
        replace hb2 := hb2.fr hF21_3 (by first | assumption | exact Ne.symm (by assumption))
        replace hb7 := hb7.fr hF21_3 (by first | assumption | exact Ne.symm (by assumption))
        replace hb8 := hb8.fr hF21_3 (by first | assumption | exact Ne.symm (by assumption))
        replace hE := Ext.over hE hF21_3 hg12
        replace hb12 := hbn
        clear hbn
        (try simp only [List.setIfInBounds_toArray, List.set_cons_zero, List.set_cons_succ, Nat.reduceAdd, Nat.zero_add] at hb12)
        have hR3 := hR2.fr hF21_3 (fun k hk => by omega)
        have hG3 := Fr.over hG2 hF21_3 hs12
        have hlt12b : b12 < w21_3.heap.size := hb12.lt
        refine Wl.nil ?_
        refine Wx.thenN (hK26 _ _ ?_)
        refine Wc.seq (fun K27 hK27 => ?_)
        refine Wc.keep [(2, _), (4, _), (7, _), (8, _), (11, _), (12, _)] (.cons rfl (.cons rfl (.cons rfl (.cons rfl (.cons rfl (.cons rfl (.nil))))))) ?_
        refine Wc.region ?_
        refine Wl.val rfl rfl rfl (Gives.move rfl rfl) ?_
        refine Wl.call rfl rfl rfl rfl Tryd.func50 rfl (by kernel_rfl) rfl (sBlob_x _ g b7 A' n' c' _ 128 hR3) ?_
        rintro x2 w161 ⟨S1, m1, k1, rfl, hO1, hR4, hF3⟩
        refine ⟨_, rfl, ?_⟩
        replace hb2 := hb2.fr hF3 (by first | assumption | exact Ne.symm (by assumption))
        replace hb7 := hb7.fr hF3 (by first | assumption | exact Ne.symm (by assumption))
        replace hb8 := hb8.fr hF3 (by first | assumption | exact Ne.symm (by assumption))
        replace hb12 := hb12.fr hF3 (by first | assumption | exact Ne.symm (by assumption))
        replace hE := Ext.over hE hF3 hgg
        have hG4 := hG3.trans hF3
        have hA1 : BV w161 (fun k => b12 < k) S1 m1 k1 _ := hO1.bv (fun k hk => by omega)
        refine Wl.val rfl rfl rfl (Gives.fieldAt 1 rfl Tryd.underlying38 rfl (by kernel_rfl) rfl rfl) ?_
        refine Wl.acts rfl rfl (Does.stC rfl rfl rfl hb12 (by kernel_rfl) (Nat.le_of_ble_eq_true rfl) rfl) ?_
        rintro _ w22_3 ⟨hbn, hF22_3⟩
        replace hb2 := hb2.fr hF22_3 (by first | assumption | exact Ne.symm (by assumption))
        replace hb7 := hb7.fr hF22_3 (by first | assumption | exact Ne.symm (by assumption))
        replace hb8 := hb8.fr hF22_3 (by first | assumption | exact Ne.symm (by assumption))
        replace hE := Ext.over hE hF22_3 hg12
        replace hb12 := hbn
        clear hbn
        (try simp only [List.setIfInBounds_toArray, List.set_cons_zero, List.set_cons_succ, Nat.reduceAdd, Nat.zero_add] at hb12)
        have hR5 := hR4.fr hF22_3 (fun k hk => by omega)
        have hG5 := Fr.over hG4 hF22_3 hs12
        have hA2 := hA1.fr (hF22_3.mono (fun k hk => by omega))
        have hlt12c : b12 < w22_3.heap.size := hb12.lt
        refine Wl.nil ?_
        refine Wx.thenN (hK27 _ _ ?_)
        refine Wc.seq (fun K28 hK28 => ?_)
        refine Wc.keep [(2, _), (4, _), (7, _), (8, _), (11, _), (12, _)] (.cons rfl (.cons rfl (.cons rfl (.cons rfl (.cons rfl (.cons rfl (.nil))))))) ?_
        refine Wc.region ?_
        refine Wl.val rfl rfl rfl (Gives.move rfl rfl) ?_
        refine Wl.call rfl rfl rfl rfl Tryd.func50 rfl (by kernel_rfl) rfl (sBlob_x _ g b7 A' n' c' _ 128 hR5) ?_
        rintro x3 w171 ⟨S2, m2, k2, rfl, hO2, hR6, hF5⟩
        refine ⟨_, rfl, ?_⟩
        replace hb2 := hb2.fr hF5 (by first | assumption | exact Ne.symm (by assumption))
        replace hb7 := hb7.fr hF5 (by first | assumption | exact Ne.symm (by assumption))
        replace hb8 := hb8.fr hF5 (by first | assumption | exact Ne.symm (by assumption))
        replace hb12 := hb12.fr hF5 (by first | assumption | exact Ne.symm (by assumption))
        replace hE := Ext.over hE hF5 hgg
        have hG6 := hG5.trans hF5
        have hV1 : BV w171 (fun k => b12 < k) S2 m2 k2 _ := hO2.bv (fun k hk => by omega)
        have hA3 := hA2.fr (hF5.mono (fun k hk => by omega))
        refine Wl.val rfl rfl rfl (Gives.fieldAt 2 rfl Tryd.underlying38 rfl (by kernel_rfl) rfl rfl) ?_
        refine Wl.acts rfl rfl (Does.stC rfl rfl rfl hb12 (by kernel_rfl) (Nat.le_of_ble_eq_true rfl) rfl) ?_
        rintro _ w23_3 ⟨hbn, hF23_3⟩
        replace hb2 := hb2.fr hF23_3 (by first | assumption | exact Ne.symm (by assumption))
        replace hb7 := hb7.fr hF23_3 (by first | assumption | exact Ne.symm (by assumption))
        replace hb8 := hb8.fr hF23_3 (by first | assumption | exact Ne.symm (by assumption))
        replace hE := Ext.over hE hF23_3 hg12
        replace hb12 := hbn
        clear hbn
        (try simp only [List.setIfInBounds_toArray, List.set_cons_zero, List.set_cons_succ, Nat.reduceAdd, Nat.zero_add] at hb12)
        have hR7 := hR6.fr hF23_3 (fun k hk => by omega)
        have hG7 := Fr.over hG6 hF23_3 hs12
        have hA4 := hA3.fr (hF23_3.mono (fun k hk => by omega))
        have hV2 := hV1.fr (hF23_3.mono (fun k hk => by omega))
        have hU6 := hU.fr hG7 (fun k hk => by omega) (fun k hk => by omega)
        have hK6 := hK.trans (hG7.mono (fun k hk => hk.1))
        refine Wl.nil ?_
        refine Wx.thenN (hK28 _ _ ?_)
        refine Wc.keep [(2, _), (4, _), (7, _), (8, _), (11, _), (12, _)] (.cons rfl (.cons rfl (.cons rfl (.cons rfl (.cons rfl (.cons rfl (.nil))))))) ?_
        refine Wc.region ?_
        refine Wl.val rfl rfl rfl (Gives.fieldAt 2 rfl Tryd.underlying33 rfl (by kernel_rfl) rfl rfl) ?_
        refine Wl.val rfl rfl rfl (Gives.ldK rfl (by kernel_rfl) rfl hb7 rfl) ?_
        refine Wl.val rfl rfl rfl (Gives.ldW rfl (by kernel_rfl) rfl hb12 (by kernel_rfl)) ?_
        refine Wl.does rfl rfl rfl (Does.lit1 3 rfl Tryd.underlying30 infoU2 rfl rfl rfl) ?_
        rintro _ w183 ⟨g183, rfl, hs183, hk183, hx183⟩
        replace hb2 := hb2.ext hx183
        replace hb7 := hb7.ext hx183
        replace hb8 := hb8.ext hx183
        replace hb12 := hb12.ext hx183
        replace hE := hE.trans hx183
        obtain ⟨vs1, ho1⟩ := hU.own
        have hA5 : BV w183 (NOwn w183 (fun k => b7 < k) (.slice B2 i c2)) S1 m1 k1 _ := BV.nown ((hA4.ext hx183).mono (fun k hk => ⟨by omega, by omega⟩)) ho1 hs12
        have hV5 : BV w183 (NOwn w183 (fun k => b7 < k) (.slice B2 i c2)) S2 m2 k2 _ := BV.nown ((hV2.ext hx183).mono (fun k hk => ⟨by omega, by omega⟩)) ho1 hs12
        refine Wl.does rfl rfl rfl (Does.appU (a := (authR (authU (stH s r0).1 i).1).2) rfl rfl rfl (hU6.ext hx183) hk183 hA5 hV5 (by omega) (by have := hb12.lt; omega)) ?_
        rintro _ w184 ⟨B', c3, rfl, hU7, hB184⟩
        replace hb2 := Blk.bel hb2 hB184 (by omega)
        replace hb7 := Blk.bel hb7 hB184 (by omega)
        replace hb8 := Blk.bel hb8 hB184 (by omega)
        replace hE := Ext.step hE hB184 (by omega)
        have hR8 := (hR7.ext hx183).fr (below_fr hB184) (fun k hk => by omega)
        have hK7 := (hK6.trans hx183.fr).trans ((below_fr hB184).mono (fun k hk => hk.2.2))
        refine Wl.val rfl rfl rfl (Gives.fieldAt 2 rfl Tryd.underlying33 rfl (by kernel_rfl) rfl rfl) ?_
        refine Wl.acts rfl rfl (Does.stC rfl rfl rfl hb7 (by kernel_rfl) (Nat.le_of_ble_eq_true rfl) rfl) ?_
        rintro _ w24_6 ⟨hbn, hF24_6⟩
        replace hb2 := hb2.fr hF24_6 (by first | assumption | exact Ne.symm (by assumption))
        replace hb8 := hb8.fr hF24_6 (by first | assumption | exact Ne.symm (by assumption))
        replace hE := Ext.over hE hF24_6 hg7
        replace hb7 := hbn
        clear hbn
        (try simp only [List.setIfInBounds_toArray, List.set_cons_zero, List.set_cons_succ, Nat.reduceAdd, Nat.zero_add] at hb7)
        have hR9 := hR8.fr hF24_6 (fun k hk => by omega)
        have hU8 := hU7.fr hF24_6 (fun k hk => by omega) (fun k hk => by omega)
        have hK8 := hK7.trans (hF24_6.mono (fun k hk => hk.2.1))
        refine Wl.nil ?_
        refine Wx.blockN ?_
        refine Wx.thenN (hK24 _ _ ?_)
        refine Wc.keep [(2, _), (4, _), (7, _), (8, _), (11, _)] (.cons rfl (.cons rfl (.cons rfl (.cons rfl (.cons rfl (.nil)))))) ?_
        refine Wc.region ?_
        refine Wl.val rfl rfl rfl (Gives.move rfl rfl) ?_
        refine Wl.val rfl rfl rfl (Gives.add rfl rfl rfl (by first | exact IntWalk.i64_in _ (by omega) | exact u64_in _ (by omega) | exact u32_in _ (by omega) | exact u8_in _ (by omega) | exact rfl)) ?_
        refine Wl.val rfl rfl rfl (Gives.assign rfl rfl) ?_
        refine Wl.nil ?_
        refine Wx.thenN ?_
        refine hKL2 (i + 1, B', c3) _ _ (.cons (by first | exact rfl | exact look_int rfl (by omega) | exact look_slice rfl (by omega)) (.cons rfl (.cons rfl (.cons rfl (.cons rfl (.nil)))))) ⟨by omega, hR9, hU8, hK8, hb7, hb8, hb2, hE⟩ (by show s.a.toNat - (i + 1) < s.a.toNat - i; omega)
      · (first | replace h77 := of_decide_eq_false h77 | replace h77 := nd_false h77 | skip)
        refine Wc.exit ?_
        refine Wx.thenE ?_
        refine Wx.thenE ?_
        refine Wx.hit ?_
        refine Wx.thenN (hK20 _ _ ?_)
        refine Wc.seq (fun K29 hK29 => ?_)
        refine Wc.seq (fun K30 hK30 => ?_)
        refine Wc.keep [(2, _), (4, _), (7, _), (8, _)] (.cons rfl (.cons rfl (.cons rfl (.cons rfl (.nil))))) ?_
        have hia : s.a.toNat = i := by omega
        clear hi
        have hUv : AV wr2 (fun k => b7 < k ∧ k < wr2.heap.size) B2 i c2 (stU s r0).2 := by
          have h := hU.av (P := fun k => b7 < k) (fun k hk => by omega) (fun k hk => hk)
          unfold stU
          rw [hia]
          exact h.bd
        have hR0 : RDX 84 wr2 g b7 A' n' c' (stU s r0).1 := by unfold stU; rw [hia]; exact hR
        have hH2 := hH.keep hK hgN
        clear hU hR hK hH
        have hN2 : b7 < wr2.heap.size := hb7.lt
        have hN28 : b8 < wr2.heap.size := hb8.lt
        generalize hBn2 : i = acnt at *
        generalize hNw2 : wr2.heap.size = N3 at *
        have hK0 : Fr (fun k => k ≠ g ∧ k ≠ b7 ∧ k < N3) wr2 wr2 := Fr.refl _ _
        refine Wc.region ?_
        refine Wl.val rfl rfl rfl (Gives.assign rfl rfl) ?_
        refine Wl.nil ?_
        refine Wx.thenN (hK30 _ _ ?_)
        refine Wc.block ?_
        refine Wc.keep [(2, _), (4, _), (7, _), (8, _), (13, _)] (.cons rfl (.cons rfl (.cons rfl (.cons rfl (.cons rfl (.nil)))))) ?_
        refine Wc.loopC (ι := Nat × Option Addr × Nat) [(2, _), (4, _), (7, _), (8, _)] (fun | (i, _, _) => [(13, .int .i64 (i : Int))]) (fun | (i, B3, c3), wr => i ≤ s.i.toNat ∧ RDX 84 wr g b7 A' n' c' (intU (stU s r0).1 i).1 ∧ OI wr N3 B3 i c3 (intU (stU s r0).1 i).2 ∧ Fr (fun k => k ≠ g ∧ k ≠ b7 ∧ k < N3) wr2 wr ∧ Blk wr b7 33 #[.int .i64 code, .slice B hcnt c1, .slice B2 acnt c2, .slice B3 i c3, .slice none 0 0] ∧ Blk wr b8 25 #[.int .i64 s.h, .int .i64 s.a, .int .i64 s.i, .int .i64 s.b] ∧ Blk wr b2 33 #[.int .i64 0, .slice none 0 0, .slice none 0 0, .slice none 0 0, .slice none 0 0] ∧ Ext w wr) (fun | (i, _, _) => s.i.toNat - i) ((0, none, 0)) (.cons (by first | exact rfl | exact look_int rfl (by omega) | exact look_slice rfl (by omega)) (.cons rfl (.cons rfl (.cons rfl (.cons rfl (.nil)))))) (⟨Nat.zero_le _, hR0, OI.nil_ _ _, hK0, hb7, hb8, hb2, hE⟩) ?_
        intro ⟨i, B3, c3⟩ wr3 hJ KL3 hKL3
        clear hb7 hb8 hb2 hE hR0 hK0
        obtain ⟨hi, hR, hI, hK, hb7, hb8, hb2, hE⟩ := hJ
        have hNs3 : N3 ≤ wr3.heap.size := by rw [← hNw2]; exact hK.size
        refine Wc.seq (fun K31 hK31 => ?_)
        refine Wc.seq (fun K32 hK32 => ?_)
        refine Wc.keep [(2, _), (4, _), (7, _), (8, _), (13, _)] (.cons rfl (.cons rfl (.cons rfl (.cons rfl (.cons rfl (.nil)))))) ?_
        refine Wc.region ?_
        refine Wl.val rfl rfl rfl (Gives.move rfl rfl) ?_
        refine Wl.val rfl rfl rfl (Gives.ixA (i := 2) rfl Tryd.underlying25 (by kernel_rfl) rfl rfl rfl (by omega)) ?_
        refine Wl.val rfl rfl rfl (Gives.ldK rfl (by kernel_rfl) rfl hb8 rfl) ?_
        refine Wl.val rfl rfl rfl (Gives.lss rfl rfl rfl) ?_
        refine Wl.nil ?_
        refine Wx.thenN (hK32 _ _ ?_)
        refine Wc.cond _ rfl (fun h99 => ?_) (fun h99 => ?_)
        · (first | replace h99 := of_decide_eq_true h99 | replace h99 := nd_true h99 | skip)
          refine Wc.skip ?_
          refine Wx.thenN (hK31 _ _ ?_)
          refine Wc.seq (fun K33 hK33 => ?_)
          refine Wc.block ?_
          refine Wc.seq (fun K34 hK34 => ?_)
          refine Wc.keep [(2, _), (4, _), (7, _), (8, _), (13, _)] (.cons rfl (.cons rfl (.cons rfl (.cons rfl (.cons rfl (.nil)))))) ?_
          refine Wc.region ?_
          refine Wl.val rfl rfl rfl (Gives.move rfl rfl) ?_
          refine Wl.call rfl rfl rfl rfl Tryd.func49 rfl (by kernel_rfl) rfl (sUint_x _ g b7 A' n' c' _ 8 hR) ?_
          rintro x1 w221 ⟨rfl, hR1, hF1⟩
          refine ⟨_, rfl, ?_⟩
          replace hb2 := hb2.fr hF1 (by first | assumption | exact Ne.symm (by assumption))
          replace hb7 := hb7.fr hF1 (by first | assumption | exact Ne.symm (by assumption))
          replace hb8 := hb8.fr hF1 (by first | assumption | exact Ne.symm (by assumption))
          replace hE := Ext.over hE hF1 hgg
          have hI1 := hI.fr hF1 (fun k hk => by omega)
          have hK1 := hK.trans (hF1.mono (fun k hk => hk.1))
          refine Wl.val rfl rfl rfl (Gives.assign rfl rfl) ?_
          refine Wl.nil ?_
          refine Wx.thenN (hK34 _ _ ?_)
          refine Wc.seq (fun K35 hK35 => ?_)
          refine Wc.keep [(2, _), (4, _), (7, _), (8, _), (13, _), (14, _)] (.cons rfl (.cons rfl (.cons rfl (.cons rfl (.cons rfl (.cons rfl (.nil))))))) ?_
          refine Wc.region ?_
          refine Wl.val rfl rfl rfl (Gives.move rfl rfl) ?_
          refine Wl.val rfl rfl rfl (Gives.move rfl rfl) ?_
          refine Wl.val rfl rfl rfl (Gives.gtr rfl rfl rfl) ?_
          refine Wl.call rfl rfl rfl rfl Tryd.func48 rfl (by kernel_rfl) rfl (refuse_x _ g b7 A' n' c' _ _ 1 hR1) ?_
          rintro x2 w222 ⟨rfl, hR2, hF2⟩
          refine ⟨_, rfl, ?_⟩
          change RDX _ _ _ _ _ _ _ (intR (intU (stU s r0).1 i).1).1 at hR2
          replace hb2 := hb2.fr hF2 (by first | assumption | exact Ne.symm (by assumption))
          replace hb7 := hb7.fr hF2 (by first | assumption | exact Ne.symm (by assumption))
          replace hb8 := hb8.fr hF2 (by first | assumption | exact Ne.symm (by assumption))
          replace hE := Ext.over hE hF2 hgg
          have hI2 := hI1.fr hF2 (fun k hk => by omega)
          have hK2 := hK1.trans (hF2.mono (fun k hk => hk.1))
          have hs222 : N3 ≤ w222.heap.size := by have := hF1.size; have := hF2.size; omega
          refine Wl.nil ?_
          refine Wx.thenN (hK35 _ _ ?_)
          refine Wc.keep [(2, _), (4, _), (7, _), (8, _), (13, _), (14, _)] (.cons rfl (.cons rfl (.cons rfl (.cons rfl (.cons rfl (.cons rfl (.nil))))))) ?_
          refine Wc.region ?_
          refine Wl.val rfl rfl rfl (Gives.fieldAt 3 rfl Tryd.underlying33 rfl (by kernel_rfl) rfl rfl) ?_
          refine Wl.val rfl rfl rfl (Gives.ldK rfl (by kernel_rfl) rfl hb7 rfl) ?_
          refine Wl.val rfl rfl rfl (Gives.move rfl rfl) ?_
          refine Wl.does rfl rfl rfl (Does.lit rfl Tryd.underlying29 infoI2 rfl rfl rfl rfl rfl) ?_
          rintro _ w253 ⟨g253, rfl, hs253, hk253, hx253⟩
          replace hb2 := hb2.ext hx253
          replace hb7 := hb7.ext hx253
          replace hb8 := hb8.ext hx253
          replace hE := hE.trans hx253
          refine Wl.does rfl rfl rfl (Does.appI rfl rfl rfl (hI2.ext hx253) hk253 (by omega) (by have := hx253.size; omega)) ?_
          rintro _ w254 ⟨B', c4, rfl, hI3, hB254⟩
          replace hb2 := Blk.bel hb2 hB254 (by omega)
          replace hb7 := Blk.bel hb7 hB254 (by omega)
          replace hb8 := Blk.bel hb8 hB254 (by omega)
          replace hE := Ext.step hE hB254 (by omega)
          have hR3 := (hR2.ext hx253).fr (below_fr hB254) (fun k hk => by omega)
          have hK3 := (hK2.trans hx253.fr).trans ((below_fr hB254).mono (fun k hk => hk.2.2))
          refine Wl.val rfl rfl rfl (Gives.fieldAt 3 rfl Tryd.underlying33 rfl (by kernel_rfl) rfl rfl) ?_
          refine Wl.acts rfl rfl (Does.stC rfl rfl rfl hb7 (by kernel_rfl) (Nat.le_of_ble_eq_true rfl) rfl) ?_
          rintro _ w30_6 ⟨hbn, hF30_6⟩
          replace hb2 := hb2.fr hF30_6 (by first | assumption | exact Ne.symm (by assumption))
          replace hb8 := hb8.fr hF30_6 (by first | assumption | exact Ne.symm (by assumption))
          replace hE := Ext.over hE hF30_6 hg7
          replace hb7 := hbn
          clear hbn
          (try simp only [List.setIfInBounds_toArray, List.set_cons_zero, List.set_cons_succ, Nat.reduceAdd, Nat.zero_add] at hb7)
          have hR4 := hR3.fr hF30_6 (fun k hk => by omega)
          have hI4 := hI3.fr hF30_6 (fun k hk => by omega)
          have hK4 := hK3.trans (hF30_6.mono (fun k hk => hk.2.1))
          refine Wl.nil ?_
          refine Wx.blockN ?_
          refine Wx.thenN (hK33 _ _ ?_)
          refine Wc.keep [(2, _), (4, _), (7, _), (8, _), (13, _)] (.cons rfl (.cons rfl (.cons rfl (.cons rfl (.cons rfl (.nil)))))) ?_
          refine Wc.region ?_
          refine Wl.val rfl rfl rfl (Gives.move rfl rfl) ?_
          refine Wl.val rfl rfl rfl (Gives.add rfl rfl rfl (by first | exact IntWalk.i64_in _ (by omega) | exact u64_in _ (by omega) | exact u32_in _ (by omega) | exact u8_in _ (by omega) | exact rfl)) ?_
          refine Wl.val rfl rfl rfl (Gives.assign rfl rfl) ?_
          refine Wl.nil ?_
          refine Wx.thenN ?_
          refine hKL3 (i + 1, B', c4) _ _ (.cons (by first | exact rfl | exact look_int rfl (by omega) | exact look_slice rfl (by omega)) (.cons rfl (.cons rfl (.cons rfl (.cons rfl (.nil)))))) ⟨by omega, hR4, hI4, hK4, hb7, hb8, hb2, hE⟩ (by show s.i.toNat - (i + 1) < s.i.toNat - i; omega)
        · (first | replace h99 := of_decide_eq_false h99 | replace h99 := nd_false h99 | skip)
          refine Wc.exit ?_
          refine Wx.thenE ?_
          refine Wx.thenE ?_
          refine Wx.hit ?_
          refine Wx.thenN (hK29 _ _ ?_)
          refine Wc.seq (fun K36 hK36 => ?_)
          refine Wc.keep [(2, _), (4, _), (7, _), (8, _)] (.cons rfl (.cons rfl (.cons rfl (.cons rfl (.nil))))) ?_
          have hii : s.i.toNat = i := by omega
          clear hi
          have hIv : IV wr3 (fun k => b7 < k ∧ k < wr3.heap.size) B3 i c3 (stI s r0).2 := by
            have h := hI.iv (P := fun k => b7 < k) (fun k hk => by omega)
            unfold stI
            rw [hii]
            exact Row.bd h
          have hR0 : RDX 84 wr3 g b7 A' n' c' (stI s r0).1 := by unfold stI; rw [hii]; exact hR
          have hH3 := hH2.keep hK hgN
          have hU3 := hUv.keep hK hgN
          clear hI hR hK hH2 hUv
          have hN3 : b7 < wr3.heap.size := hb7.lt
          generalize hBn3 : i = icnt at *
          have hn0 := rdUint_lo (stI s r0).1 1
          have hn255 := rdUint1_hi (stI s r0).1
          change 0 ≤ (stN s r0).2 at hn0
          change (stN s r0).2 ≤ 255 at hn255
          refine Wc.region ?_
          refine Wl.val rfl rfl rfl (Gives.move rfl rfl) ?_
          refine Wl.call rfl rfl rfl rfl Tryd.func49 rfl (by kernel_rfl) rfl (sUint_x _ g b7 A' n' c' _ 1 hR0) ?_
          rintro x1 w271 ⟨rfl, hR1, hF1⟩
          refine ⟨_, rfl, ?_⟩
          change RDX _ _ _ _ _ _ _ (stN s r0).1 at hR1
          replace hb2 := hb2.fr hF1 (by first | assumption | exact Ne.symm (by assumption))
          replace hb7 := hb7.fr hF1 (by first | assumption | exact Ne.symm (by assumption))
          replace hb8 := hb8.fr hF1 (by first | assumption | exact Ne.symm (by assumption))
          replace hE := Ext.over hE hF1 hgg
          have hH4 := hH3.keep (g := g) (hF1.mono fun k hk => hk.1) hgN
          have hU4 := hU3.keep (g := g) (hF1.mono fun k hk => hk.1) hgN
          have hI4 := hIv.keep (g := g) (hF1.mono fun k hk => hk.1) hgN
          refine Wl.val rfl rfl rfl (Gives.assign rfl rfl) ?_
          refine Wl.nil ?_
          refine Wx.thenN (hK36 _ _ ?_)
          refine Wc.seq (fun K37 hK37 => ?_)
          refine Wc.keep [(2, _), (4, _), (6, _), (7, _), (8, _)] (.cons rfl (.cons rfl (.cons rfl (.cons rfl (.cons rfl (.nil)))))) ?_
          refine Wc.region ?_
          refine Wl.val rfl rfl rfl (Gives.move rfl rfl) ?_
          refine Wl.val rfl rfl rfl (Gives.ixA (i := 3) rfl Tryd.underlying25 (by kernel_rfl) rfl rfl rfl (by omega)) ?_
          refine Wl.val rfl rfl rfl (Gives.ldK rfl (by kernel_rfl) rfl hb8 rfl) ?_
          refine Wl.val rfl rfl rfl (Gives.move rfl rfl) ?_
          refine Wl.val rfl rfl rfl (Gives.call rfl Tryd.func36 rfl (by kernel_rfl) rfl (fits_calls _ _ _)) ?_
          refine Wl.val rfl rfl rfl (Gives.not rfl rfl) ?_
          refine Wl.call rfl rfl rfl rfl Tryd.func48 rfl (by kernel_rfl) rfl (refuse_x _ g b7 A' n' c' _ _ 1 hR1) ?_
          rintro x2 w326 ⟨rfl, hR2, hF2⟩
          refine ⟨_, rfl, ?_⟩
          change RDX _ _ _ _ _ _ _ (stR s r0) at hR2
          replace hb2 := hb2.fr hF2 (by first | assumption | exact Ne.symm (by assumption))
          replace hb7 := hb7.fr hF2 (by first | assumption | exact Ne.symm (by assumption))
          replace hb8 := hb8.fr hF2 (by first | assumption | exact Ne.symm (by assumption))
          replace hE := Ext.over hE hF2 hgg
          replace hH4 := hH4.keep (g := g) (hF2.mono fun k hk => hk.1) hgN
          replace hU4 := hU4.keep (g := g) (hF2.mono fun k hk => hk.1) hgN
          replace hI4 := hI4.keep (g := g) (hF2.mono fun k hk => hk.1) hgN
          refine Wl.nil ?_
          refine Wx.thenN (hK37 _ _ ?_)
          refine Wc.seq (fun K38 hK38 => ?_)
          refine Wc.seq (fun K39 hK39 => ?_)
          refine Wc.keep [(2, _), (4, _), (6, _), (7, _)] (.cons rfl (.cons rfl (.cons rfl (.cons rfl (.nil))))) ?_
          have hN4 : b7 < w326.heap.size := hb7.lt
          have hN48 : b8 < w326.heap.size := hb8.lt
          generalize hwr4 : w326 = wr4 at *
          generalize hNw4 : wr4.heap.size = N4 at *
          have hK0 : Fr (fun k => k ≠ g ∧ k ≠ b7 ∧ k < N4) wr4 wr4 := Fr.refl _ _
          generalize hcntN : (stN s r0).2 = nb at *
          have hcnt2 : (rdUint (stI s r0).1 1).2 = nb := hcntN
          rw [hcnt2]
          refine Wc.region ?_
          refine Wl.val rfl rfl rfl (Gives.assign rfl rfl) ?_
          refine Wl.nil ?_
          refine Wx.thenN (hK39 _ _ ?_)
          refine Wc.block ?_
          refine Wc.keep [(2, _), (4, _), (6, _), (7, _), (15, _)] (.cons rfl (.cons rfl (.cons rfl (.cons rfl (.cons rfl (.nil)))))) ?_
          refine Wc.loopC (ι := Nat × Option Addr × Nat) [(2, _), (4, _), (6, _), (7, _)] (fun | (i, _, _) => [(15, .int .i64 (i : Int))]) (fun | (i, B4, c4), wr => i ≤ nb.toNat ∧ RDX 84 wr g b7 A' n' c' (blobU (stR s r0) 1024 i).1 ∧ OL wr (fun k => b7 < k) N4 B4 i c4 (blobU (stR s r0) 1024 i).2 ∧ Fr (fun k => k ≠ g ∧ k ≠ b7 ∧ k < N4) wr4 wr ∧ Blk wr b7 33 #[.int .i64 code, .slice B hcnt c1, .slice B2 acnt c2, .slice B3 icnt c3, .slice B4 i c4] ∧ Blk wr b2 33 #[.int .i64 0, .slice none 0 0, .slice none 0 0, .slice none 0 0, .slice none 0 0] ∧ Ext w wr) (fun | (i, _, _) => nb.toNat - i) ((0, none, 0)) (.cons (by first | exact rfl | exact look_int rfl (by omega) | exact look_slice rfl (by omega)) (.cons rfl (.cons rfl (.cons rfl (.cons rfl (.nil)))))) (⟨Nat.zero_le _, hR2, OL.nil_ _ _ _, hK0, hb7, hb2, hE⟩) ?_
          intro ⟨i, B4, c4⟩ wr5 hJ KL4 hKL4
          clear hb7 hb8 hb2 hE hR2 hK0
          obtain ⟨hi, hR, hL, hK, hb7, hb2, hE⟩ := hJ
          have hNs4 : N4 ≤ wr5.heap.size := by rw [← hNw4]; exact hK.size
          refine Wc.seq (fun K40 hK40 => ?_)
          refine Wc.seq (fun K41 hK41 => ?_)
          refine Wc.keep [(2, _), (4, _), (6, _), (7, _), (15, _)] (.cons rfl (.cons rfl (.cons rfl (.cons rfl (.cons rfl (.nil)))))) ?_
          refine Wc.region ?_
          refine Wl.val rfl rfl rfl (Gives.move rfl rfl) ?_
          refine Wl.val rfl rfl rfl (Gives.move rfl rfl) ?_
          refine Wl.val rfl rfl rfl (Gives.lss rfl rfl rfl) ?_
          refine Wl.val rfl rfl rfl (Gives.move rfl rfl) ?_
          refine Wl.guard rfl rfl rfl (fun h126 => ?_) (fun h126 => ?_)
          · (first | replace h126 := of_decide_eq_true h126 | replace h126 := nd_true h126 | skip)
            refine Wl.val rfl rfl rfl (Gives.move rfl rfl) ?_
            refine Wl.val rfl rfl rfl (Gives.nilCheck rfl rfl) ?_
            refine Wl.val rfl rfl rfl (Gives.fieldAt 2 rfl Tryd.underlying84 rfl (by kernel_rfl) rfl rfl) ?_
            refine Wl.val rfl rfl rfl (Gives.ldC rfl (by kernel_rfl) rfl ((hR.rd.1.cell _).trans rfl)) ?_
            refine Wl.val rfl rfl rfl (Gives.eql rfl rfl rfl) ?_
            refine Wl.val rfl rfl rfl (Gives.pickT rfl rfl rfl rfl) ?_
            refine Wl.nil ?_
            refine Wx.thenN (hK41 _ _ ?_)
            refine Wc.cond _ rfl (fun h132 => ?_) (fun h132 => ?_)
            · (first | replace h132 := of_decide_eq_true h132 | replace h132 := nd_true h132 | skip)
              refine Wc.skip ?_
              refine Wx.thenN (hK40 _ _ ?_)
              refine Wc.seq (fun K42 hK42 => ?_)
              refine Wc.block ?_
              refine Wc.keep [(2, _), (4, _), (6, _), (7, _), (15, _)] (.cons rfl (.cons rfl (.cons rfl (.cons rfl (.cons rfl (.nil)))))) ?_
              refine Wc.regionB (fun q => [1, 3].contains q) [g] (.read 0 (.read 1 (.read 2 (.call false 3 (.call false 4 .tail .none) .none)))) 5 (by kernel_rfl) (by kernel_rfl) (by kernel_rfl) ?_
              intro w36 hR36
              replace hb2 := hb2.ext hR36.ext
              replace hb7 := hb7.ext hR36.ext
              replace hE := hE.trans hR36.ext
              have hO36_2 : Old w36.heap.size [g] b2 := ⟨hb2.lt, ⟨by first | assumption | exact Ne.symm (by assumption), trivial⟩⟩
              have hO36_7 : Old w36.heap.size [g] b7 := ⟨hb7.lt, ⟨by first | assumption | exact Ne.symm (by assumption), trivial⟩⟩
              have hX := Ext.refl w36
              replace hR := hR.ext hR36.ext
              replace hL := hL.ext hR36.ext
              replace hK := hK.trans hR36.ext.fr
              have hs32 : N4 ≤ w36.heap.size := Nat.le_trans hNs4 hR36.ext.size
              refine RunE.read rfl rfl rfl rfl (fun wS _ => (Gives.fieldAt 4 rfl Tryd.underlying33 rfl (by kernel_rfl) rfl rfl)) ?_
              refine RunE.readM rfl rfl rfl rfl rfl (fun wS hS => (Gives.ldK rfl (by kernel_rfl) rfl ((hb7.ext hX).fr hS hO36_7) rfl)) ?_
              refine RunE.read rfl rfl rfl rfl (fun wS _ => (Gives.move rfl rfl)) ?_
              refine RunE.turnC rfl rfl rfl rfl rfl Tryd.func50 rfl (by kernel_rfl) rfl (sBlob_x _ g b7 A' n' c' _ 1024 hR) ?_ RunE.none
              rintro x1 w321 ⟨S1, m1, k1, rfl, hO1, hR1, hF1⟩
              refine ⟨_, rfl, ?_⟩
              refine ⟨hF1.mono (fun k h => h.2.1), ?_⟩
              replace hb2 := (hb2.ext hX).fr hF1 (by first | assumption | exact Ne.symm (by assumption))
              replace hb7 := (hb7.ext hX).fr hF1 (by first | assumption | exact Ne.symm (by assumption))
              replace hE := Ext.over (hE.trans hX) hF1 hgg
              replace hX := Ext.refl w321
              have hL1 := hL.fr hF1 (fun k hk => by omega) (fun k hk => by omega)
              have hK1 := hK.trans (hF1.mono (fun k hk => hk.1))
              have hs321 := hF1.size
              refine RunE.turn rfl rfl rfl rfl (Does.lit rfl Tryd.underlying31 infoL2 rfl rfl rfl rfl rfl) ?_ RunE.none
              rintro _ w322 ⟨g322, rfl, hs322, hk322, hx322⟩
              refine ⟨hx322.fr, ?_⟩
              replace hX := hX.trans hx322
              obtain ⟨vs1, ho1⟩ := hL.own
              have hC1 : BV w321 (fun k => b7 < k ∧ w36.heap.size ≤ k) S1 m1 k1 _ := hO1.bv (fun k hk => ⟨by omega, hk⟩)
              have hC2 : BV w322 (NOwn w322 (fun k => b7 < k) (.slice B4 i c4)) S1 m1 k1 _ := BV.nown (hC1.ext hx322) ho1 (Nat.le_refl _)
              have hs322b := hx322.size
              refine RunE.tail rfl ?_
              replace hb2 := hb2.ext hX
              replace hb7 := hb7.ext hX
              replace hE := hE.trans hX
              refine Wl.does rfl rfl rfl (Does.appL rfl rfl rfl (hL1.ext hx322) hk322 hC2 (by omega) (by omega)) ?_
              rintro _ w323 ⟨B', c5, rfl, hL2, hB323⟩
              replace hb2 := Blk.bel hb2 hB323 (by omega)
              replace hb7 := Blk.bel hb7 hB323 (by omega)
              replace hE := Ext.step hE hB323 (by omega)
              have hR2 := (hR1.ext hx322).fr (below_fr hB323) (fun k hk => by omega)
              have hK2 := (hK1.trans hx322.fr).trans ((below_fr hB323).mono (fun k hk => hk.2.2))
              refine Wl.val rfl rfl rfl (Gives.fieldAt 4 rfl Tryd.underlying33 rfl (by kernel_rfl) rfl rfl) ?_
              refine Wl.acts rfl rfl (Does.stC rfl rfl rfl hb7 (by kernel_rfl) (Nat.le_of_ble_eq_true rfl) rfl) ?_
              rintro _ w36_7 ⟨hbn, hF36_7⟩
              replace hb2 := hb2.fr hF36_7 (by first | assumption | exact Ne.symm (by assumption))
              replace hE := Ext.over hE hF36_7 hg7
              replace hb7 := hbn
              clear hbn
              (try simp only [List.setIfInBounds_toArray, List.set_cons_zero, List.set_cons_succ, Nat.reduceAdd, Nat.zero_add] at hb7)
              have hR3 := hR2.fr hF36_7 (fun k hk => by omega)
              have hL3 := hL2.fr hF36_7 (fun k hk => by omega) (fun k hk => by omega)
              have hK3 := hK2.trans (hF36_7.mono (fun k hk => hk.2.1))
              refine Wl.nil ?_
              refine Wx.blockN ?_
              refine Wx.thenN (hK42 _ _ ?_)
              refine Wc.keep [(2, _), (4, _), (6, _), (7, _), (15, _)] (.cons rfl (.cons rfl (.cons rfl (.cons rfl (.cons rfl (.nil)))))) ?_
              refine Wc.region ?_
              refine Wl.val rfl rfl rfl (Gives.move rfl rfl) ?_
              refine Wl.val rfl rfl rfl (Gives.add rfl rfl rfl (by first | exact IntWalk.i64_in _ (by omega) | exact u64_in _ (by omega) | exact u32_in _ (by omega) | exact u8_in _ (by omega) | exact rfl)) ?_
              refine Wl.val rfl rfl rfl (Gives.assign rfl rfl) ?_
              refine Wl.nil ?_
              refine Wx.thenN ?_
              refine hKL4 (i + 1, B', c5) _ _ (.cons (by first | exact rfl | exact look_int rfl (by omega) | exact look_slice rfl (by omega)) (.cons rfl (.cons rfl (.cons rfl (.cons rfl (.nil)))))) ⟨by omega, hR3, hL3, hK3, hb7, hb2, hE⟩ (by show nb.toNat - (i + 1) < nb.toNat - i; omega)
            · (first | replace h132 := of_decide_eq_false h132 | replace h132 := nd_false h132 | skip)
              refine Wc.exit ?_
              refine Wx.thenE ?_
              refine Wx.thenE ?_
              refine Wx.hit ?_
              refine Wx.thenN (hK38 _ _ ?_)
              refine Wc.seq (fun K43 hK43 => ?_)
              refine Wc.seq (fun K44 hK44 => ?_)
              refine Wc.keep [(2, _), (4, _), (7, _)] (.cons rfl (.cons rfl (.cons rfl (.nil)))) ?_
              have hst : (stB s r0).1 = (blobU (stR s r0) 1024 i).1 ∧ (decE s r0 = 0 → nb.toNat = i) := by
                unfold decE stB
                rw [hcntN]
                first
                  | (have hh : nb.toNat = i := by omega
                     rw [hh]; exact ⟨rfl, fun _ => rfl⟩)
                  | (have hh := blobU_stop (r := stR s r0) (most := 1024) nb.toNat hi h132
                     rw [hh]; exact ⟨rfl, fun h => by rw [end_stuck h132] at h; exact absurd h h132⟩)
              obtain ⟨hst, hib⟩ := hst
              have hB5 : BL wr5 (fun k => b7 < k ∧ k < wr5.heap.size) B4 i c4 (blobU (stR s r0) 1024 i).2 := (hL.bl (P := fun k => b7 < k) (fun k hk => by omega) (fun k hk => hk)).bd
              have hRE : RDX 84 wr5 g b7 A' n' c' (stB s r0).1 := by rw [hst]; exact hR
              have hH5 := hH4.keep hK hgN
              have hU5 := hU4.keep hK hgN
              have hI5 := hI4.keep hK hgN
              clear hL hR hK hH4 hU4 hI4
              refine Wc.region ?_
              refine Wl.val rfl rfl rfl (Gives.move rfl rfl) ?_
              refine Wl.call rfl rfl rfl rfl Tryd.func51 rfl (by kernel_rfl) rfl (sEnd_x _ g b7 A' n' c' _ hRE) ?_
              rintro x1 w341 ⟨rfl, hQ34⟩
              refine ⟨_, rfl, ?_⟩
              have hx34 := hQ34.ext
              replace hB5 := hB5.ext hx34
              replace hH5 := hH5.ext hx34
              replace hU5 := hU5.ext hx34
              replace hI5 := hI5.ext hx34
              replace hb2 := hb2.ext hx34
              replace hb7 := hb7.ext hx34
              replace hE := hE.trans hx34
              refine Wl.val rfl rfl rfl (Gives.assign rfl rfl) ?_
              refine Wl.nil ?_
              refine Wx.thenN (hK44 _ _ ?_)
              refine Wc.seq (fun K45 hK45 => ?_)
              refine Wc.keep [(2, _), (7, _), (16, _)] (.cons rfl (.cons rfl (.cons rfl (.nil)))) ?_
              refine Wc.region ?_
              refine Wl.val rfl rfl rfl (Gives.move rfl rfl) ?_
              refine Wl.val rfl rfl rfl (Gives.neq rfl rfl rfl) ?_
              refine Wl.nil ?_
              refine Wx.thenN (hK45 _ _ ?_)
              refine Wc.cond _ rfl (fun h118 => ?_) (fun h118 => ?_)
              · (first | replace h118 := of_decide_eq_true h118 | replace h118 := nd_true h118 | skip)
                refine Wc.seq (fun K46 hK46 => ?_)
                refine Wc.keep [(2, _), (16, _)] (.cons rfl (.cons rfl (.nil))) ?_
                refine Wc.region ?_
                refine Wl.val rfl rfl rfl (Gives.buildS (pl := [(0, 1), (1, 1), (2, 1), (3, 1), (4, 1)]) (zv := (.agg #[(.int .i64 0), (.slice none 0 0), (.slice none 0 0), (.slice none 0 0), (.slice none 0 0)])) rfl Tryd.underlying33 (by kernel_rfl) (by kernel_rfl) rfl rfl) ?_
                refine Wl.val rfl rfl rfl (Gives.move rfl rfl) ?_
                refine Wl.acts rfl rfl (Does.stL 5 rfl rfl rfl hb2 (by kernel_rfl) rfl rfl rfl) ?_
                rintro _ w39_2 ⟨hbn, hF39_2⟩
                replace hb7 := hb7.fr hF39_2 (by first | assumption | exact Ne.symm (by assumption))
                replace hE := Ext.over hE hF39_2 hg2
                replace hb2 := hbn
                clear hbn
                refine Wl.val rfl rfl rfl (Gives.assign rfl rfl) ?_
                refine Wl.nil ?_
                refine Wx.thenN (hK46 _ _ ?_)
                refine Wc.ret ?_
                refine Wx.thenR ?_
                refine Wx.ret [_, _] ⟨⟨_, rfl, res_blk hb2 Tryd.underlying33 rfl (by kernel_rfl)⟩, ⟨rfl, trivial⟩⟩ ?_
                have h1 : decE s r0 ≠ 0 := h118
                exact ReqR.zero (decE s r0) (by rw [hdec]; exact decQ_zero h1) (by rw [hdec]) hE
              · (first | replace h118 := of_decide_eq_false h118 | replace h118 := nd_false h118 | skip)
                refine Wc.skip ?_
                refine Wx.thenN (hK43 _ _ ?_)
                refine Wc.seq (fun K47 hK47 => ?_)
                refine Wc.keep [(2, _), (7, _)] (.cons rfl (.cons rfl (.nil))) ?_
                refine Wc.region ?_
                refine Wl.val rfl rfl rfl (Gives.ldW rfl (by kernel_rfl) rfl hb7 (by kernel_rfl)) ?_
                refine Wl.acts rfl rfl (Does.stL 5 rfl rfl rfl hb2 (by kernel_rfl) rfl rfl rfl) ?_
                rintro _ w40_1 ⟨hbn, hF40_1⟩
                replace hb7 := hb7.fr hF40_1 (by first | assumption | exact Ne.symm (by assumption))
                replace hE := Ext.over hE hF40_1 hg2
                replace hb2 := hbn
                clear hbn
                refine Wl.val rfl rfl rfl (Gives.assign rfl rfl) ?_
                refine Wl.nil ?_
                refine Wx.thenN (hK47 _ _ ?_)
                refine Wc.ret ?_
                refine Wx.ret [_, _] ⟨⟨_, rfl, res_blk hb2 Tryd.underlying33 rfl (by kernel_rfl)⟩, ⟨rfl, trivial⟩⟩ ?_
                have h1 : decE s r0 = 0 := h118
                have hq : decQ s r0 code = ⟨code, (stH s r0).2, (stU s r0).2, (stI s r0).2, (stB s r0).2⟩ := by unfold decQ; rw [if_pos h1]
                have hsB : (stB s r0).2 = (blobU (stR s r0) 1024 i).2 := by unfold stB; rw [hcntN, hib h1]
                refine ⟨⟨B, hcnt, c1, B2, acnt, c2, B3, icnt, c3, B4, i, c4⟩, by rw [hdec, h1, hq]; rfl, ?_, hE⟩
                rw [hdec, hq, hsB]
                exact ⟨(hH5.fr (hF40_1.mono (fun k hk => by omega))).mono (fun _ _ => trivial), (hU5.fr (hF40_1.mono (fun k hk => by omega))).mono (fun _ _ => trivial), (hI5.fr (hF40_1.mono (fun k hk => by omega))).mono (fun _ _ => trivial), (hB5.fr (hF40_1.mono (fun k hk => by omega))).mono (fun _ _ => trivial)⟩
          · (first | replace h126 := of_decide_eq_false h126 | replace h126 := nd_false h126 | skip)
            refine Wl.pass rfl rfl rfl ?_
            refine Wl.pass rfl rfl rfl ?_
            refine Wl.pass rfl rfl rfl ?_
            refine Wl.pass rfl rfl rfl ?_
            refine Wl.pass rfl rfl rfl ?_
            refine Wl.val rfl rfl rfl (Gives.pickF rfl rfl rfl rfl) ?_
            refine Wl.nil ?_
            refine Wx.thenN (hK41 _ _ ?_)
            refine Wc.condF rfl rfl ?_
            refine Wc.exit ?_
            refine Wx.thenE ?_
            refine Wx.thenE ?_
            refine Wx.hit ?_
            refine Wx.thenN (hK38 _ _ ?_)
            refine Wc.seq (fun K48 hK48 => ?_)
            refine Wc.seq (fun K49 hK49 => ?_)
            refine Wc.keep [(2, _), (4, _), (7, _)] (.cons rfl (.cons rfl (.cons rfl (.nil)))) ?_
            have hst : (stB s r0).1 = (blobU (stR s r0) 1024 i).1 ∧ (decE s r0 = 0 → nb.toNat = i) := by
              unfold decE stB
              rw [hcntN]
              first
                | (have hh : nb.toNat = i := by omega
                   rw [hh]; exact ⟨rfl, fun _ => rfl⟩)
                | (have hh := blobU_stop (r := stR s r0) (most := 1024) nb.toNat hi h132
                   rw [hh]; exact ⟨rfl, fun h => by rw [end_stuck h132] at h; exact absurd h h132⟩)
            obtain ⟨hst, hib⟩ := hst
            have hB5 : BL wr5 (fun k => b7 < k ∧ k < wr5.heap.size) B4 i c4 (blobU (stR s r0) 1024 i).2 := (hL.bl (P := fun k => b7 < k) (fun k hk => by omega) (fun k hk => hk)).bd
            have hRE : RDX 84 wr5 g b7 A' n' c' (stB s r0).1 := by rw [hst]; exact hR
            have hH5 := hH4.keep hK hgN
            have hU5 := hU4.keep hK hgN
            have hI5 := hI4.keep hK hgN
            clear hL hR hK hH4 hU4 hI4
            refine Wc.region ?_
            refine Wl.val rfl rfl rfl (Gives.move rfl rfl) ?_
            refine Wl.call rfl rfl rfl rfl Tryd.func51 rfl (by kernel_rfl) rfl (sEnd_x _ g b7 A' n' c' _ hRE) ?_
            rintro x1 w341 ⟨rfl, hQ34⟩
            refine ⟨_, rfl, ?_⟩
            have hx34 := hQ34.ext
            replace hB5 := hB5.ext hx34
            replace hH5 := hH5.ext hx34
            replace hU5 := hU5.ext hx34
            replace hI5 := hI5.ext hx34
            replace hb2 := hb2.ext hx34
            replace hb7 := hb7.ext hx34
            replace hE := hE.trans hx34
            refine Wl.val rfl rfl rfl (Gives.assign rfl rfl) ?_
            refine Wl.nil ?_
            refine Wx.thenN (hK49 _ _ ?_)
            refine Wc.seq (fun K50 hK50 => ?_)
            refine Wc.keep [(2, _), (7, _), (16, _)] (.cons rfl (.cons rfl (.cons rfl (.nil)))) ?_
            refine Wc.region ?_
            refine Wl.val rfl rfl rfl (Gives.move rfl rfl) ?_
            refine Wl.val rfl rfl rfl (Gives.neq rfl rfl rfl) ?_
            refine Wl.nil ?_
            refine Wx.thenN (hK50 _ _ ?_)
            refine Wc.cond _ rfl (fun h118 => ?_) (fun h118 => ?_)
            · (first | replace h118 := of_decide_eq_true h118 | replace h118 := nd_true h118 | skip)
              refine Wc.seq (fun K51 hK51 => ?_)
              refine Wc.keep [(2, _), (16, _)] (.cons rfl (.cons rfl (.nil))) ?_
              refine Wc.region ?_
              refine Wl.val rfl rfl rfl (Gives.buildS (pl := [(0, 1), (1, 1), (2, 1), (3, 1), (4, 1)]) (zv := (.agg #[(.int .i64 0), (.slice none 0 0), (.slice none 0 0), (.slice none 0 0), (.slice none 0 0)])) rfl Tryd.underlying33 (by kernel_rfl) (by kernel_rfl) rfl rfl) ?_
              refine Wl.val rfl rfl rfl (Gives.move rfl rfl) ?_
              refine Wl.acts rfl rfl (Does.stL 5 rfl rfl rfl hb2 (by kernel_rfl) rfl rfl rfl) ?_
              rintro _ w39_2 ⟨hbn, hF39_2⟩
              replace hb7 := hb7.fr hF39_2 (by first | assumption | exact Ne.symm (by assumption))
              replace hE := Ext.over hE hF39_2 hg2
              replace hb2 := hbn
              clear hbn
              refine Wl.val rfl rfl rfl (Gives.assign rfl rfl) ?_
              refine Wl.nil ?_
              refine Wx.thenN (hK51 _ _ ?_)
              refine Wc.ret ?_
              refine Wx.thenR ?_
              refine Wx.ret [_, _] ⟨⟨_, rfl, res_blk hb2 Tryd.underlying33 rfl (by kernel_rfl)⟩, ⟨rfl, trivial⟩⟩ ?_
              have h1 : decE s r0 ≠ 0 := h118
              exact ReqR.zero (decE s r0) (by rw [hdec]; exact decQ_zero h1) (by rw [hdec]) hE
            · (first | replace h118 := of_decide_eq_false h118 | replace h118 := nd_false h118 | skip)
              refine Wc.skip ?_
              refine Wx.thenN (hK48 _ _ ?_)
              refine Wc.seq (fun K52 hK52 => ?_)
              refine Wc.keep [(2, _), (7, _)] (.cons rfl (.cons rfl (.nil))) ?_
              refine Wc.region ?_
              refine Wl.val rfl rfl rfl (Gives.ldW rfl (by kernel_rfl) rfl hb7 (by kernel_rfl)) ?_
              refine Wl.acts rfl rfl (Does.stL 5 rfl rfl rfl hb2 (by kernel_rfl) rfl rfl rfl) ?_
              rintro _ w40_1 ⟨hbn, hF40_1⟩
              replace hb7 := hb7.fr hF40_1 (by first | assumption | exact Ne.symm (by assumption))
              replace hE := Ext.over hE hF40_1 hg2
              replace hb2 := hbn
              clear hbn
              refine Wl.val rfl rfl rfl (Gives.assign rfl rfl) ?_
              refine Wl.nil ?_
              refine Wx.thenN (hK52 _ _ ?_)
              refine Wc.ret ?_
              refine Wx.ret [_, _] ⟨⟨_, rfl, res_blk hb2 Tryd.underlying33 rfl (by kernel_rfl)⟩, ⟨rfl, trivial⟩⟩ ?_
              have h1 : decE s r0 = 0 := h118
              have hq : decQ s r0 code = ⟨code, (stH s r0).2, (stU s r0).2, (stI s r0).2, (stB s r0).2⟩ := by unfold decQ; rw [if_pos h1]
              have hsB : (stB s r0).2 = (blobU (stR s r0) 1024 i).2 := by unfold stB; rw [hcntN, hib h1]
              refine ⟨⟨B, hcnt, c1, B2, acnt, c2, B3, icnt, c3, B4, i, c4⟩, by rw [hdec, h1, hq]; rfl, ?_, hE⟩
              rw [hdec, hq, hsB]
              exact ⟨(hH5.fr (hF40_1.mono (fun k hk => by omega))).mono (fun _ _ => trivial), (hU5.fr (hF40_1.mono (fun k hk => by omega))).mono (fun _ _ => trivial), (hI5.fr (hF40_1.mono (fun k hk => by omega))).mono (fun _ _ => trivial), (hB5.fr (hF40_1.mono (fun k hk => by omega))).mono (fun _ _ => trivial)⟩
end Go.Proofs.YtaekpiejdgahfaaDoor
