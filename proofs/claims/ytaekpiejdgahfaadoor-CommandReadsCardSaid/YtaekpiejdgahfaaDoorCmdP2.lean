/- Commands: the small functions; writing. -/
import Derived.Test.YtaekpiejdgahfaaDoorCmdM
namespace Go.Proofs.YtaekpiejdgahfaaDoor
set_option linter.all false
open Go.RowKit
theorem rb {a b : Bool} (h : a = b) : Ending.returned (resV [.bool a]) = .returned (.bool b) := by rw [h]; rfl
theorem counted_calls (w : World) (k want : Int) (h0 : 0 ≤ k) (h1 : -1 ≤ want) :
    Calls Tryd.prog 34 #[.int .i64 k, .int .i64 want] w fun e w' => e = .returned (.bool (fitsS want k)) ∧ w = w' := by
  refine calls_enter Tryd.func34 rfl Tryd.ntmps34 rfl ?_
  refine Wc.seq (fun K1 hK1 => ?_)
  refine Wc.keep [(0, _), (1, _)] (.cons rfl (.cons rfl (.nil))) ?_
  refine Wc.region ?_
  refine Wl.val rfl rfl rfl (Gives.assign rfl rfl) ?_
  refine Wl.nil ?_
  refine Wx.thenN (hK1 _ _ ?_)
  refine Wc.seq (fun K2 hK2 => ?_)
  refine Wc.keep [(0, _), (1, _)] (.cons rfl (.cons rfl (.nil))) ?_
  refine Wc.region ?_
  refine Wl.val rfl rfl rfl (Gives.move rfl rfl) ?_
  refine Wl.val rfl rfl rfl (Gives.move rfl rfl) ?_
  refine Wl.val rfl rfl rfl (Gives.eql rfl rfl rfl) ?_
  refine Wl.val rfl rfl rfl (Gives.move rfl rfl) ?_
  refine Wl.guard rfl rfl rfl (fun h8 => ?_) (fun h8 => ?_)
  · (first | replace h8 := of_decide_eq_false h8 | replace h8 := nd_false h8 | skip)
    refine Wl.val rfl rfl rfl (Gives.move rfl rfl) ?_
    refine Wl.val rfl rfl rfl (Gives.lss rfl rfl rfl) ?_
    refine Wl.val rfl rfl rfl (Gives.move rfl rfl) ?_
    refine Wl.guard rfl rfl rfl (fun h11 => ?_) (fun h11 => ?_)
    · (first | replace h11 := of_decide_eq_true h11 | replace h11 := nd_true h11 | skip)
      refine Wl.val rfl rfl rfl (Gives.move rfl rfl) ?_
      refine Wl.val rfl rfl rfl (Gives.leq rfl rfl rfl) ?_
      refine Wl.val rfl rfl rfl (Gives.pickT rfl rfl rfl rfl) ?_
      refine Wl.val rfl rfl rfl (Gives.pickF rfl rfl rfl rfl) ?_
      refine Wl.val rfl rfl rfl (Gives.assign rfl rfl) ?_
      refine Wl.nil ?_
      refine Wx.thenN (hK2 _ _ ?_)
      refine Wc.ret ?_
      refine Wx.ret [_] ⟨rfl, trivial⟩ ?_
      exact ⟨rb (by (first | unfold fitsS | unfold wordS); rw [Bool.eq_iff_iff]; simp; omega), rfl⟩
    · (first | replace h11 := of_decide_eq_false h11 | replace h11 := nd_false h11 | skip)
      refine Wl.pass rfl rfl rfl ?_
      refine Wl.pass rfl rfl rfl ?_
      refine Wl.val rfl rfl rfl (Gives.pickF rfl rfl rfl rfl) ?_
      refine Wl.val rfl rfl rfl (Gives.pickF rfl rfl rfl rfl) ?_
      refine Wl.val rfl rfl rfl (Gives.assign rfl rfl) ?_
      refine Wl.nil ?_
      refine Wx.thenN (hK2 _ _ ?_)
      refine Wc.ret ?_
      refine Wx.ret [_] ⟨rfl, trivial⟩ ?_
      exact ⟨rb (by (first | unfold fitsS | unfold wordS); rw [Bool.eq_iff_iff]; simp; omega), rfl⟩
  · (first | replace h8 := of_decide_eq_true h8 | replace h8 := nd_true h8 | skip)
    refine Wl.pass rfl rfl rfl ?_
    refine Wl.pass rfl rfl rfl ?_
    refine Wl.pass rfl rfl rfl ?_
    refine Wl.pass rfl rfl rfl ?_
    refine Wl.pass rfl rfl rfl ?_
    refine Wl.pass rfl rfl rfl ?_
    refine Wl.val rfl rfl rfl (Gives.pickT rfl rfl rfl rfl) ?_
    refine Wl.val rfl rfl rfl (Gives.assign rfl rfl) ?_
    refine Wl.nil ?_
    refine Wx.thenN (hK2 _ _ ?_)
    refine Wc.ret ?_
    refine Wx.ret [_] ⟨rfl, trivial⟩ ?_
    exact ⟨rb (by (first | unfold fitsS | unfold wordS); rw [Bool.eq_iff_iff]; simp; omega), rfl⟩
theorem word_calls (w : World) (k : Int) :
    Calls Tryd.prog 35 #[.int .i64 k] w fun e w' => e = .returned (.bool (wordS k)) ∧ w = w' := by
  refine calls_enter Tryd.func35 rfl Tryd.ntmps35 rfl ?_
  refine Wc.seq (fun K1 hK1 => ?_)
  refine Wc.keep [(0, _)] (.cons rfl (.nil)) ?_
  refine Wc.region ?_
  refine Wl.val rfl rfl rfl (Gives.assign rfl rfl) ?_
  refine Wl.nil ?_
  refine Wx.thenN (hK1 _ _ ?_)
  refine Wc.seq (fun K2 hK2 => ?_)
  refine Wc.keep [(0, _)] (.cons rfl (.nil)) ?_
  refine Wc.region ?_
  refine Wl.val rfl rfl rfl (Gives.move rfl rfl) ?_
  refine Wl.val rfl rfl rfl (Gives.geq rfl rfl rfl) ?_
  refine Wl.val rfl rfl rfl (Gives.move rfl rfl) ?_
  refine Wl.guard rfl rfl rfl (fun h5 => ?_) (fun h5 => ?_)
  · (first | replace h5 := of_decide_eq_true h5 | replace h5 := nd_true h5 | skip)
    refine Wl.val rfl rfl rfl (Gives.move rfl rfl) ?_
    refine Wl.val rfl rfl rfl (Gives.leq rfl rfl rfl) ?_
    refine Wl.val rfl rfl rfl (Gives.pickT rfl rfl rfl rfl) ?_
    refine Wl.val rfl rfl rfl (Gives.assign rfl rfl) ?_
    refine Wl.nil ?_
    refine Wx.thenN (hK2 _ _ ?_)
    refine Wc.ret ?_
    refine Wx.ret [_] ⟨rfl, trivial⟩ ?_
    exact ⟨rb (by (first | unfold fitsS | unfold wordS); rw [Bool.eq_iff_iff]; simp; omega), rfl⟩
  · (first | replace h5 := of_decide_eq_false h5 | replace h5 := nd_false h5 | skip)
    refine Wl.pass rfl rfl rfl ?_
    refine Wl.pass rfl rfl rfl ?_
    refine Wl.val rfl rfl rfl (Gives.pickF rfl rfl rfl rfl) ?_
    refine Wl.val rfl rfl rfl (Gives.assign rfl rfl) ?_
    refine Wl.nil ?_
    refine Wx.thenN (hK2 _ _ ?_)
    refine Wc.ret ?_
    refine Wx.ret [_] ⟨rfl, trivial⟩ ?_
    exact ⟨rb (by (first | unfold fitsS | unfold wordS); rw [Bool.eq_iff_iff]; simp; omega), rfl⟩
theorem fits_calls (w : World) (k want : Int) :
    Calls Tryd.prog 36 #[.int .i64 want, .int .i64 k] w fun e w' => e = .returned (.bool (fitsS want k)) ∧ w = w' := by
  refine calls_enter Tryd.func36 rfl Tryd.ntmps36 rfl ?_
  refine Wc.seq (fun K1 hK1 => ?_)
  refine Wc.keep [(0, _), (1, _)] (.cons rfl (.cons rfl (.nil))) ?_
  refine Wc.region ?_
  refine Wl.val rfl rfl rfl (Gives.assign rfl rfl) ?_
  refine Wl.nil ?_
  refine Wx.thenN (hK1 _ _ ?_)
  refine Wc.seq (fun K2 hK2 => ?_)
  refine Wc.keep [(0, _), (1, _)] (.cons rfl (.cons rfl (.nil))) ?_
  refine Wc.region ?_
  refine Wl.val rfl rfl rfl (Gives.move rfl rfl) ?_
  refine Wl.val rfl rfl rfl (Gives.move rfl rfl) ?_
  refine Wl.val rfl rfl rfl (Gives.eql rfl rfl rfl) ?_
  refine Wl.val rfl rfl rfl (Gives.move rfl rfl) ?_
  refine Wl.guard rfl rfl rfl (fun h8 => ?_) (fun h8 => ?_)
  · (first | replace h8 := of_decide_eq_false h8 | replace h8 := nd_false h8 | skip)
    refine Wl.val rfl rfl rfl (Gives.move rfl rfl) ?_
    refine Wl.val rfl rfl rfl (Gives.eql rfl rfl rfl) ?_
    refine Wl.val rfl rfl rfl (Gives.move rfl rfl) ?_
    refine Wl.guard rfl rfl rfl (fun h11 => ?_) (fun h11 => ?_)
    · (first | replace h11 := of_decide_eq_true h11 | replace h11 := nd_true h11 | skip)
      refine Wl.val rfl rfl rfl (Gives.move rfl rfl) ?_
      refine Wl.val rfl rfl rfl (Gives.geq rfl rfl rfl) ?_
      refine Wl.val rfl rfl rfl (Gives.pickT rfl rfl rfl rfl) ?_
      refine Wl.val rfl rfl rfl (Gives.move rfl rfl) ?_
      refine Wl.guard rfl rfl rfl (fun h15 => ?_) (fun h15 => ?_)
      · (first | replace h15 := of_decide_eq_true h15 | replace h15 := nd_true h15 | skip)
        refine Wl.val rfl rfl rfl (Gives.move rfl rfl) ?_
        refine Wl.val rfl rfl rfl (Gives.leq rfl rfl rfl) ?_
        refine Wl.val rfl rfl rfl (Gives.pickT rfl rfl rfl rfl) ?_
        refine Wl.val rfl rfl rfl (Gives.pickF rfl rfl rfl rfl) ?_
        refine Wl.val rfl rfl rfl (Gives.assign rfl rfl) ?_
        refine Wl.nil ?_
        refine Wx.thenN (hK2 _ _ ?_)
        refine Wc.ret ?_
        refine Wx.ret [_] ⟨rfl, trivial⟩ ?_
        exact ⟨rb (by (first | unfold fitsS | unfold wordS); rw [Bool.eq_iff_iff]; simp; omega), rfl⟩
      · (first | replace h15 := of_decide_eq_false h15 | replace h15 := nd_false h15 | skip)
        refine Wl.pass rfl rfl rfl ?_
        refine Wl.pass rfl rfl rfl ?_
        refine Wl.val rfl rfl rfl (Gives.pickF rfl rfl rfl rfl) ?_
        refine Wl.val rfl rfl rfl (Gives.pickF rfl rfl rfl rfl) ?_
        refine Wl.val rfl rfl rfl (Gives.assign rfl rfl) ?_
        refine Wl.nil ?_
        refine Wx.thenN (hK2 _ _ ?_)
        refine Wc.ret ?_
        refine Wx.ret [_] ⟨rfl, trivial⟩ ?_
        exact ⟨rb (by (first | unfold fitsS | unfold wordS); rw [Bool.eq_iff_iff]; simp; omega), rfl⟩
    · (first | replace h11 := of_decide_eq_false h11 | replace h11 := nd_false h11 | skip)
      refine Wl.pass rfl rfl rfl ?_
      refine Wl.pass rfl rfl rfl ?_
      refine Wl.val rfl rfl rfl (Gives.pickF rfl rfl rfl rfl) ?_
      refine Wl.val rfl rfl rfl (Gives.move rfl rfl) ?_
      refine Wl.guardF rfl rfl rfl rfl ?_
      refine Wl.pass rfl rfl rfl ?_
      refine Wl.pass rfl rfl rfl ?_
      refine Wl.val rfl rfl rfl (Gives.pickF rfl rfl rfl rfl) ?_
      refine Wl.val rfl rfl rfl (Gives.pickF rfl rfl rfl rfl) ?_
      refine Wl.val rfl rfl rfl (Gives.assign rfl rfl) ?_
      refine Wl.nil ?_
      refine Wx.thenN (hK2 _ _ ?_)
      refine Wc.ret ?_
      refine Wx.ret [_] ⟨rfl, trivial⟩ ?_
      exact ⟨rb (by (first | unfold fitsS | unfold wordS); rw [Bool.eq_iff_iff]; simp; omega), rfl⟩
  · (first | replace h8 := of_decide_eq_true h8 | replace h8 := nd_true h8 | skip)
    refine Wl.pass rfl rfl rfl ?_
    refine Wl.pass rfl rfl rfl ?_
    refine Wl.pass rfl rfl rfl ?_
    refine Wl.pass rfl rfl rfl ?_
    refine Wl.pass rfl rfl rfl ?_
    refine Wl.pass rfl rfl rfl ?_
    refine Wl.pass rfl rfl rfl ?_
    refine Wl.pass rfl rfl rfl ?_
    refine Wl.pass rfl rfl rfl ?_
    refine Wl.pass rfl rfl rfl ?_
    refine Wl.val rfl rfl rfl (Gives.pickT rfl rfl rfl rfl) ?_
    refine Wl.val rfl rfl rfl (Gives.assign rfl rfl) ?_
    refine Wl.nil ?_
    refine Wx.thenN (hK2 _ _ ?_)
    refine Wc.ret ?_
    refine Wx.ret [_] ⟨rfl, trivial⟩ ?_
    exact ⟨rb (by (first | unfold fitsS | unfold wordS); rw [Bool.eq_iff_iff]; simp; omega), rfl⟩
theorem number_calls (w : World) (k : Int) :
    Calls Tryd.prog 37 #[.int .i64 k] w fun e w' => e = .returned (.bool (wordS k)) ∧ w = w' := by
  refine calls_enter Tryd.func37 rfl Tryd.ntmps37 rfl ?_
  refine Wc.seq (fun K1 hK1 => ?_)
  refine Wc.keep [(0, _)] (.cons rfl (.nil)) ?_
  refine Wc.region ?_
  refine Wl.val rfl rfl rfl (Gives.assign rfl rfl) ?_
  refine Wl.nil ?_
  refine Wx.thenN (hK1 _ _ ?_)
  refine Wc.seq (fun K2 hK2 => ?_)
  refine Wc.keep [(0, _)] (.cons rfl (.nil)) ?_
  refine Wc.region ?_
  refine Wl.val rfl rfl rfl (Gives.move rfl rfl) ?_
  refine Wl.val rfl rfl rfl (Gives.geq rfl rfl rfl) ?_
  refine Wl.val rfl rfl rfl (Gives.move rfl rfl) ?_
  refine Wl.guard rfl rfl rfl (fun h5 => ?_) (fun h5 => ?_)
  · (first | replace h5 := of_decide_eq_true h5 | replace h5 := nd_true h5 | skip)
    refine Wl.val rfl rfl rfl (Gives.move rfl rfl) ?_
    refine Wl.val rfl rfl rfl (Gives.leq rfl rfl rfl) ?_
    refine Wl.val rfl rfl rfl (Gives.pickT rfl rfl rfl rfl) ?_
    refine Wl.val rfl rfl rfl (Gives.assign rfl rfl) ?_
    refine Wl.nil ?_
    refine Wx.thenN (hK2 _ _ ?_)
    refine Wc.ret ?_
    refine Wx.ret [_] ⟨rfl, trivial⟩ ?_
    exact ⟨rb (by (first | unfold fitsS | unfold wordS); rw [Bool.eq_iff_iff]; simp; omega), rfl⟩
  · (first | replace h5 := of_decide_eq_false h5 | replace h5 := nd_false h5 | skip)
    refine Wl.pass rfl rfl rfl ?_
    refine Wl.pass rfl rfl rfl ?_
    refine Wl.val rfl rfl rfl (Gives.pickF rfl rfl rfl rfl) ?_
    refine Wl.val rfl rfl rfl (Gives.assign rfl rfl) ?_
    refine Wl.nil ?_
    refine Wx.thenN (hK2 _ _ ?_)
    refine Wc.ret ?_
    refine Wx.ret [_] ⟨rfl, trivial⟩ ?_
    exact ⟨rb (by (first | unfold fitsS | unfold wordS); rw [Bool.eq_iff_iff]; simp; omega), rfl⟩
theorem Blk.bel {w w' : World} {g base : Nat} {t : TypeId} {cs : Array Value} (h : Blk w g t cs) (hB : Below base w w') (hlt : g < base) : Blk w' g t cs := (hB.block g hlt).trans h
theorem splice_len (b : List UInt8) (h : 5 ≤ b.length) : spliceB b 2 ([byteAt (b.length : Int) 1, byteAt (b.length : Int) 0].take 2) = lenIn b := by
  match b, h with
  | x0 :: x1 :: x2 :: x3 :: r, _ => simp [spliceB, lenIn]
theorem blobS_ge (l r : List UInt8) : l.length ≤ (blobS l r).length := by
  unfold blobS
  rw [List.length_append]
  have : l.length ≤ (uintS l 2 ((min r.length 65535 : Nat) : Int)).length := by unfold uintS; split <;> simp
  omega
theorem uintS_ge (l : List UInt8) (s n : Int) : l.length ≤ (uintS l s n).length := by unfold uintS; split <;> simp
theorem fold_ge {β : Type} (f : List UInt8 → β → List UInt8) (hf : ∀ b x, b.length ≤ (f b x).length) : ∀ (l : List β) (b : List UInt8), b.length ≤ (l.foldl f b).length
  | [], b => Nat.le_refl _
  | x :: r, b => Nat.le_trans (hf b x) (fold_ge f hf r _)
theorem authS_ge (l : List UInt8) (a : Auth) : l.length ≤ (authS l a).length := Nat.le_trans (uintS_ge _ _ _) (Nat.le_trans (blobS_ge _ _) (blobS_ge _ _))
theorem bodyS_len (q : Req) : 5 ≤ (bodyS q).length := by
  unfold bodyS blobsS intsS authsS handsS
  refine Nat.le_trans ?_ (fold_ge _ (fun b x => blobS_ge b x) _ _)
  rw [List.length_append]
  refine Nat.le_trans (Nat.le_trans ?_ (fold_ge _ (fun b x => uintS_ge b 8 x) _ _)) (Nat.le_add_right _ _)
  refine Nat.le_trans ?_ (fold_ge _ (fun b x => authS_ge b x) _ _)
  refine Nat.le_trans ?_ (fold_ge _ (fun b x => uintS_ge b 2 x) _ _)
  exact Nat.le_refl 5
set_option maxHeartbeats 1000000 in
set_option maxRecDepth 10000 in
theorem writeP_calls {P : Nat → Prop} (w : World) (hT : Tabs w) (q : Req) (r : RA) (hq : ReqV w P q r) (hsm : SmallQ q) :
    Calls Tryd.prog 32 #[.agg #[.int .i64 q.code, .slice r.hA r.hn r.hc, .slice r.aA r.an r.ac, .slice r.iA r.iN r.ic, .slice r.bA r.bn r.bc]] w fun e w' => ∃ S m c, e = .returned (.slice S m c) ∧ OB w' w.heap.size 5 S m c (formS q) ∧ Ext w w' := by
  obtain ⟨hA, hn, hc, aA, an, ac, iA, iN, ic, bA, bn, bc⟩ := r
  have hhs : IV w P hA hn hc q.hs := hq.hs
  have hus : AV w P aA an ac q.us := hq.us
  have his : IV w P iA iN ic q.is := hq.is
  have hbs : BL w P bA bn bc q.bs := hq.bs
  have hlh := hhs.len
  have hla := hus.len
  have hli := his.len
  have hlb := hbs.len
  obtain ⟨hs1, hs2, hs3, hs4, hs5, hs6⟩ := hsm
  clear hq
  show Calls Tryd.prog _ #[.agg #[.int .i64 q.code, .slice hA hn hc, .slice aA an ac, .slice iA iN ic, .slice bA bn bc]] w _
  have hmg : BV w (fun _ => True) (some ⟨1, 0, none⟩) 2 2 [83, 87] := ⟨rfl, by omega, by simp [maxLen], fun _ => ⟨_, 0, rfl, hT.1.1, trivial, fun i v hv => by rw [Nat.zero_add]; exact hT.1.2 i v hv⟩⟩
  refine calls_enter Tryd.func32 rfl Tryd.ntmps32 rfl ?_
  have hE : Ext w w := Ext.refl w
  refine Wc.seq (fun K1 hK1 => ?_)
  refine Wc.keep [(0, _)] (.cons rfl (.nil)) ?_
  refine Wc.region ?_
  refine Wl.does rfl rfl rfl (Does.boxA rfl rfl) ?_
  rintro _ w0_0 ⟨b1, rfl, hs1, hb1, hx0_0⟩
  have hg1 : w.heap.size ≤ b1 := Nat.le_trans hE.size hs1
  replace hE := hE.trans hx0_0
  refine Wl.val rfl rfl rfl (Gives.assign rfl rfl) ?_
  refine Wl.nil ?_
  refine Wx.thenN (hK1 _ _ ?_)
  refine Wc.joinC (ι := Option Addr × Nat) [(1, _)] (fun | (S, c) => [(3, .slice S 5 c)]) (fun | (S, c), wJ => OB wJ (b1 + 1) 5 S 5 c (headS q.code) ∧ Blk wJ b1 33 #[.int .i64 q.code, .slice hA hn hc, .slice aA an ac, .slice iA iN ic, .slice bA bn bc] ∧ Ext w wJ) ?_ ?_ (.cons rfl (.nil))
  · intro K2 hJ2
    refine Wc.keep [(1, _)] (.cons rfl (.nil)) ?_
    refine Wc.regionB (fun q => [3].contains q) [] (.read 0 (.read 2 (.read 3 (.read 4 (.call false 1 (.call true 5 .tail .none) (.call true 5 (.call false 1 .tail .none) .none)))))) 6 (by kernel_rfl) (by kernel_rfl) (by kernel_rfl) ?_
    intro w1 hR1
    replace hb1 := hb1.ext hR1.ext
    replace hE := hE.trans hR1.ext
    have hO1_1 : Old w1.heap.size [] b1 := ⟨hb1.lt, trivial⟩
    have hX := Ext.refl w1
    have hb1s := hb1
    have hEs := hE
    refine RunE.read rfl rfl rfl rfl (fun wS _ => (Gives.cutAll rfl Tryd.underlying90 (by kernel_rfl) rfl)) ?_
    refine RunE.read rfl rfl rfl rfl (fun wS _ => (Gives.fieldAt 0 rfl Tryd.underlying33 rfl (by kernel_rfl) rfl rfl)) ?_
    refine RunE.readM rfl rfl rfl rfl rfl (fun wS hS => (Gives.ldK rfl (by kernel_rfl) rfl ((hb1.ext hX).fr hS hO1_1) rfl)) ?_
    refine RunE.read rfl rfl rfl rfl (fun wS _ => (Gives.conv rfl Tryd.underlying3 Tryd.underlying5 rfl (byteOf_int _))) ?_
    refine RunE.turn rfl rfl rfl rfl (Does.app0 rfl Tryd.underlying36 infoB rfl rfl (OB.nil_ _ w1.heap.size _) (hmg.ext (hE.trans hX)) (by omega) hX.size) ?_ ?_
    · rintro _ w11 ⟨S1, c1, rfl, hO1, hx11⟩
      refine ⟨hx11.fr, ?_⟩
      replace hX := hX.trans hx11
      have hO1b := hO1
      clear hO1
      refine RunE.free rfl rfl rfl rfl (Does.lit rfl Tryd.underlying36 infoB2 rfl rfl rfl rfl rfl) ?_ RunE.none
      rintro _ w12 ⟨g12, rfl, hs12, hk12, hx12⟩
      replace hX := hX.trans hx12
      have hM12 : MB w12 g12 5 [0, 0, byteOf q.code] := hk12
      refine RunE.tail rfl ?_
      replace hb1 := hb1.ext hX
      replace hE := hE.trans hX
      refine Wl.does rfl rfl rfl (Does.appO rfl Tryd.underlying36 infoB rfl rfl (base := w1.heap.size) (by first | exact hO1b.ext hx12 | exact hO1b) ((MB.bv (P := fun _ => True) (by first | exact hM12.ext hx11 | exact hM12) trivial (c := 3) rfl (by omega) (by omega))) (by omega) hX.size) ?_
      rintro _ w13 ⟨S3, c3, rfl, hO3, hB13⟩
      have hO3b := hO3.mono hb1s.lt
      have hx13 := Ext.step hX hB13 (Nat.le_refl _)
      replace hb1 := hb1s.ext hx13
      replace hE := hEs.trans hx13
      refine Wl.val rfl rfl rfl (Gives.assign rfl rfl) ?_
      refine Wl.nil ?_
      refine Wx.thenN ?_
      refine hJ2 (S3, c3) _ _ (.cons (by first | exact rfl | exact look_int rfl (by omega) | exact look_slice rfl (by omega)) (.cons rfl (.nil))) ⟨hO3b, hb1, hE⟩
    refine RunE.free rfl rfl rfl rfl (Does.lit rfl Tryd.underlying36 infoB2 rfl rfl rfl rfl rfl) ?_ RunE.none
    rintro _ w12 ⟨g12, rfl, hs12, hk12, hx12⟩
    replace hX := hX.trans hx12
    have hM12 : MB w12 g12 5 [0, 0, byteOf q.code] := hk12
    refine RunE.turn rfl rfl rfl rfl (Does.app0 rfl Tryd.underlying36 infoB rfl rfl (OB.nil_ _ w1.heap.size _) (hmg.ext (hE.trans hX)) (by omega) hX.size) ?_ RunE.none
    rintro _ w11 ⟨S1, c1, rfl, hO1, hx11⟩
    refine ⟨hx11.fr, ?_⟩
    replace hX := hX.trans hx11
    have hO1b := hO1
    clear hO1
    refine RunE.tail rfl ?_
    replace hb1 := hb1.ext hX
    replace hE := hE.trans hX
    refine Wl.does rfl rfl rfl (Does.appO rfl Tryd.underlying36 infoB rfl rfl (base := w1.heap.size) (by first | exact hO1b.ext hx12 | exact hO1b) ((MB.bv (P := fun _ => True) (by first | exact hM12.ext hx11 | exact hM12) trivial (c := 3) rfl (by omega) (by omega))) (by omega) hX.size) ?_
    rintro _ w13 ⟨S3, c3, rfl, hO3, hB13⟩
    have hO3b := hO3.mono hb1s.lt
    have hx13 := Ext.step hX hB13 (Nat.le_refl _)
    replace hb1 := hb1s.ext hx13
    replace hE := hEs.trans hx13
    refine Wl.val rfl rfl rfl (Gives.assign rfl rfl) ?_
    refine Wl.nil ?_
    refine Wx.thenN ?_
    refine hJ2 (S3, c3) _ _ (.cons (by first | exact rfl | exact look_int rfl (by omega) | exact look_slice rfl (by omega)) (.cons rfl (.nil))) ⟨hO3b, hb1, hE⟩
  intro ⟨S, c⟩ wJ hJ
  clear hb1 hE
  obtain ⟨hO, hb1, hE⟩ := hJ
  refine Wc.seq (fun K3 hK3 => ?_)
  refine Wc.seq (fun K4 hK4 => ?_)
  refine Wc.keep [(1, _), (3, _)] (.cons rfl (.cons rfl (.nil))) ?_
  refine Wc.region ?_
  refine Wl.val rfl rfl rfl (Gives.fieldAt 1 rfl Tryd.underlying33 rfl (by kernel_rfl) rfl rfl) ?_
  refine Wl.val rfl rfl rfl (Gives.ldK rfl (by kernel_rfl) rfl hb1 rfl) ?_
  refine Wl.val rfl rfl rfl (Gives.lenS rfl Tryd.underlying29 rfl) ?_
  refine Wl.val rfl rfl rfl (Gives.move rfl rfl) ?_
  refine Wl.nil ?_
  refine Wx.thenN (hK4 _ _ ?_)
  refine Wc.block ?_
  refine Wc.keep [(1, _), (3, _), (20, _), (21, _), (22, _)] (.cons rfl (.cons rfl (.cons rfl (.cons rfl (.cons rfl (.nil)))))) ?_
  refine Wc.loopC (ι := Nat × Option Addr × Nat × Nat) [(1, _), (20, _), (21, _)] (fun | (i, S, m, c) => [(22, .int .i64 (i : Int)), (3, .slice S m c)]) (fun | (i, S, m, c), wr => i ≤ hn ∧ m ≤ 5 + 8 * i ∧ OB wr (b1 + 1) 5 S m c (handsS (headS q.code) (q.hs.take i)) ∧ Blk wr b1 33 #[.int .i64 q.code, .slice hA hn hc, .slice aA an ac, .slice iA iN ic, .slice bA bn bc] ∧ Ext w wr) (fun | (i, _, _, _) => hn - i) ((0, S, 5, c)) (.cons (by first | exact rfl | exact look_int rfl (by omega) | exact look_slice rfl (by omega)) (.cons (by first | exact rfl | exact look_int rfl (by omega) | exact look_slice rfl (by omega)) (.cons rfl (.cons rfl (.cons rfl (.nil)))))) (⟨Nat.zero_le _, by omega, hO, hb1, hE⟩) ?_
  intro ⟨i, S, m, c⟩ wr hJ KL1 hKL1
  clear hb1 hE hO
  obtain ⟨hi, hm, hO, hb1, hE⟩ := hJ
  refine Wc.seq (fun K5 hK5 => ?_)
  refine Wc.keep [(1, _), (3, _), (20, _), (21, _), (22, _)] (.cons rfl (.cons rfl (.cons rfl (.cons rfl (.cons rfl (.nil)))))) ?_
  refine Wc.region ?_
  refine Wl.val rfl rfl rfl (Gives.lss rfl rfl rfl) ?_
  refine Wl.nil ?_
  refine Wx.thenN (hK5 _ _ ?_)
  refine Wc.seq (fun K6 hK6 => ?_)
  refine Wc.cond _ rfl (fun h23 => ?_) (fun h23 => ?_)
  · (first | replace h23 := of_decide_eq_true h23 | replace h23 := nd_true h23 | skip)
    refine Wc.skip ?_
    refine Wx.thenN (hK6 _ _ ?_)
    refine Wc.seq (fun K7 hK7 => ?_)
    refine Wc.block ?_
    refine Wc.seq (fun K8 hK8 => ?_)
    refine Wc.keep [(1, _), (3, _), (20, _), (21, _), (22, _)] (.cons rfl (.cons rfl (.cons rfl (.cons rfl (.cons rfl (.nil)))))) ?_
    obtain ⟨xb, xo, rfl, hbw, z, hz, hcell⟩ := (hhs.ext hE).at_ (show i < hn by omega)
    refine Wc.region ?_
    refine Wl.val rfl rfl rfl (Gives.ixS (i := _) rfl Tryd.underlying29 (by kernel_rfl) rfl rfl rfl (by omega)) ?_
    refine Wl.val rfl rfl rfl (Gives.ldC rfl (by kernel_rfl) rfl hcell) ?_
    refine Wl.val rfl rfl rfl (Gives.assign rfl rfl) ?_
    refine Wl.nil ?_
    refine Wx.thenN (hK8 _ _ ?_)
    refine Wc.keep [(1, _), (3, _), (5, _), (20, _), (21, _), (22, _)] (.cons rfl (.cons rfl (.cons rfl (.cons rfl (.cons rfl (.cons rfl (.nil))))))) ?_
    refine Wc.region ?_
    refine Wl.val rfl rfl rfl (Gives.move rfl rfl) ?_
    refine Wl.val rfl rfl rfl (Gives.move rfl rfl) ?_
    refine Wl.call rfl rfl rfl rfl Tryd.func54 rfl (by kernel_rfl) rfl (uint_calls (P := fun _ => True) _ S m c _ (hO.bv (fun _ _ => trivial)) (by omega) 2 z) ?_
    rintro x1 w5 ⟨S1, m1, c1, rfl, hO1, hx1⟩
    refine ⟨_, rfl, ?_⟩
    replace hO1 := hO1.mono hb1.lt
    have hl0 := hO.len
    have hl1 := hO1.len
    have hl2 := uintS_len (handsS (headS q.code) (q.hs.take i)) 2 z
    replace hb1 := hb1.ext hx1
    replace hE := hE.trans hx1
    refine Wl.val rfl rfl rfl (Gives.assign rfl rfl) ?_
    refine Wl.nil ?_
    refine Wx.blockN ?_
    refine Wx.thenN (hK7 _ _ ?_)
    refine Wc.keep [(1, _), (3, _), (20, _), (21, _), (22, _)] (.cons rfl (.cons rfl (.cons rfl (.cons rfl (.cons rfl (.nil)))))) ?_
    refine Wc.region ?_
    refine Wl.val rfl rfl rfl (Gives.add rfl rfl rfl (by first | exact IntWalk.i64_in _ (by omega) | exact u64_in _ (by omega) | exact u32_in _ (by omega) | exact u8_in _ (by omega) | exact rfl)) ?_
    refine Wl.val rfl rfl rfl (Gives.move rfl rfl) ?_
    refine Wl.nil ?_
    refine Wx.thenN ?_
    refine hKL1 (i + 1, S1, m1, c1) _ _ (.cons (by first | exact rfl | exact look_int rfl (by omega) | exact look_slice rfl (by omega)) (.cons (by first | exact rfl | exact look_int rfl (by omega) | exact look_slice rfl (by omega)) (.cons rfl (.cons rfl (.cons rfl (.nil)))))) ⟨by omega, by omega, by unfold handsS at hO1 ⊢; rw [fold_take _ _ _ _ _ hz]; exact hO1, hb1, hE⟩ (by show hn - (i + 1) < hn - i; omega)
  · (first | replace h23 := of_decide_eq_false h23 | replace h23 := nd_false h23 | skip)
    refine Wc.exit ?_
    refine Wx.thenE ?_
    refine Wx.thenE ?_
    refine Wx.hit ?_
    refine Wx.thenN (hK3 _ _ ?_)
    refine Wc.seq (fun K9 hK9 => ?_)
    refine Wc.seq (fun K10 hK10 => ?_)
    refine Wc.keep [(1, _), (3, _)] (.cons rfl (.cons rfl (.nil))) ?_
    obtain rfl : hn = i := by omega
    have hO2 := hO
    unfold handsS at hO2
    rw [fold_all _ _ _ _ hlh] at hO2
    change OB _ _ _ _ _ _ (handsS (headS q.code) q.hs) at hO2
    clear hO
    refine Wc.region ?_
    refine Wl.val rfl rfl rfl (Gives.fieldAt 2 rfl Tryd.underlying33 rfl (by kernel_rfl) rfl rfl) ?_
    refine Wl.val rfl rfl rfl (Gives.ldK rfl (by kernel_rfl) rfl hb1 rfl) ?_
    refine Wl.val rfl rfl rfl (Gives.lenS rfl Tryd.underlying30 rfl) ?_
    refine Wl.val rfl rfl rfl (Gives.move rfl rfl) ?_
    refine Wl.nil ?_
    refine Wx.thenN (hK10 _ _ ?_)
    refine Wc.block ?_
    refine Wc.keep [(1, _), (3, _), (31, _), (32, _), (33, _)] (.cons rfl (.cons rfl (.cons rfl (.cons rfl (.cons rfl (.nil)))))) ?_
    refine Wc.loopC (ι := Nat × Option Addr × Nat × Nat) [(1, _), (31, _), (32, _)] (fun | (i, S, m, c) => [(33, .int .i64 (i : Int)), (3, .slice S m c)]) (fun | (i, S, m, c), wr => i ≤ an ∧ m ≤ 8005 + 131094 * i ∧ OB wr (b1 + 1) 5 S m c (authsS (handsS (headS q.code) q.hs) (q.us.take i)) ∧ Blk wr b1 33 #[.int .i64 q.code, .slice hA hn hc, .slice aA an ac, .slice iA iN ic, .slice bA bn bc] ∧ Ext w wr) (fun | (i, _, _, _) => an - i) ((0, S, m, c)) (.cons (by first | exact rfl | exact look_int rfl (by omega) | exact look_slice rfl (by omega)) (.cons (by first | exact rfl | exact look_int rfl (by omega) | exact look_slice rfl (by omega)) (.cons rfl (.cons rfl (.cons rfl (.nil)))))) (⟨Nat.zero_le _, by omega, hO2, hb1, hE⟩) ?_
    intro ⟨i, S, m, c⟩ wr hJ KL2 hKL2
    clear hb1 hE hO2
    obtain ⟨hi, hm, hO, hb1, hE⟩ := hJ
    refine Wc.seq (fun K11 hK11 => ?_)
    refine Wc.keep [(1, _), (3, _), (31, _), (32, _), (33, _)] (.cons rfl (.cons rfl (.cons rfl (.cons rfl (.cons rfl (.nil)))))) ?_
    refine Wc.region ?_
    refine Wl.val rfl rfl rfl (Gives.lss rfl rfl rfl) ?_
    refine Wl.nil ?_
    refine Wx.thenN (hK11 _ _ ?_)
    refine Wc.seq (fun K12 hK12 => ?_)
    refine Wc.cond _ rfl (fun h34 => ?_) (fun h34 => ?_)
    · (first | replace h34 := of_decide_eq_true h34 | replace h34 := nd_true h34 | skip)
      refine Wc.skip ?_
      refine Wx.thenN (hK12 _ _ ?_)
      refine Wc.seq (fun K13 hK13 => ?_)
      refine Wc.block ?_
      refine Wc.seq (fun K14 hK14 => ?_)
      refine Wc.keep [(1, _), (3, _), (31, _), (32, _), (33, _)] (.cons rfl (.cons rfl (.cons rfl (.cons rfl (.cons rfl (.nil)))))) ?_
      obtain ⟨xb, xo, rfl, hbw, a, N, nn, nc, V, vn, vc, ha, hrg, hN0, hV0⟩ := (hus.ext hE).at_ (show i < an by omega)
      have hnn := hN0.len
      have hvn := hV0.len
      obtain ⟨hs5a, hs5b⟩ := hs5 a (List.mem_of_getElem? ha)
      have hN := ((BV.nb0 hN0).nbBox hb1 rfl)
      have hV := ((BV.nb0 hV0).nbBox hb1 rfl)
      refine Wc.region ?_
      refine Wl.val rfl rfl rfl (Gives.ixSZ (i := _) (sz := 3) rfl Tryd.underlying30 (by kernel_rfl) rfl rfl rfl (by omega)) ?_
      refine Wl.val rfl rfl rfl (Gives.ldM rfl (by kernel_rfl) rfl hrg (by kernel_rfl)) ?_
      refine Wl.does rfl rfl rfl (Does.alB (.agg #[(.int .i64 0), (.slice none 0 0), (.slice none 0 0)]) rfl (by kernel_rfl) rfl) ?_
      rintro _ w9_2 ⟨b7, rfl, hs7, hb7, hx9_2⟩
      have hn1_7 : b1 ≠ b7 := hb1.ne hs7
      replace hN := hN.nbCons hs7
      replace hV := hV.nbCons hs7
      have hg7 : w.heap.size ≤ b7 := Nat.le_trans hE.size hs7
      replace hb1 := hb1.ext hx9_2
      replace hN := hN.ext hx9_2
      replace hV := hV.ext hx9_2
      replace hE := hE.trans hx9_2
      refine Wl.acts rfl rfl (Does.stL 3 rfl rfl rfl hb7 (by kernel_rfl) rfl rfl rfl) ?_
      rintro _ w9_3 ⟨hbn, hF9_3⟩
      replace hb1 := hb1.fr hF9_3 (by first | assumption | exact Ne.symm (by assumption))
      replace hN := hN.fr (hF9_3.mono (fun k h => h.1))
      replace hV := hV.fr (hF9_3.mono (fun k h => h.1))
      replace hE := Ext.over hE hF9_3 hg7
      replace hb7 := hbn
      clear hbn
      replace hO := hO.ext (Ext.over hx9_2 hF9_3 hs7)
      refine Wl.nil ?_
      refine Wx.thenN (hK14 _ _ ?_)
      refine Wc.keep [(1, _), (3, _), (7, _), (31, _), (32, _), (33, _)] (.cons rfl (.cons rfl (.cons rfl (.cons rfl (.cons rfl (.cons rfl (.nil))))))) ?_
      refine Wc.regionB (fun q => [2, 3, 5, 6, 8].contains q) [] (.read 0 (.read 1 (.read 2 (.read 4 (.read 5 (.read 7 (.read 8 (.call false 3 (.call false 6 .tail .none) .none)))))))) 9 (by kernel_rfl) (by kernel_rfl) (by kernel_rfl) ?_
      intro w10 hR10
      replace hb1 := hb1.ext hR10.ext
      replace hb7 := hb7.ext hR10.ext
      replace hN := hN.ext hR10.ext
      replace hV := hV.ext hR10.ext
      replace hE := hE.trans hR10.ext
      have hO10_1 : Old w10.heap.size [] b1 := ⟨hb1.lt, trivial⟩
      have hO10_7 : Old w10.heap.size [] b7 := ⟨hb7.lt, trivial⟩
      have hX := Ext.refl w10
      replace hO := hO.ext hR10.ext
      refine RunE.read rfl rfl rfl rfl (fun wS _ => (Gives.move rfl rfl)) ?_
      refine RunE.read rfl rfl rfl rfl (fun wS _ => (Gives.fieldAt 0 rfl Tryd.underlying38 rfl (by kernel_rfl) rfl rfl)) ?_
      refine RunE.readM rfl rfl rfl rfl rfl (fun wS hS => (Gives.ldK rfl (by kernel_rfl) rfl ((hb7.ext hX).fr hS hO10_7) rfl)) ?_
      refine RunE.read rfl rfl rfl rfl (fun wS _ => (Gives.fieldAt 1 rfl Tryd.underlying38 rfl (by kernel_rfl) rfl rfl)) ?_
      refine RunE.readM rfl rfl rfl rfl rfl (fun wS hS => (Gives.ldK rfl (by kernel_rfl) rfl ((hb7.ext hX).fr hS hO10_7) rfl)) ?_
      refine RunE.read rfl rfl rfl rfl (fun wS _ => (Gives.fieldAt 2 rfl Tryd.underlying38 rfl (by kernel_rfl) rfl rfl)) ?_
      refine RunE.readM rfl rfl rfl rfl rfl (fun wS hS => (Gives.ldK rfl (by kernel_rfl) rfl ((hb7.ext hX).fr hS hO10_7) rfl)) ?_
      refine RunE.turnC rfl rfl rfl rfl rfl Tryd.func54 rfl (by kernel_rfl) rfl (uint_calls (P := fun _ => True) _ S m c _ (hO.bv (fun _ _ => trivial)) (by omega) 2 a.ses) ?_ RunE.none
      rintro x1 w11 ⟨S1, m1, c1, rfl, hO1, hx1⟩
      refine ⟨_, rfl, ?_⟩
      refine ⟨hx1.fr, ?_⟩
      replace hX := hX.trans hx1
      refine RunE.turnC rfl rfl rfl rfl rfl Tryd.func55 rfl (by kernel_rfl) rfl (blob_calls (P := fun _ => True) _ S1 m1 c1 _ (hO1.bv (fun _ _ => trivial)) (by have hl1 := hO1.len; have hl2 := uintS_len (authsS (handsS (headS q.code) q.hs) (q.us.take i)) 2 a.ses; have hl0 := hO.len; omega) N nn nc a.nonce (hN.ext hX) (by omega)) ?_ RunE.none
      rintro x2 w12 ⟨S2, m2, c2, rfl, hO2, hx2⟩
      refine ⟨_, rfl, ?_⟩
      refine ⟨hx2.fr, ?_⟩
      replace hX := hX.trans hx2
      refine RunE.tail rfl ?_
      replace hb1 := hb1.ext hX
      replace hb7 := hb7.ext hX
      replace hN := hN.ext hX
      replace hV := hV.ext hX
      replace hE := hE.trans hX
      refine Wl.call rfl rfl rfl rfl Tryd.func55 rfl (by kernel_rfl) rfl (blob_calls (P := fun _ => True) _ S2 m2 c2 _ (hO2.bv (fun _ _ => trivial)) (by have hl1 := hO2.len; have hl3 := blobS_len (uintS (authsS (handsS (headS q.code) q.hs) (q.us.take i)) 2 a.ses) a.nonce; have hl2 := uintS_len (authsS (handsS (headS q.code) q.hs) (q.us.take i)) 2 a.ses; have hl0 := hO.len; omega) V vn vc a.val hV (by omega)) ?_
      rintro x3 w13 ⟨S3, m3, c3, rfl, hO3, hx3⟩
      refine ⟨_, rfl, ?_⟩
      replace hO3 := hO3.mono hb1.lt
      replace hb1 := hb1.ext hx3
      replace hb7 := hb7.ext hx3
      replace hN := hN.ext hx3
      replace hV := hV.ext hx3
      replace hE := hE.trans hx3
      refine Wl.val rfl rfl rfl (Gives.assign rfl rfl) ?_
      refine Wl.nil ?_
      refine Wx.blockN ?_
      refine Wx.thenN (hK13 _ _ ?_)
      refine Wc.keep [(1, _), (3, _), (31, _), (32, _), (33, _)] (.cons rfl (.cons rfl (.cons rfl (.cons rfl (.cons rfl (.nil)))))) ?_
      refine Wc.region ?_
      refine Wl.val rfl rfl rfl (Gives.add rfl rfl rfl (by first | exact IntWalk.i64_in _ (by omega) | exact u64_in _ (by omega) | exact u32_in _ (by omega) | exact u8_in _ (by omega) | exact rfl)) ?_
      refine Wl.val rfl rfl rfl (Gives.move rfl rfl) ?_
      refine Wl.nil ?_
      refine Wx.thenN ?_
      have hl0 := hO.len
      have hl2 := authS_len (authsS (handsS (headS q.code) q.hs) (q.us.take i)) a
      have hO4 : OB w13 (b1 + 1) 5 S3 m3 c3 (authS (authsS (handsS (headS q.code) q.hs) (q.us.take i)) a) := hO3
      have hl1 := hO4.len
      refine hKL2 (i + 1, S3, m3, c3) _ _ (.cons (by first | exact rfl | exact look_int rfl (by omega) | exact look_slice rfl (by omega)) (.cons (by first | exact rfl | exact look_int rfl (by omega) | exact look_slice rfl (by omega)) (.cons rfl (.cons rfl (.cons rfl (.nil)))))) ⟨by omega, by omega, by unfold authsS at hO4 ⊢; rw [fold_take _ _ _ _ _ ha]; exact hO4, hb1, hE⟩ (by show an - (i + 1) < an - i; omega)
    · (first | replace h34 := of_decide_eq_false h34 | replace h34 := nd_false h34 | skip)
      refine Wc.exit ?_
      refine Wx.thenE ?_
      refine Wx.thenE ?_
      refine Wx.hit ?_
      refine Wx.thenN (hK9 _ _ ?_)
      refine Wc.seq (fun K15 hK15 => ?_)
      refine Wc.seq (fun K16 hK16 => ?_)
      refine Wc.keep [(1, _), (3, _)] (.cons rfl (.cons rfl (.nil))) ?_
      obtain rfl : an = i := by omega
      have hO2 := hO
      unfold authsS at hO2
      rw [fold_all _ _ _ _ hla] at hO2
      change OB _ _ _ _ _ _ (authsS (handsS (headS q.code) q.hs) q.us) at hO2
      clear hO
      generalize hB2 : authsS (handsS (headS q.code) q.hs) q.us = B2 at *
      refine Wc.region ?_
      refine Wl.val rfl rfl rfl (Gives.fieldAt 3 rfl Tryd.underlying33 rfl (by kernel_rfl) rfl rfl) ?_
      refine Wl.val rfl rfl rfl (Gives.ldK rfl (by kernel_rfl) rfl hb1 rfl) ?_
      refine Wl.val rfl rfl rfl (Gives.lenS rfl Tryd.underlying29 rfl) ?_
      refine Wl.val rfl rfl rfl (Gives.move rfl rfl) ?_
      refine Wl.nil ?_
      refine Wx.thenN (hK16 _ _ ?_)
      refine Wc.block ?_
      refine Wc.keep [(1, _), (3, _), (49, _), (50, _), (51, _)] (.cons rfl (.cons rfl (.cons rfl (.cons rfl (.cons rfl (.nil)))))) ?_
      refine Wc.loopC (ι := Nat × Option Addr × Nat × Nat) [(1, _), (49, _), (50, _)] (fun | (i, S, m, c) => [(51, .int .i64 (i : Int)), (3, .slice S m c)]) (fun | (i, S, m, c), wr => i ≤ iN ∧ m ≤ 131102005 + 8 * i ∧ OB wr (b1 + 1) 5 S m c (intsS B2 (q.is.take i)) ∧ Blk wr b1 33 #[.int .i64 q.code, .slice hA hn hc, .slice aA an ac, .slice iA iN ic, .slice bA bn bc] ∧ Ext w wr) (fun | (i, _, _, _) => iN - i) ((0, S, m, c)) (.cons (by first | exact rfl | exact look_int rfl (by omega) | exact look_slice rfl (by omega)) (.cons (by first | exact rfl | exact look_int rfl (by omega) | exact look_slice rfl (by omega)) (.cons rfl (.cons rfl (.cons rfl (.nil)))))) (⟨Nat.zero_le _, by omega, hO2, hb1, hE⟩) ?_
      intro ⟨i, S, m, c⟩ wr hJ KL3 hKL3
      clear hb1 hE hO2
      obtain ⟨hi, hm, hO, hb1, hE⟩ := hJ
      refine Wc.seq (fun K17 hK17 => ?_)
      refine Wc.keep [(1, _), (3, _), (49, _), (50, _), (51, _)] (.cons rfl (.cons rfl (.cons rfl (.cons rfl (.cons rfl (.nil)))))) ?_
      refine Wc.region ?_
      refine Wl.val rfl rfl rfl (Gives.lss rfl rfl rfl) ?_
      refine Wl.nil ?_
      refine Wx.thenN (hK17 _ _ ?_)
      refine Wc.seq (fun K18 hK18 => ?_)
      refine Wc.cond _ rfl (fun h52 => ?_) (fun h52 => ?_)
      · (first | replace h52 := of_decide_eq_true h52 | replace h52 := nd_true h52 | skip)
        refine Wc.skip ?_
        refine Wx.thenN (hK18 _ _ ?_)
        refine Wc.seq (fun K19 hK19 => ?_)
        refine Wc.block ?_
        refine Wc.seq (fun K20 hK20 => ?_)
        refine Wc.keep [(1, _), (3, _), (49, _), (50, _), (51, _)] (.cons rfl (.cons rfl (.cons rfl (.cons rfl (.cons rfl (.nil)))))) ?_
        obtain ⟨xb, xo, rfl, hbw, z, hz, hcell⟩ := (his.ext hE).at_ (show i < iN by omega)
        refine Wc.region ?_
        refine Wl.val rfl rfl rfl (Gives.ixS (i := _) rfl Tryd.underlying29 (by kernel_rfl) rfl rfl rfl (by omega)) ?_
        refine Wl.val rfl rfl rfl (Gives.ldC rfl (by kernel_rfl) rfl hcell) ?_
        refine Wl.val rfl rfl rfl (Gives.assign rfl rfl) ?_
        refine Wl.nil ?_
        refine Wx.thenN (hK20 _ _ ?_)
        refine Wc.keep [(1, _), (3, _), (9, _), (49, _), (50, _), (51, _)] (.cons rfl (.cons rfl (.cons rfl (.cons rfl (.cons rfl (.cons rfl (.nil))))))) ?_
        refine Wc.region ?_
        refine Wl.val rfl rfl rfl (Gives.move rfl rfl) ?_
        refine Wl.val rfl rfl rfl (Gives.move rfl rfl) ?_
        refine Wl.call rfl rfl rfl rfl Tryd.func54 rfl (by kernel_rfl) rfl (uint_calls (P := fun _ => True) _ S m c _ (hO.bv (fun _ _ => trivial)) (by omega) 8 z) ?_
        rintro x1 w15 ⟨S1, m1, c1, rfl, hO1, hx1⟩
        refine ⟨_, rfl, ?_⟩
        replace hO1 := hO1.mono hb1.lt
        have hl0 := hO.len
        have hl1 := hO1.len
        have hl2 := uintS_len (intsS B2 (q.is.take i)) 8 z
        replace hb1 := hb1.ext hx1
        replace hE := hE.trans hx1
        refine Wl.val rfl rfl rfl (Gives.assign rfl rfl) ?_
        refine Wl.nil ?_
        refine Wx.blockN ?_
        refine Wx.thenN (hK19 _ _ ?_)
        refine Wc.keep [(1, _), (3, _), (49, _), (50, _), (51, _)] (.cons rfl (.cons rfl (.cons rfl (.cons rfl (.cons rfl (.nil)))))) ?_
        refine Wc.region ?_
        refine Wl.val rfl rfl rfl (Gives.add rfl rfl rfl (by first | exact IntWalk.i64_in _ (by omega) | exact u64_in _ (by omega) | exact u32_in _ (by omega) | exact u8_in _ (by omega) | exact rfl)) ?_
        refine Wl.val rfl rfl rfl (Gives.move rfl rfl) ?_
        refine Wl.nil ?_
        refine Wx.thenN ?_
        refine hKL3 (i + 1, S1, m1, c1) _ _ (.cons (by first | exact rfl | exact look_int rfl (by omega) | exact look_slice rfl (by omega)) (.cons (by first | exact rfl | exact look_int rfl (by omega) | exact look_slice rfl (by omega)) (.cons rfl (.cons rfl (.cons rfl (.nil)))))) ⟨by omega, by omega, by unfold intsS at hO1 ⊢; rw [fold_take _ _ _ _ _ hz]; exact hO1, hb1, hE⟩ (by show iN - (i + 1) < iN - i; omega)
      · (first | replace h52 := of_decide_eq_false h52 | replace h52 := nd_false h52 | skip)
        refine Wc.exit ?_
        refine Wx.thenE ?_
        refine Wx.thenE ?_
        refine Wx.hit ?_
        refine Wx.thenN (hK15 _ _ ?_)
        refine Wc.seq (fun K21 hK21 => ?_)
        refine Wc.keep [(1, _), (3, _)] (.cons rfl (.cons rfl (.nil))) ?_
        obtain rfl : iN = i := by omega
        unfold intsS at hO
        rw [fold_all _ _ _ _ hli] at hO
        change OB _ _ _ _ _ _ (intsS B2 q.is) at hO
        refine Wc.region ?_
        refine Wl.val rfl rfl rfl (Gives.move rfl rfl) ?_
        refine Wl.val rfl rfl rfl (Gives.fieldAt 4 rfl Tryd.underlying33 rfl (by kernel_rfl) rfl rfl) ?_
        refine Wl.val rfl rfl rfl (Gives.ldK rfl (by kernel_rfl) rfl hb1 rfl) ?_
        refine Wl.val rfl rfl rfl (Gives.lenS rfl Tryd.underlying31 rfl) ?_
        refine Wl.val rfl rfl rfl (Gives.conv rfl Tryd.underlying3 Tryd.underlying5 rfl (byteOf_int _)) ?_
        refine Wl.does rfl rfl rfl (Does.lit rfl Tryd.underlying36 infoB2 rfl rfl rfl rfl rfl) ?_
        rintro _ w17 ⟨g17, rfl, hs17, hk17, hx17⟩
        have hO3 := hO.ext hx17
        replace hb1 := hb1.ext hx17
        replace hE := hE.trans hx17
        refine Wl.does rfl rfl rfl (Does.appO rfl Tryd.underlying36 infoB rfl rfl hO3 ((mb1 (byteOf (bn : Int)) hk17 rfl).bv (P := fun _ => True) trivial rfl (Nat.le_refl _) (by omega)) (by omega) hb1.lt) ?_
        rintro _ w18 ⟨S4, c4, rfl, hO4, hB4⟩
        replace hE := Ext.step hE hB4 (Nat.le_succ_of_le hg1)
        replace hb1 := Blk.bel hb1 hB4 (Nat.lt_succ_self _)
        have hB3 : intsS B2 q.is ++ [byteOf (bn : Int)] = intsS (authsS (handsS (headS q.code) q.hs) q.us) q.is ++ [byteOf q.bs.length] := by rw [hB2, hlb]
        rw [hB3] at hO4
        generalize hB4' : intsS (authsS (handsS (headS q.code) q.hs) q.us) q.is ++ [byteOf q.bs.length] = B4 at *
        refine Wl.val rfl rfl rfl (Gives.assign rfl rfl) ?_
        refine Wl.nil ?_
        refine Wx.thenN (hK21 _ _ ?_)
        refine Wc.seq (fun K22 hK22 => ?_)
        refine Wc.seq (fun K23 hK23 => ?_)
        refine Wc.keep [(1, _), (3, _)] (.cons rfl (.cons rfl (.nil))) ?_
        refine Wc.region ?_
        refine Wl.val rfl rfl rfl (Gives.fieldAt 4 rfl Tryd.underlying33 rfl (by kernel_rfl) rfl rfl) ?_
        refine Wl.val rfl rfl rfl (Gives.ldK rfl (by kernel_rfl) rfl hb1 rfl) ?_
        refine Wl.val rfl rfl rfl (Gives.lenS rfl Tryd.underlying31 rfl) ?_
        refine Wl.val rfl rfl rfl (Gives.move rfl rfl) ?_
        refine Wl.nil ?_
        refine Wx.thenN (hK23 _ _ ?_)
        refine Wc.block ?_
        refine Wc.keep [(3, _), (67, _), (68, _), (69, _)] (.cons rfl (.cons rfl (.cons rfl (.cons rfl (.nil))))) ?_
        refine Wc.loopC (ι := Nat × Option Addr × Nat × Nat) [(67, _), (68, _)] (fun | (i, S, m, c) => [(69, .int .i64 (i : Int)), (3, .slice S m c)]) (fun | (i, S, m, c), wr => i ≤ bn ∧ m ≤ 131120006 + 65543 * i ∧ OB wr (b1 + 1) 5 S m c (blobsS B4 (q.bs.take i)) ∧ Blk wr b1 33 #[.int .i64 q.code, .slice hA hn hc, .slice aA an ac, .slice iA iN ic, .slice bA bn bc] ∧ Ext w wr) (fun | (i, _, _, _) => bn - i) ((0, S4, m + 1, c4)) (.cons (by first | exact rfl | exact look_int rfl (by omega) | exact look_slice rfl (by omega)) (.cons (by first | exact rfl | exact look_int rfl (by omega) | exact look_slice rfl (by omega)) (.cons rfl (.cons rfl (.nil))))) (⟨Nat.zero_le _, by omega, hO4, hb1, hE⟩) ?_
        intro ⟨i, S, m, c⟩ wr hJ KL4 hKL4
        clear hb1 hE hO4
        obtain ⟨hi, hm, hO, hb1, hE⟩ := hJ
        refine Wc.seq (fun K24 hK24 => ?_)
        refine Wc.keep [(3, _), (67, _), (68, _), (69, _)] (.cons rfl (.cons rfl (.cons rfl (.cons rfl (.nil))))) ?_
        refine Wc.region ?_
        refine Wl.val rfl rfl rfl (Gives.lss rfl rfl rfl) ?_
        refine Wl.nil ?_
        refine Wx.thenN (hK24 _ _ ?_)
        refine Wc.seq (fun K25 hK25 => ?_)
        refine Wc.cond _ rfl (fun h70 => ?_) (fun h70 => ?_)
        · (first | replace h70 := of_decide_eq_true h70 | replace h70 := nd_true h70 | skip)
          refine Wc.skip ?_
          refine Wx.thenN (hK25 _ _ ?_)
          refine Wc.seq (fun K26 hK26 => ?_)
          refine Wc.block ?_
          refine Wc.seq (fun K27 hK27 => ?_)
          refine Wc.keep [(3, _), (67, _), (68, _), (69, _)] (.cons rfl (.cons rfl (.cons rfl (.cons rfl (.nil))))) ?_
          obtain ⟨xb, xo, rfl, hbw, z, zA, zn, zc, hz, hcell, hZ⟩ := (hbs.ext hE).at' (show i < bn by omega)
          have hzn := hZ.len
          have hs6a := hs6 z (List.mem_of_getElem? hz)
          refine Wc.region ?_
          refine Wl.val rfl rfl rfl (Gives.ixS (i := _) rfl Tryd.underlying31 (by kernel_rfl) rfl rfl rfl (by omega)) ?_
          refine Wl.val rfl rfl rfl (Gives.ldC rfl (by kernel_rfl) rfl hcell) ?_
          refine Wl.val rfl rfl rfl (Gives.assign rfl rfl) ?_
          refine Wl.nil ?_
          refine Wx.thenN (hK27 _ _ ?_)
          refine Wc.keep [(3, _), (11, _), (67, _), (68, _), (69, _)] (.cons rfl (.cons rfl (.cons rfl (.cons rfl (.cons rfl (.nil)))))) ?_
          refine Wc.region ?_
          refine Wl.val rfl rfl rfl (Gives.move rfl rfl) ?_
          refine Wl.val rfl rfl rfl (Gives.move rfl rfl) ?_
          refine Wl.call rfl rfl rfl rfl Tryd.func55 rfl (by kernel_rfl) rfl (blob_calls (P := fun _ => True) _ S m c _ (hO.bv (fun _ _ => trivial)) (by omega) zA zn zc z hZ (by omega)) ?_
          rintro x1 w21 ⟨S1, m1, c1, rfl, hO1, hx1⟩
          refine ⟨_, rfl, ?_⟩
          replace hO1 := hO1.mono hb1.lt
          have hl0 := hO.len
          have hl1 := hO1.len
          have hl2 := blobS_len (blobsS B4 (q.bs.take i)) z
          replace hb1 := hb1.ext hx1
          replace hE := hE.trans hx1
          refine Wl.val rfl rfl rfl (Gives.assign rfl rfl) ?_
          refine Wl.nil ?_
          refine Wx.blockN ?_
          refine Wx.thenN (hK26 _ _ ?_)
          refine Wc.keep [(3, _), (67, _), (68, _), (69, _)] (.cons rfl (.cons rfl (.cons rfl (.cons rfl (.nil))))) ?_
          refine Wc.region ?_
          refine Wl.val rfl rfl rfl (Gives.add rfl rfl rfl (by first | exact IntWalk.i64_in _ (by omega) | exact u64_in _ (by omega) | exact u32_in _ (by omega) | exact u8_in _ (by omega) | exact rfl)) ?_
          refine Wl.val rfl rfl rfl (Gives.move rfl rfl) ?_
          refine Wl.nil ?_
          refine Wx.thenN ?_
          refine hKL4 (i + 1, S1, m1, c1) _ _ (.cons (by first | exact rfl | exact look_int rfl (by omega) | exact look_slice rfl (by omega)) (.cons (by first | exact rfl | exact look_int rfl (by omega) | exact look_slice rfl (by omega)) (.cons rfl (.cons rfl (.nil))))) ⟨by omega, by omega, by unfold blobsS at hO1 ⊢; rw [fold_take _ _ _ _ _ hz]; exact hO1, hb1, hE⟩ (by show bn - (i + 1) < bn - i; omega)
        · (first | replace h70 := of_decide_eq_false h70 | replace h70 := nd_false h70 | skip)
          refine Wc.exit ?_
          refine Wx.thenE ?_
          refine Wx.thenE ?_
          refine Wx.hit ?_
          refine Wx.thenN (hK22 _ _ ?_)
          refine Wc.seq (fun K28 hK28 => ?_)
          refine Wc.keep [(3, _)] (.cons rfl (.nil)) ?_
          obtain rfl : bn = i := by omega
          unfold blobsS at hO
          rw [fold_all _ _ _ _ hlb] at hO
          have hO5 : OB wr (b1 + 1) 5 S m c (bodyS q) := by unfold bodyS blobsS; rw [hB4']; exact hO
          have h5 : 5 ≤ m := by rw [← hO5.len]; exact bodyS_len q
          have hl5 := hO5.len
          have hle5 := hO5.le
          clear hO
          refine Wc.regionB (fun q => [4].contains q) [] (.read 0 (.read 1 (.read 2 (.read 3 (.call true 4 .tail .none))))) 5 (by kernel_rfl) (by kernel_rfl) (by kernel_rfl) ?_
          intro w23 hR23
          replace hb1 := hb1.ext hR23.ext
          replace hE := hE.trans hR23.ext
          have hO23_1 : Old w23.heap.size [] b1 := ⟨hb1.lt, trivial⟩
          have hX := Ext.refl w23
          refine RunE.read rfl rfl rfl rfl (fun wS _ => (Gives.move rfl rfl)) ?_
          refine RunE.read rfl rfl rfl rfl (fun wS _ => (Gives.cut rfl Tryd.underlying36 (by kernel_rfl) rfl 2 2 rfl rfl rfl rfl (by omega))) ?_
          refine RunE.read rfl rfl rfl rfl (fun wS _ => (Gives.move rfl rfl)) ?_
          refine RunE.read rfl rfl rfl rfl (fun wS _ => (Gives.lenS rfl Tryd.underlying36 rfl)) ?_
          refine RunE.freeC rfl rfl rfl rfl rfl Tryd.func54 rfl (by kernel_rfl) rfl (uint_calls (P := fun _ => True) _ none 0 0 [] (BV.nil_ _ _) (by omega) 2 (m : Int)) ?_ RunE.none
          rintro x1 w24 ⟨S6, m6, c6, rfl, hO6, hx6⟩
          refine ⟨_, rfl, ?_⟩
          replace hX := hX.trans hx6
          refine RunE.tail rfl ?_
          replace hb1 := hb1.ext hX
          replace hE := hE.trans hX
          refine Wl.does rfl rfl rfl (Does.cpO 2 2 rfl rfl Tryd.underlying36 infoB rfl rfl (hO6.bv (P := fun _ => True) (fun _ _ => trivial)) ((hO5.ext hR23.ext).ext hX) (by omega)) ?_
          rintro _ w25 ⟨rfl, hO7, hB7⟩
          replace hE := Ext.step hE hB7 (Nat.le_succ_of_le hg1)
          replace hb1 := Blk.bel hb1 hB7 (Nat.lt_succ_self _)
          rw [uintS_two] at hO7
          have hO8 := hO7.mono (Nat.le_succ_of_le hg1)
          rw [show spliceB (bodyS q) 2 ([byteAt (m : Int) 1, byteAt (m : Int) 0].take 2) = formS q by rw [← hl5]; exact splice_len _ (by omega)] at hO8
          refine Wl.nil ?_
          refine Wx.thenN (hK28 _ _ ?_)
          refine Wc.seq (fun K29 hK29 => ?_)
          refine Wc.keep [(3, _)] (.cons rfl (.nil)) ?_
          refine Wc.region ?_
          refine Wl.val rfl rfl rfl (Gives.move rfl rfl) ?_
          refine Wl.val rfl rfl rfl (Gives.assign rfl rfl) ?_
          refine Wl.nil ?_
          refine Wx.thenN (hK29 _ _ ?_)
          refine Wc.ret ?_
          refine Wx.ret [_] ⟨rfl, trivial⟩ ?_
          exact ⟨_, _, _, rfl, hO8, hE⟩
end Go.Proofs.YtaekpiejdgahfaaDoor
