/- The disk of the program: contracts of its functions. -/
import Derived.Test.YtbbeoojlgfegjaaDoorRef1
import Derived.Test.YtbbeoojlgfegjaaDoorDiskS
import Derived.Test.YtbbeoojlgfegjaaDoorReg
namespace Go.Proofs.YtbbeoojlgfegjaaDoor
set_option linter.all false
open Go.RowKit
set_option linter.unusedVariables false
set_option linter.unusedSimpArgs false

attribute [local go_sem ↓ high] run_max_nm run_min_nm

theorem there_calls (w : World) (A : Option Addr) (n c : Nat) (wr ct tn : Int) (off : Bool) (area : Int) (hn : n ≤ 70368744177664) :
    Calls Tryd.prog 46 #[.agg #[.slice A n c, .int .i64 wr, .int .i64 ct, .int .i64 tn, .bool off], .int .i64 area] w fun e w' =>
      e = .returned (.bool (decide (0 ≤ area ∧ area < n))) ∧ Ext w w' := by
  by_cases h0 : 0 ≤ area
  · by_cases h1 : area < n
    · go_enter Tryd.func46, Tryd.ntmps46
      go_wp2
      go_ret
      exact ⟨by simp; omega, (Ext.refl _).alloc _⟩
    · go_enter Tryd.func46, Tryd.ntmps46
      go_wp2
      go_ret
      exact ⟨by simp; omega, (Ext.refl _).alloc _⟩
  · go_enter Tryd.func46, Tryd.ntmps46
    go_wp2
    go_ret
    exact ⟨by simp; omega, (Ext.refl _).alloc _⟩

set_option maxRecDepth 100000 in
set_option maxHeartbeats 1000000 in
theorem write1_calls {P : Nat → Prop} (w : World) (A : Option Addr) (n c : Nat) (l : List UInt8) (ha : BV w P A n c l) (hn : n ≤ 35184372088832)
   (k : Nat) (D : Option Addr) (m d : Nat) (r : List UInt8) (hd : BV w P D m d r) (hk : k ≤ m) (hm : m ≤ 35184372088832) (bp bq : Nat) (t : Bool)
   (hp : w.cell? ⟨bp, 0, none⟩ = some (.slice D m d)) (hq : w.cell? ⟨bq, 0, none⟩ = some (.bool t)) (hbp : bp < w.heap.size) (hbq : bq < w.heap.size) :
    Calls Tryd.prog 43 #[.slice A n c, .int .i64 k, .pointer (some ⟨bp, 0, none⟩), .pointer (some ⟨bq, 0, none⟩)] w fun e w' =>
      ∃ S n' k', e = .returned (.slice S n' k') ∧ OB w' w.heap.size 5 S n' k' (write1S t k l r) ∧ Ext w w' := by
  have HL := Lib.hid ha.len
  obtain ⟨i0, hi0, hz0, hz1, hz2⟩ := info_parts infoB
  cases t with
  | false =>
    go_enter Tryd.func43, Tryd.ntmps43
    go_wp2_with (first
      | (refine wpList_cut_hi w rfl _ _ _ rfl _ i0 1 Tryd.underlying23 hi0 hz1 _ _ _ (u8s r) rfl hd k _ rfl hk ?_; intro hr; replace hr := BV.of_take hr)
      | (at_builtin
         refine wpList_appB (w0 := w) rfl _ _ _ rfl _ infoB Tryd.underlying23 _ _ _ [] rfl (OB.nil_ _ _ _) D k d (r.take k) rfl hr (by omega) (Ext.refl _) ?_
         intro S k' w1 hown hE; obtain ⟨hc1, hf1⟩ := hE.cells))
    go_ret
    exact ⟨S, _, k', rfl, by simpa [write1S] using hown, hE⟩
  | true =>
    by_cases hkn : k < n
    · go_enter Tryd.func43, Tryd.ntmps43
      go_wp2_with (first
        | (refine wpList_cut_hi w rfl (.tmp 8) _ _ rfl _ i0 1 Tryd.underlying23 hi0 hz1 _ _ _ (u8s r) rfl hd k _ rfl hk ?_; intro hr; replace hr := BV.of_take hr)
        | (at_builtin
           refine wpList_appB (w0 := w) rfl _ (.tmp 10) _ rfl _ infoB Tryd.underlying23 _ _ _ [] rfl (OB.nil_ _ _ _) D k d (r.take k) rfl hr (by omega) (Ext.refl _) ?_
           intro S k' w1 hown hE; obtain ⟨hc1, hf1⟩ := hE.cells; simp only [Nat.zero_add, List.nil_append] at hown)
        | (refine wpList_cut_lo w1 rfl (.tmp 20) _ _ rfl _ i0 1 Tryd.underlying23 hi0 hz1 _ _ _ (u8s l) rfl (BV.ext ha hE) k _ rfl (by omega) ?_; intro A' hr2; replace hr2 := BV.of_drop hr2)
        | (at_builtin
           refine wpList_appB (w0 := w) rfl (.tmp 19) (.tmp 22) _ rfl _ infoB Tryd.underlying23 _ _ _ (r.take k) rfl hown A' (n - k) (c - k) (l.drop k) rfl hr2 (by omega) hE ?_
           intro S2 k2 w2 hown2 hE2))
      go_ret
      exact ⟨S2, _, k2, rfl, by simpa [write1S, HL.out, hkn] using hown2, hE2⟩
    · go_enter Tryd.func43, Tryd.ntmps43
      go_wp2_with (first
        | (refine wpList_cut_hi w rfl _ _ _ rfl _ i0 1 Tryd.underlying23 hi0 hz1 _ _ _ (u8s r) rfl hd k _ rfl hk ?_; intro hr; replace hr := BV.of_take hr)
        | (at_builtin
           refine wpList_appB (w0 := w) rfl _ _ _ rfl _ infoB Tryd.underlying23 _ _ _ [] rfl (OB.nil_ _ _ _) D k d (r.take k) rfl hr (by omega) (Ext.refl _) ?_
           intro S k' w1 hown hE; obtain ⟨hc1, hf1⟩ := hE.cells))
      go_ret
      exact ⟨S, _, k', rfl, by simpa [write1S, HL.out, hkn] using hown, hE⟩

end Go.Proofs.YtbbeoojlgfegjaaDoor
