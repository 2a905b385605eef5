/- The disk of the program: contracts of its functions. -/
import Derived.Test.YthbpddblejnjjaaRef1
import Derived.Test.YthbpddblejnjjaaDiskS
import Derived.Test.YthbpddblejnjjaaReg
namespace Go.Proofs.Ythbpddblejnjjaa
set_option linter.all false
open Go.RowKit
set_option linter.unusedVariables false
set_option linter.unusedSimpArgs false

attribute [local go_sem ↓ high] run_max_nm run_min_nm

theorem there_calls (w : World) (A : Option Addr) (n c : Nat) (wr ct tn : Int) (off : Bool) (area : Int) (hn : n ≤ 70368744177664) :
    Calls Try.prog 28 #[.agg #[.slice A n c, .int .i64 wr, .int .i64 ct, .int .i64 tn, .bool off], .int .i64 area] w fun e w' =>
      e = .returned (.bool (decide (0 ≤ area ∧ area < n))) ∧ Ext w w' := by
  by_cases h0 : 0 ≤ area
  · by_cases h1 : area < n
    · go_enter Try.func28, Try.ntmps28
      go_wp2
      go_ret
      exact ⟨by simp; omega, (Ext.refl _).alloc _⟩
    · go_enter Try.func28, Try.ntmps28
      go_wp2
      go_ret
      exact ⟨by simp; omega, (Ext.refl _).alloc _⟩
  · go_enter Try.func28, Try.ntmps28
    go_wp2
    go_ret
    exact ⟨by simp; omega, (Ext.refl _).alloc _⟩

set_option maxHeartbeats 1000000 in
theorem write1_calls {P : Nat → Prop} (w : World) (A : Option Addr) (n c : Nat) (l : List UInt8) (ha : BV w P A n c l) (hn : n ≤ 35184372088832)
   (k : Nat) (D : Option Addr) (m d : Nat) (r : List UInt8) (hd : BV w P D m d r) (hk : k ≤ m) (hm : m ≤ 35184372088832) (bp bq : Nat) (t : Bool)
   (hp : w.cell? ⟨bp, 0, none⟩ = some (.slice D m d)) (hq : w.cell? ⟨bq, 0, none⟩ = some (.bool t)) (hbp : bp < w.heap.size) (hbq : bq < w.heap.size) :
    Calls Try.prog 31 #[.slice A n c, .int .i64 k, .pointer (some ⟨bp, 0, none⟩), .pointer (some ⟨bq, 0, none⟩)] w fun e w' =>
      ∃ S n' k', e = .returned (.slice S n' k') ∧ OB w' w.heap.size 5 S n' k' (write1S t k l r) ∧ Ext w w' := by
  have HL := Lib.hid ha.len
  obtain ⟨i0, hi0, hz0, hz1, hz2⟩ := info_parts infoB
  cases t with
  | false =>
    go_enter Try.func31, Try.ntmps31
    go_wp2_with (first
      | (refine wpList_cut_hi w rfl _ _ _ rfl _ i0 1 Try.underlying22 hi0 hz1 _ _ _ (u8s r) rfl hd k _ rfl hk ?_; intro hr; replace hr := BV.of_take hr)
      | (at_builtin
         refine wpList_appB (w0 := w) rfl _ _ _ rfl _ infoB Try.underlying22 _ _ _ [] rfl (OB.nil_ _ _ _) D k d (r.take k) rfl hr (by omega) (Ext.refl _) ?_
         intro S k' w1 hown hE; obtain ⟨hc1, hf1⟩ := hE.cells))
    go_ret
    exact ⟨S, _, k', rfl, by simpa [write1S] using hown, hE⟩
  | true =>
    by_cases hkn : k < n
    · go_enter Try.func31, Try.ntmps31
      go_wp2_with (first
        | (refine wpList_cut_hi w rfl (.tmp 8) _ _ rfl _ i0 1 Try.underlying22 hi0 hz1 _ _ _ (u8s r) rfl hd k _ rfl hk ?_; intro hr; replace hr := BV.of_take hr)
        | (at_builtin
           refine wpList_appB (w0 := w) rfl _ (.tmp 10) _ rfl _ infoB Try.underlying22 _ _ _ [] rfl (OB.nil_ _ _ _) D k d (r.take k) rfl hr (by omega) (Ext.refl _) ?_
           intro S k' w1 hown hE; obtain ⟨hc1, hf1⟩ := hE.cells; simp only [Nat.zero_add, List.nil_append] at hown)
        | (refine wpList_cut_lo w1 rfl (.tmp 20) _ _ rfl _ i0 1 Try.underlying22 hi0 hz1 _ _ _ (u8s l) rfl (BV.ext ha hE) k _ rfl (by omega) ?_; intro A' hr2; replace hr2 := BV.of_drop hr2)
        | (at_builtin
           refine wpList_appB (w0 := w) rfl (.tmp 19) (.tmp 22) _ rfl _ infoB Try.underlying22 _ _ _ (r.take k) rfl hown A' (n - k) (c - k) (l.drop k) rfl hr2 (by omega) hE ?_
           intro S2 k2 w2 hown2 hE2))
      go_ret
      exact ⟨S2, _, k2, rfl, by simpa [write1S, HL.out, hkn] using hown2, hE2⟩
    · go_enter Try.func31, Try.ntmps31
      go_wp2_with (first
        | (refine wpList_cut_hi w rfl _ _ _ rfl _ i0 1 Try.underlying22 hi0 hz1 _ _ _ (u8s r) rfl hd k _ rfl hk ?_; intro hr; replace hr := BV.of_take hr)
        | (at_builtin
           refine wpList_appB (w0 := w) rfl _ _ _ rfl _ infoB Try.underlying22 _ _ _ [] rfl (OB.nil_ _ _ _) D k d (r.take k) rfl hr (by omega) (Ext.refl _) ?_
           intro S k' w1 hown hE; obtain ⟨hc1, hf1⟩ := hE.cells))
      go_ret
      exact ⟨S, _, k', rfl, by simpa [write1S, HL.out, hkn] using hown, hE⟩

theorem append1_calls {P : Nat → Prop} (w : World) (A : Option Addr) (n c : Nat) (l : List UInt8) (ha : BV w P A n c l) (hn : n ≤ 35184372088832)
   (k : Nat) (D : Option Addr) (m d : Nat) (r : List UInt8) (hd : BV w P D m d r) (hk : k ≤ m) (hm : m ≤ 35184372088832) (bp : Nat)
   (hp : w.cell? ⟨bp, 0, none⟩ = some (.slice D m d)) (hbp : bp < w.heap.size) :
    Calls Try.prog 33 #[.slice A n c, .int .i64 k, .pointer (some ⟨bp, 0, none⟩)] w fun e w' =>
      ∃ S n' k', e = .returned (.slice S n' k') ∧ OB w' w.heap.size 5 S n' k' (append1S k l r) ∧ Ext w w' := by
  obtain ⟨i0, hi0, hz0, hz1, hz2⟩ := info_parts infoB
  go_enter Try.func33, Try.ntmps33
  go_wp2_with fail
  refine wp_region_facts Ext (fun i v w' => match i with | 0 => v = .slice A n c | 1 => ∃ S k', v = .slice S n k' ∧ OB w' w.heap.size 5 S n k' l | 2 => v = .slice D m d | 3 => v = .int .i64 k | 4 => v = .slice D k d ∧ BV w' P D k d (r.take k) | _ => True) 5 (by kernel_rfl) (by kernel_rfl) Ext.refl (fun _ _ _ => Ext.trans) ?st ?steps ?tail
  case st =>
    intro i v w1 w2 h e
    match i, h with
    | 0, h => exact h
    | 1, ⟨S, k', h1, h2⟩ => exact ⟨S, k', h1, h2.ext e⟩
    | 2, h => exact h
    | 3, h => exact h
    | 4, ⟨h1, h2⟩ => exact ⟨h1, h2.ext e⟩
    | _ + 5, _ => trivial
  case steps =>
    refine ⟨fun vs w1 hE0 hF => (have hE := Ext.drewL hE0; ?_), fun vs w1 hE0 hF => (have hE := Ext.drewL hE0; ?_), fun vs w1 hE0 hF => (have hE := Ext.drewL hE0; ?_), fun vs w1 hE0 hF => (have hE := Ext.drewL hE0; ?_), fun vs w1 hE0 hF => (have hE := Ext.drewL hE0; ?_), trivial⟩
    · simp only [fillA, List.take, Act.put, List.setIfInBounds_toArray, List.set, Nat.zero_add, Nat.reduceAdd]
      go_wp2
      exact ⟨rfl, Ext.refl _, rfl⟩
    · have h0 : vs 0 = .slice A n c := hF 0 (by kernel_rfl)
      clear hF
      simp only [fillA, List.take, Act.put, List.setIfInBounds_toArray, List.set, Nat.zero_add, Nat.reduceAdd, h0]
      go_wp2_with (at_builtin
                   refine wpList_appB (w0 := w1) rfl _ _ _ rfl _ infoB Try.underlying22 _ _ _ [] rfl (OB.nil_ _ _ _) A n c l rfl (BV.ext ha hE) (by omega) (Ext.refl _) ?_
                   intro S k' w2 hown hE2)
      exact ⟨rfl, hE2, S, k', by simp, by simpa using hown.mono hE.size⟩
    · clear hF
      obtain ⟨hc1, _⟩ := hE.cells
      simp only [fillA, List.take, Act.put, List.setIfInBounds_toArray, List.set, Nat.zero_add, Nat.reduceAdd]
      go_wp2
      exact ⟨rfl, Ext.refl _, rfl⟩
    · clear hF
      simp only [fillA, List.take, Act.put, List.setIfInBounds_toArray, List.set, Nat.zero_add, Nat.reduceAdd]
      go_wp2
      exact ⟨rfl, Ext.refl _, rfl⟩
    · have h2 : vs 2 = .slice D m d := hF 2 (by kernel_rfl)
      have h3 : vs 3 = .int .i64 k := hF 3 (by kernel_rfl)
      clear hF
      simp only [fillA, List.take, Act.put, List.setIfInBounds_toArray, List.set, Nat.zero_add, Nat.reduceAdd, h2, h3]
      go_wp2_with (refine wpList_cut_hi w1 rfl _ _ _ rfl _ i0 1 Try.underlying22 hi0 hz1 _ _ _ (u8s r) rfl (BV.ext hd hE) k _ rfl hk ?_; intro hr; replace hr := BV.of_take hr)
      exact ⟨rfl, Ext.refl _, rfl, hr⟩
  case tail =>
    intro vs w1 hE0 hF
    have hE := Ext.drewL hE0
    obtain ⟨S, k', h1, hown⟩ := hF 1 (by omega)
    obtain ⟨h4, hr⟩ := hF 4 (by omega)
    clear hF
    simp only [fillA, List.take, List.drop, Act.put, List.setIfInBounds_toArray, List.set, Nat.zero_add, Nat.reduceAdd, h1, h4]
    go_wp2_with (at_builtin; refine wpList_appB (w0 := w) rfl _ _ _ rfl _ infoB Try.underlying22 _ _ _ l rfl hown D k d (r.take k) rfl hr (by omega) hE ?_; intro S2 k2 w2 hown2 hE2)
    go_ret
    exact ⟨S2, _, k2, rfl, hown2, hE2⟩
end Go.Proofs.Ythbpddblejnjjaa
