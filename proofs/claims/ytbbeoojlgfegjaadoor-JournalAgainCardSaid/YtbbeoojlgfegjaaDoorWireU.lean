/- wire.Uint, wire.Blob: program and reference. -/
import Derived.Test.YtbbeoojlgfegjaaDoorRef1
import Derived.Test.YtbbeoojlgfegjaaDoorWireS
namespace Go.Proofs.YtbbeoojlgfegjaaDoor
set_option linter.all false
open Go.RowKit
set_option maxHeartbeats 1000000 in
theorem uint_calls {P : Nat → Prop} (w : World) (A : Option Addr) (n c : Nat) (l : List UInt8) (ha : BV w P A n c l) (hn : n ≤ 70368744177664) (size k : Int) :
    Calls Tryd.prog 32 #[.slice A n c, .int .i64 size, .int .i64 k] w fun e w' => ∃ S n' k', e = .returned (.slice S n' k') ∧ OB w' w.heap.size 5 S n' k' (uintS l size k) ∧ Ext w w' := by
  by_cases h1 : 1 ≤ size
  · by_cases h2 : size ≤ 8
    · obtain ⟨s, rfl⟩ := Int.eq_ofNat_of_zero_le (show 0 ≤ size by omega)
      have HL := Lib.hid ha.len
      go_enter Tryd.func32, Tryd.ntmps32
      go_wp2_with (at_builtin; refine wpList_appB (w0 := w) rfl _ _ _ rfl _ infoB Tryd.underlying23 _ _ _ [] rfl (OB.nil_ _ _ _) A n c l rfl ha (by omega) (Ext.refl _) ?_; intro S1 k1 w1 hO1 hE1; simp only [Nat.zero_add, List.nil_append] at hO1)
      go_loopw [7, 8] (fun v i wr => ∃ (j : Nat) (S : Option Addr) (n' k' : Nat), j ≤ s ∧ i = .int .i64 (j - 1 : Int) ∧ v = .slice S n' k' ∧ OB wr w.heap.size 5 S n' k' (upS l k s j) ∧ Ext w wr) (fun _ i _ => (intOf i + 1).toNat)
      case atStart => exact ⟨s, S1, n, k1, Nat.le_refl _, rfl, rfl, by rw [upS_none]; exact hO1, hE1⟩
      case round =>
        obtain ⟨j, S, n', k', hj, rfl, rfl, hO, hE⟩ := hrel
        have hlen : n' ≤ n + 8 := by have := hO.len; have := upS_len l k s j; have := HL.out; omega
        cases j with
        | zero =>
          have hz : ¬ (0 : Int) ≤ ((0 : Nat) : Int) - 1 := by omega
          go_wp2
          go_ret
          exact ⟨S, n', k', rfl, by unfold uintS; rw [if_pos ⟨h1, h2⟩, Int.toNat_natCast, ← upS_all]; exact hO, hE⟩
        | succ j =>
          have HB := Lib.hid (byteAt_int k j)
          go_wp2_with (at_builtin; refine wpList_appB (w0 := w) rfl (.tmp 24) _ _ rfl _ infoB Tryd.underlying23 _ _ _ (upS l k s (j + 1)) rfl (hO.ext ((Ext.refl _).alloc _)) (some ⟨wr.heap.size, 0, none⟩) 1 1 [byteAt k j] rfl (lit1v _ _ _ _ HB.out) (by omega) (hE.alloc _) ?_; intro S2 k2 w2 hO2 hE2)
          go_roundw
          case rel => exact ⟨j, S2, n' + 1, k2, by omega, by go_num, rfl, by rw [upS_step _ _ _ _ (by omega)]; exact hO2, hE2⟩
          case measure => (simp [intOf]; try omega)
    · go_enter Tryd.func32, Tryd.ntmps32
      go_wp2_with (at_builtin; refine wpList_appB (w0 := w) rfl _ _ _ rfl _ infoB Tryd.underlying23 _ _ _ [] rfl (OB.nil_ _ _ _) A n c l rfl ha (by omega) (Ext.refl _) ?_; intro S1 k1 w1 hO1 hE1; simp only [Nat.zero_add, List.nil_append] at hO1)
      go_ret
      exact ⟨S1, n, k1, rfl, by unfold uintS; rw [if_neg (by omega)]; exact hO1, hE1⟩
  · go_enter Tryd.func32, Tryd.ntmps32
    go_wp2_with (at_builtin; refine wpList_appB (w0 := w) rfl _ _ _ rfl _ infoB Tryd.underlying23 _ _ _ [] rfl (OB.nil_ _ _ _) A n c l rfl ha (by omega) (Ext.refl _) ?_; intro S1 k1 w1 hO1 hE1; simp only [Nat.zero_add, List.nil_append] at hO1)
    go_ret
    exact ⟨S1, n, k1, rfl, by unfold uintS; rw [if_neg (by omega)]; exact hO1, hE1⟩
set_option maxHeartbeats 1000000 in
theorem uintR_calls {P : Nat → Prop} (w : World) (A : Option Addr) (n c : Nat) (l : List UInt8) (ha : BV w P A n c l) (hn : n ≤ 70368744177664) (size k : Int) :
    Calls Tryd.prog 40 #[.slice A n c, .int .i64 size, .int .i64 k] w fun e w' => ∃ S n' k', e = .returned (.slice S n' k') ∧ OB w' w.heap.size 5 S n' k' (uintS l size k) ∧ Ext w w' := by
  by_cases h1 : 1 ≤ size
  · by_cases h2 : size ≤ 8
    · obtain ⟨s, rfl⟩ := Int.eq_ofNat_of_zero_le (show 0 ≤ size by omega)
      have HL := Lib.hid ha.len
      go_enter Tryd.func40, Tryd.ntmps40
      go_wp2_with (at_builtin; refine wpList_appB (w0 := w) rfl _ _ _ rfl _ infoB Tryd.underlying23 _ _ _ [] rfl (OB.lit0 w 5 5 (Nat.le_refl _)) A n c l rfl (ha.ext ((Ext.refl _).alloc _)) (by omega) ((Ext.refl _).alloc _) ?_; intro S1 k1 w1 hO1 hE1; simp only [Nat.zero_add, List.nil_append] at hO1)
      go_loopw [7, 8] (fun v i wr => ∃ (j : Nat) (S : Option Addr) (n' k' : Nat), j ≤ s ∧ i = .int .i64 (j - 1 : Int) ∧ v = .slice S n' k' ∧ OB wr w.heap.size 5 S n' k' (upS l k s j) ∧ Ext w wr) (fun _ i _ => (intOf i + 1).toNat)
      case atStart => exact ⟨s, S1, n, k1, Nat.le_refl _, rfl, rfl, by rw [upS_none]; exact hO1, hE1⟩
      case round =>
        obtain ⟨j, S, n', k', hj, rfl, rfl, hO, hE⟩ := hrel
        have hlen : n' ≤ n + 8 := by have := hO.len; have := upS_len l k s j; have := HL.out; omega
        cases j with
        | zero =>
          have hz : ¬ (0 : Int) ≤ ((0 : Nat) : Int) - 1 := by omega
          go_wp2
          go_ret
          exact ⟨S, n', k', rfl, by unfold uintS; rw [if_pos ⟨h1, h2⟩, Int.toNat_natCast, ← upS_all]; exact hO, hE⟩
        | succ j =>
          have HB := Lib.hid (byteAt_int k j)
          go_wp2_with (at_builtin; refine wpList_appB (w0 := w) rfl (.tmp 25) _ _ rfl _ infoB Tryd.underlying23 _ _ _ (upS l k s (j + 1)) rfl (hO.ext ((Ext.refl _).alloc _)) (some ⟨wr.heap.size, 0, none⟩) 1 1 [byteAt k j] rfl (lit1v _ _ _ _ HB.out) (by omega) (hE.alloc _) ?_; intro S2 k2 w2 hO2 hE2)
          go_roundw
          case rel => exact ⟨j, S2, n' + 1, k2, by omega, by go_num, rfl, by rw [upS_step _ _ _ _ (by omega)]; exact hO2, hE2⟩
          case measure => (simp [intOf]; try omega)
    · go_enter Tryd.func40, Tryd.ntmps40
      go_wp2_with (at_builtin; refine wpList_appB (w0 := w) rfl _ _ _ rfl _ infoB Tryd.underlying23 _ _ _ [] rfl (OB.lit0 w 5 5 (Nat.le_refl _)) A n c l rfl (ha.ext ((Ext.refl _).alloc _)) (by omega) ((Ext.refl _).alloc _) ?_; intro S1 k1 w1 hO1 hE1; simp only [Nat.zero_add, List.nil_append] at hO1)
      go_ret
      exact ⟨S1, n, k1, rfl, by unfold uintS; rw [if_neg (by omega)]; exact hO1, hE1⟩
  · go_enter Tryd.func40, Tryd.ntmps40
    go_wp2_with (at_builtin; refine wpList_appB (w0 := w) rfl _ _ _ rfl _ infoB Tryd.underlying23 _ _ _ [] rfl (OB.lit0 w 5 5 (Nat.le_refl _)) A n c l rfl (ha.ext ((Ext.refl _).alloc _)) (by omega) ((Ext.refl _).alloc _) ?_; intro S1 k1 w1 hO1 hE1; simp only [Nat.zero_add, List.nil_append] at hO1)
    go_ret
    exact ⟨S1, n, k1, rfl, by unfold uintS; rw [if_neg (by omega)]; exact hO1, hE1⟩
attribute [local go_sem ↓ high] run_min_nm
theorem blobS_big {l r : List UInt8} (h : 65535 ≤ r.length) : blobS l r = uintS l 2 65535 ++ r.take 65535 := by unfold blobS; rw [Nat.min_eq_right h]; rfl
theorem blobS_small {l r : List UInt8} {m : Nat} (hm : r.length = m) (h : m ≤ 65535) : blobS l r = uintS l 2 (m : Nat) ++ r := by
  unfold blobS; rw [hm, Nat.min_eq_left h, List.take_of_length_le (by omega)]
theorem uintS_len (l : List UInt8) (size n : Int) : (uintS l size n).length ≤ l.length + 8 := by
  unfold uintS
  split
  · rw [List.length_append, beS_len]; omega
  · omega
/-- What Blob hands back. -/
def BlobR (w : World) (l r : List UInt8) (e : Ending) (w' : World) : Prop := ∃ S n' k', e = .returned (.slice S n' k') ∧ OB w' w.heap.size 5 S n' k' (blobS l r) ∧ Ext w w'
end Go.Proofs.YtbbeoojlgfegjaaDoor
