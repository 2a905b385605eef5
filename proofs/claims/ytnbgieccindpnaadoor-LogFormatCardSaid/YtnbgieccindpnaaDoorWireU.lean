/- wire.Uint, wire.Blob: program and reference. -/
import Derived.Test.YtnbgieccindpnaaDoorRef1
import Derived.Test.YtnbgieccindpnaaDoorWireS
namespace Go.Proofs.YtnbgieccindpnaaDoor
set_option linter.all false
set_option maxRecDepth 20000
open Go.RowKit
set_option maxHeartbeats 1000000 in
theorem uint_calls {P : Nat → Prop} (w : World) (A : Option Addr) (n c : Nat) (l : List UInt8) (ha : BV w P A n c l) (hn : n ≤ 70368744177664) (size k : Int) :
    Calls Tryd.prog 34 #[.slice A n c, .int .i64 size, .int .i64 k] w fun e w' => ∃ S n' k', e = .returned (.slice S n' k') ∧ OB w' w.heap.size 5 S n' k' (uintS l size k) ∧ Ext w w' := by
  by_cases h1 : 1 ≤ size
  · by_cases h2 : size ≤ 8
    · obtain ⟨s, rfl⟩ := Int.eq_ofNat_of_zero_le (show 0 ≤ size by omega)
      have HL := Lib.hid ha.len
      go_enter Tryd.func34, Tryd.ntmps34
      go_wp2_with (at_builtin; refine wpList_appB (w0 := w) rfl _ _ _ rfl _ infoB Tryd.underlying22 _ _ _ [] rfl (OB.nil_ _ _ _) A n c l rfl ha (by omega) (Ext.refl _) ?_; intro S1 k1 w1 hO1 hE1; simp only [Nat.zero_add, List.nil_append] at hO1)
      go_loopw [7, 8] (fun v i wr => ∃ (j : Nat) (S : Option Addr) (n' k' : Nat), j ≤ s ∧ i = .int .i64 (j - 1 : Int) ∧ v = .slice S n' k' ∧ OB wr w.heap.size 5 S n' k' (upS l k s j) ∧ Ext w wr) (fun _ i _ => (intOf i + 1).toNat)
      case atStart => exact ⟨s, S1, n, k1, Nat.le_refl _, rfl, rfl, by rw [upS_none]; exact hO1, hE1⟩
      case round =>
        obtain ⟨j, S, n', k', hj, rfl, rfl, hO, hE⟩ := hrel
        have hlen : n' ≤ n + 8 := by have := hO.len; have := upS_len l k s j; have := HL.out; omega
        cases j with
        | zero =>
          have hz : ¬ (0 : Int) ≤ ((0 : Nat) : Int) - 1 := by omega
          go_wp2
          go_ret
          exact ⟨S, n', k', rfl, by unfold uintS; rw [if_pos ⟨h1, h2⟩, Int.toNat_natCast, ← upS_all]; exact hO, hE⟩
        | succ j =>
          have HB := Lib.hid (byteAt_int k j)
          go_wp2_with (at_builtin; refine wpList_appB (w0 := w) rfl (.tmp 24) _ _ rfl _ infoB Tryd.underlying22 _ _ _ (upS l k s (j + 1)) rfl (hO.ext ((Ext.refl _).alloc _)) (some ⟨wr.heap.size, 0, none⟩) 1 1 [byteAt k j] rfl (lit1v _ _ _ _ HB.out) (by omega) (hE.alloc _) ?_; intro S2 k2 w2 hO2 hE2)
          go_roundw
          case rel => exact ⟨j, S2, n' + 1, k2, by omega, by go_num, rfl, by rw [upS_step _ _ _ _ (by omega)]; exact hO2, hE2⟩
          case measure => (simp [intOf]; try omega)
    · go_enter Tryd.func34, Tryd.ntmps34
      go_wp2_with (at_builtin; refine wpList_appB (w0 := w) rfl _ _ _ rfl _ infoB Tryd.underlying22 _ _ _ [] rfl (OB.nil_ _ _ _) A n c l rfl ha (by omega) (Ext.refl _) ?_; intro S1 k1 w1 hO1 hE1; simp only [Nat.zero_add, List.nil_append] at hO1)
      go_ret
      exact ⟨S1, n, k1, rfl, by unfold uintS; rw [if_neg (by omega)]; exact hO1, hE1⟩
  · go_enter Tryd.func34, Tryd.ntmps34
    go_wp2_with (at_builtin; refine wpList_appB (w0 := w) rfl _ _ _ rfl _ infoB Tryd.underlying22 _ _ _ [] rfl (OB.nil_ _ _ _) A n c l rfl ha (by omega) (Ext.refl _) ?_; intro S1 k1 w1 hO1 hE1; simp only [Nat.zero_add, List.nil_append] at hO1)
    go_ret
    exact ⟨S1, n, k1, rfl, by unfold uintS; rw [if_neg (by omega)]; exact hO1, hE1⟩
set_option maxHeartbeats 1000000 in
theorem uintR_calls {P : Nat → Prop} (w : World) (A : Option Addr) (n c : Nat) (l : List UInt8) (ha : BV w P A n c l) (hn : n ≤ 70368744177664) (size k : Int) :
    Calls Tryd.prog 49 #[.slice A n c, .int .i64 size, .int .i64 k] w fun e w' => ∃ S n' k', e = .returned (.slice S n' k') ∧ OB w' w.heap.size 5 S n' k' (uintS l size k) ∧ Ext w w' := by
  by_cases h1 : 1 ≤ size
  · by_cases h2 : size ≤ 8
    · obtain ⟨s, rfl⟩ := Int.eq_ofNat_of_zero_le (show 0 ≤ size by omega)
      have HL := Lib.hid ha.len
      go_enter Tryd.func49, Tryd.ntmps49
      go_wp2_with (at_builtin; refine wpList_appB (w0 := w) rfl _ _ _ rfl _ infoB Tryd.underlying22 _ _ _ [] rfl (OB.lit0 w 5 5 (Nat.le_refl _)) A n c l rfl (ha.ext ((Ext.refl _).alloc _)) (by omega) ((Ext.refl _).alloc _) ?_; intro S1 k1 w1 hO1 hE1; simp only [Nat.zero_add, List.nil_append] at hO1)
      go_loopw [7, 8] (fun v i wr => ∃ (j : Nat) (S : Option Addr) (n' k' : Nat), j ≤ s ∧ i = .int .i64 (j - 1 : Int) ∧ v = .slice S n' k' ∧ OB wr w.heap.size 5 S n' k' (upS l k s j) ∧ Ext w wr) (fun _ i _ => (intOf i + 1).toNat)
      case atStart => exact ⟨s, S1, n, k1, Nat.le_refl _, rfl, rfl, by rw [upS_none]; exact hO1, hE1⟩
      case round =>
        obtain ⟨j, S, n', k', hj, rfl, rfl, hO, hE⟩ := hrel
        have hlen : n' ≤ n + 8 := by have := hO.len; have := upS_len l k s j; have := HL.out; omega
        cases j with
        | zero =>
          have hz : ¬ (0 : Int) ≤ ((0 : Nat) : Int) - 1 := by omega
          go_wp2
          go_ret
          exact ⟨S, n', k', rfl, by unfold uintS; rw [if_pos ⟨h1, h2⟩, Int.toNat_natCast, ← upS_all]; exact hO, hE⟩
        | succ j =>
          have HB := Lib.hid (byteAt_int k j)
          go_wp2_with (at_builtin; refine wpList_appB (w0 := w) rfl (.tmp 25) _ _ rfl _ infoB Tryd.underlying22 _ _ _ (upS l k s (j + 1)) rfl (hO.ext ((Ext.refl _).alloc _)) (some ⟨wr.heap.size, 0, none⟩) 1 1 [byteAt k j] rfl (lit1v _ _ _ _ HB.out) (by omega) (hE.alloc _) ?_; intro S2 k2 w2 hO2 hE2)
          go_roundw
          case rel => exact ⟨j, S2, n' + 1, k2, by omega, by go_num, rfl, by rw [upS_step _ _ _ _ (by omega)]; exact hO2, hE2⟩
          case measure => (simp [intOf]; try omega)
    · go_enter Tryd.func49, Tryd.ntmps49
      go_wp2_with (at_builtin; refine wpList_appB (w0 := w) rfl _ _ _ rfl _ infoB Tryd.underlying22 _ _ _ [] rfl (OB.lit0 w 5 5 (Nat.le_refl _)) A n c l rfl (ha.ext ((Ext.refl _).alloc _)) (by omega) ((Ext.refl _).alloc _) ?_; intro S1 k1 w1 hO1 hE1; simp only [Nat.zero_add, List.nil_append] at hO1)
      go_ret
      exact ⟨S1, n, k1, rfl, by unfold uintS; rw [if_neg (by omega)]; exact hO1, hE1⟩
  · go_enter Tryd.func49, Tryd.ntmps49
    go_wp2_with (at_builtin; refine wpList_appB (w0 := w) rfl _ _ _ rfl _ infoB Tryd.underlying22 _ _ _ [] rfl (OB.lit0 w 5 5 (Nat.le_refl _)) A n c l rfl (ha.ext ((Ext.refl _).alloc _)) (by omega) ((Ext.refl _).alloc _) ?_; intro S1 k1 w1 hO1 hE1; simp only [Nat.zero_add, List.nil_append] at hO1)
    go_ret
    exact ⟨S1, n, k1, rfl, by unfold uintS; rw [if_neg (by omega)]; exact hO1, hE1⟩
attribute [local go_sem ↓ high] run_min_nm
theorem blobS_big {l r : List UInt8} (h : 65535 ≤ r.length) : blobS l r = uintS l 2 65535 ++ r.take 65535 := by unfold blobS; rw [Nat.min_eq_right h]; rfl
theorem blobS_small {l r : List UInt8} {m : Nat} (hm : r.length = m) (h : m ≤ 65535) : blobS l r = uintS l 2 (m : Nat) ++ r := by
  unfold blobS; rw [hm, Nat.min_eq_left h, List.take_of_length_le (by omega)]
theorem uintS_len (l : List UInt8) (size n : Int) : (uintS l size n).length ≤ l.length + 8 := by
  unfold uintS
  split
  · rw [List.length_append, beS_len]; omega
  · omega
/-- What Blob hands back. -/
def BlobR (w : World) (l r : List UInt8) (e : Ending) (w' : World) : Prop := ∃ S n' k', e = .returned (.slice S n' k') ∧ OB w' w.heap.size 5 S n' k' (blobS l r) ∧ Ext w w'
set_option maxHeartbeats 1000000 in
theorem blob_calls {P P' : Nat → Prop} (w : World) (A : Option Addr) (n c : Nat) (l : List UInt8) (ha : BV w P A n c l) (hn : n ≤ 35184372088832) (B : Option Addr) (m d : Nat) (r : List UInt8) (hb : BV w P' B m d r) (hm : m ≤ 35184372088832) :
    Calls Tryd.prog 40 #[.slice A n c, .slice B m d] w (BlobR w l r) := by
  have HL := Lib.hid ha.len
  have HM := Lib.hid hb.len
  by_cases h : 65535 ≤ m
  · have hq : iMin (m : Int) 65535 = ((65535 : Nat) : Int) := by unfold iMin; omega
    go_enter Tryd.func40, Tryd.ntmps40
    go_wp2_with (first | ((with_reducible (show wpList _ _ _ (⟨_, Op.slice _ _ _ _ _, _, _, _, _⟩ :: _) _ _)); go_loud (refine wpList_cutB_hi rfl _ _ _ rfl _ Tryd.underlying22 infoB rfl hb 65535 _ rfl h ?_; intro hcut)) | (first | (go_at_call 34; go_loud (refine (uint_calls _ A n c l (ha.ext (by with_reducible repeat (first | exact Ext.refl _ | refine Ext.alloc ?_ _ | refine Ext.drewN ?_ _ | refine Ext.trans ?_ (by assumption)))) (by omega) 2 65535).mono ?_; rintro e w1 ⟨S1, n1, k1, rfl, hO1, hE1⟩)) | (at_builtin; go_loud (refine wpList_appB (w0 := w) rfl _ _ _ rfl _ infoB Tryd.underlying22 _ _ _ (uintS l 2 65535) rfl hO1 B 65535 d (r.take 65535) rfl (hcut.ext (by with_reducible repeat (first | exact Ext.refl _ | refine Ext.alloc ?_ _ | refine Ext.drewN ?_ _ | refine Ext.trans ?_ (by assumption)))) (by have := hO1.len; have := uintS_len l 2 65535; have := HL.out; omega) hE1 ?_; intro S2 k2 w2 hO2 hE2))))
    go_ret
    exact ⟨S2, _, k2, rfl, by rw [blobS_big (by rw [HM.out]; exact h)]; exact hO2, hE2⟩
  · have hq : iMin (m : Int) 65535 = ((m : Nat) : Int) := by unfold iMin; omega
    have hm' : m ≤ m := Nat.le_refl _
    go_enter Tryd.func40, Tryd.ntmps40
    go_wp2_with (first | ((with_reducible (show wpList _ _ _ (⟨_, Op.slice _ _ _ _ _, _, _, _, _⟩ :: _) _ _)); go_loud (refine wpList_cutB_hi rfl _ _ _ rfl _ Tryd.underlying22 infoB rfl hb m _ rfl hm' ?_; intro hcut0; have hcut : BV w P' B m d r := hb)) | (first | (go_at_call 34; go_loud (refine (uint_calls _ A n c l (ha.ext (by with_reducible repeat (first | exact Ext.refl _ | refine Ext.alloc ?_ _ | refine Ext.drewN ?_ _ | refine Ext.trans ?_ (by assumption)))) (by omega) 2 m).mono ?_; rintro e w1 ⟨S1, n1, k1, rfl, hO1, hE1⟩)) | (at_builtin; go_loud (refine wpList_appB (w0 := w) rfl _ _ _ rfl _ infoB Tryd.underlying22 _ _ _ (uintS l 2 m) rfl hO1 B m d r rfl (hcut.ext (by with_reducible repeat (first | exact Ext.refl _ | refine Ext.alloc ?_ _ | refine Ext.drewN ?_ _ | refine Ext.trans ?_ (by assumption)))) (by have := hO1.len; have := uintS_len l 2 m; have := HL.out; omega) hE1 ?_; intro S2 k2 w2 hO2 hE2))))
    go_ret
    exact ⟨S2, _, k2, rfl, by rw [blobS_small HM.out (by omega)]; exact hO2, hE2⟩
set_option maxHeartbeats 1000000 in
theorem blobR_calls {P P' : Nat → Prop} (w : World) (A : Option Addr) (n c : Nat) (l : List UInt8) (ha : BV w P A n c l) (hn : n ≤ 35184372088832) (B : Option Addr) (m d : Nat) (r : List UInt8) (hb : BV w P' B m d r) (hm : m ≤ 35184372088832) :
    Calls Tryd.prog 46 #[.slice A n c, .slice B m d] w (BlobR w l r) := by
  have HL := Lib.hid ha.len
  have HM := Lib.hid hb.len
  by_cases h : (65535 : Int) < m
  · go_enter Tryd.func46, Tryd.ntmps46
    go_wp2_with (first | ((with_reducible (show wpList _ _ _ (⟨_, Op.slice _ _ _ _ _, _, _, _, _⟩ :: _) _ _)); go_loud (refine wpList_cutB_hi rfl _ _ _ rfl _ Tryd.underlying22 infoB rfl hb 65535 _ rfl (by omega) ?_; intro hcut)) | (first | (go_at_call 49; go_loud (refine (uintR_calls _ A n c l (ha.ext (by with_reducible repeat (first | exact Ext.refl _ | refine Ext.alloc ?_ _ | refine Ext.drewN ?_ _ | refine Ext.trans ?_ (by assumption)))) (by omega) 2 65535).mono ?_; rintro e w1 ⟨S1, n1, k1, rfl, hO1, hE1⟩)) | (at_builtin; go_loud (refine wpList_appB (w0 := w) rfl _ _ _ rfl _ infoB Tryd.underlying22 _ _ _ (uintS l 2 65535) rfl hO1 B 65535 d (r.take 65535) rfl (hcut.ext (by with_reducible repeat (first | exact Ext.refl _ | refine Ext.alloc ?_ _ | refine Ext.drewN ?_ _ | refine Ext.trans ?_ (by assumption)))) (by have := hO1.len; have := uintS_len l 2 65535; have := HL.out; omega) hE1 ?_; intro S2 k2 w2 hO2 hE2))))
    go_ret
    exact ⟨S2, _, k2, rfl, by rw [blobS_big (by rw [HM.out]; omega)]; exact hO2, hE2⟩
  · have hcut := hb
    go_enter Tryd.func46, Tryd.ntmps46
    go_wp2_with (first | (go_at_call 49; go_loud (refine (uintR_calls _ A n c l (ha.ext (by with_reducible repeat (first | exact Ext.refl _ | refine Ext.alloc ?_ _ | refine Ext.drewN ?_ _ | refine Ext.trans ?_ (by assumption)))) (by omega) 2 m).mono ?_; rintro e w1 ⟨S1, n1, k1, rfl, hO1, hE1⟩)) | (at_builtin; go_loud (refine wpList_appB (w0 := w) rfl _ _ _ rfl _ infoB Tryd.underlying22 _ _ _ (uintS l 2 m) rfl hO1 B m d r rfl (hcut.ext (by with_reducible repeat (first | exact Ext.refl _ | refine Ext.alloc ?_ _ | refine Ext.drewN ?_ _ | refine Ext.trans ?_ (by assumption)))) (by have := hO1.len; have := uintS_len l 2 m; have := HL.out; omega) hE1 ?_; intro S2 k2 w2 hO2 hE2)))
    go_ret
    exact ⟨S2, _, k2, rfl, by rw [blobS_small HM.out (by omega)]; exact hO2, hE2⟩
end Go.Proofs.YtnbgieccindpnaaDoor
