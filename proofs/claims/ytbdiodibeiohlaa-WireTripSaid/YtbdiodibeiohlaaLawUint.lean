/- WireUint: the walk. -/
import Derived.Test.YtbdiodibeiohlaaWireA
namespace Go.Proofs.Ytbdiodibeiohlaa
set_option linter.all false
open Go.RowKit
theorem same_true {P P' : Nat → Prop} (w : World) (A B : Option Addr) (n c m d : Nat) (l : List UInt8) (ha : BV w P A n c l) (hb : BV w P' B m d l) :
    Calls Try.prog 10 #[.slice A n c, .slice B m d] w fun e w' => e = .returned (.bool true) ∧ Quiet w w' :=
  (same_calls w A B n c m d l l ha hb).mono fun e w' ⟨h1, h2⟩ => ⟨by rw [h1]; simp, h2⟩
set_option maxHeartbeats 1000000 in
theorem wireUint_walk {P : Nat → Prop} (w : World) (A : Option Addr) (n c : Nat) (l : List UInt8) (ha : BV w P A n c l) (size k : Int) :
    Calls Try.prog 3 #[.slice A n c, .int .i64 size, .int .i64 k] w fun e w' => e = .returned (.bool true) ∧ Ext w w' := by
  by_cases hn : (n : Int) ≤ 100
  · go_enter Try.func3, Try.ntmps3
    go_wp2_with (go_at_call 9; go_loud (refine (awake_calls w).mono ?_; rintro e w1 ⟨rfl, hE1⟩))
    go_loopw [7] (fun i wr => ∃ s : Int, 0 ≤ s ∧ s ≤ 10 ∧ i = .int .i64 s ∧ Ext w wr) (fun i _ => (10 - intOf i).toNat)
    case atStart => exact ⟨0, by omega, by omega, rfl, hE1⟩
    case round =>
      obtain ⟨s, hs0, hs1, rfl, hE⟩ := hrel
      clear hE1
      by_cases hlt : s < 10
      · go_wp2_with (first | (go_at_call 11; go_loud (refine (uint_calls _ A n c l (by refine BV.ext (by assumption) ?_; (with_reducible repeat (first | exact Ext.refl _ | refine Ext.alloc ?_ _ | refine Ext.drewN ?_ _ | refine Ext.trans ?_ (by assumption)))) (by omega) s k).mono ?_; rintro e w5 ⟨S5, n5, k5, rfl, hO5, hE5⟩)) | (go_at_call 12; go_loud (refine (uintR_calls _ A n c l (by refine BV.ext (by assumption) ?_; (with_reducible repeat (first | exact Ext.refl _ | refine Ext.alloc ?_ _ | refine Ext.drewN ?_ _ | refine Ext.trans ?_ (by assumption)))) (by omega) s k).mono ?_; rintro e w6 ⟨S6, n6, k6, rfl, hO6, hE6⟩)) | (go_at_call 10; go_loud (refine (same_true w6 _ _ _ _ _ _ _ (OB.bv (P := fun _ => True) (hO5.ext hE6) (fun _ _ => trivial)) (OB.bv (P := fun _ => True) hO6 (fun _ _ => trivial))).mono ?_; rintro e w7 ⟨rfl, q7, rfl⟩)))
        go_roundw
        case rel => exact ⟨s + 1, by omega, by omega, by go_num, (by with_reducible repeat (first | exact Ext.refl _ | refine Ext.alloc ?_ _ | refine Ext.drewN ?_ _ | refine Ext.trans ?_ (by assumption)))⟩
        case measure => (simp [intOf]; try omega)
      · go_wp2_with (first | (go_at_call 11; go_loud (refine (uint_calls _ A n c l (by refine BV.ext (by assumption) ?_; (with_reducible repeat (first | exact Ext.refl _ | refine Ext.alloc ?_ _ | refine Ext.drewN ?_ _ | refine Ext.trans ?_ (by assumption)))) (by omega) size k).mono ?_; rintro e w5 ⟨S5, n5, k5, rfl, hO5, hE5⟩)) | (go_at_call 12; go_loud (refine (uintR_calls _ A n c l (by refine BV.ext (by assumption) ?_; (with_reducible repeat (first | exact Ext.refl _ | refine Ext.alloc ?_ _ | refine Ext.drewN ?_ _ | refine Ext.trans ?_ (by assumption)))) (by omega) size k).mono ?_; rintro e w6 ⟨S6, n6, k6, rfl, hO6, hE6⟩)) | (go_at_call 10; go_loud (refine (same_true w6 _ _ _ _ _ _ _ (OB.bv (P := fun _ => True) (hO5.ext hE6) (fun _ _ => trivial)) (OB.bv (P := fun _ => True) hO6 (fun _ _ => trivial))).mono ?_; rintro e w7 ⟨rfl, q7, rfl⟩)))
        go_ret
        exact ⟨rfl, (by with_reducible repeat (first | exact Ext.refl _ | refine Ext.alloc ?_ _ | refine Ext.drewN ?_ _ | refine Ext.trans ?_ (by assumption)))⟩
  · go_enter Try.func3, Try.ntmps3
    go_wp2_with (go_at_call 9; go_loud (refine (awake_calls w).mono ?_; rintro e w1 ⟨rfl, hE1⟩))
    go_ret
    exact ⟨rfl, hE1⟩
end Go.Proofs.Ytbdiodibeiohlaa
