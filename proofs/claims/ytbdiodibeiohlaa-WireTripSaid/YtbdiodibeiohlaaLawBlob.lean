/- WireBlob: the walk. -/
import Derived.Test.YtbdiodibeiohlaaLawUint
namespace Go.Proofs.Ytbdiodibeiohlaa
set_option linter.all false
open Go.RowKit
set_option maxHeartbeats 1000000 in
theorem wireBlob_walk {P P' : Nat → Prop} (w : World) (A : Option Addr) (n c : Nat) (l : List UInt8) (ha : BV w P A n c l) (B : Option Addr) (m d : Nat) (r : List UInt8) (hb : BV w P' B m d r) (long : Bool) :
    Calls Try.prog 5 #[.slice A n c, .slice B m d, .bool long] w fun e w' => e = .returned (.bool true) ∧ Ext w w' := by
  by_cases hn : (n : Int) ≤ 100
  · by_cases hm : (m : Int) ≤ 300
    · cases long with
      | false =>
        go_enter Try.func5, Try.ntmps5
        go_upto_region 8 with (go_at_call 9; go_loud (refine (awake_calls w).mono ?_; rintro e w1 ⟨rfl, hE1⟩))
        · go_wp2_with (first | (go_at_call 18; go_loud (refine (blob_calls _ A n c l (by refine BV.ext (by assumption) ?_; (with_reducible repeat (first | exact Ext.refl _ | refine Ext.alloc ?_ _ | refine Ext.drewN ?_ _ | refine Ext.trans ?_ (by assumption)))) (by omega) _ m d r (by refine BV.ext (by assumption) ?_; (with_reducible repeat (first | exact Ext.refl _ | refine Ext.alloc ?_ _ | refine Ext.drewN ?_ _ | refine Ext.trans ?_ (by assumption)))) (by omega)).mono ?_; rintro e w5 ⟨S5, n5, k5, rfl, hO5, hE5⟩)) | (go_at_call 19; go_loud (refine (blobR_calls _ A n c l (by refine BV.ext (by assumption) ?_; (with_reducible repeat (first | exact Ext.refl _ | refine Ext.alloc ?_ _ | refine Ext.drewN ?_ _ | refine Ext.trans ?_ (by assumption)))) (by omega) _ m d r (by refine BV.ext (by assumption) ?_; (with_reducible repeat (first | exact Ext.refl _ | refine Ext.alloc ?_ _ | refine Ext.drewN ?_ _ | refine Ext.trans ?_ (by assumption)))) (by omega)).mono ?_; rintro e w6 ⟨S6, n6, k6, rfl, hO6, hE6⟩)) | (go_at_call 10; go_loud (refine (same_true w6 _ _ _ _ _ _ _ (OB.bv (P := fun _ => True) (hO5.ext hE6) (fun _ _ => trivial)) (OB.bv (P := fun _ => True) hO6 (fun _ _ => trivial))).mono ?_; rintro e w7 ⟨rfl, q7, rfl⟩)))
          go_ret
          exact ⟨rfl, (by with_reducible repeat (first | exact Ext.refl _ | refine Ext.alloc ?_ _ | refine Ext.drewN ?_ _ | refine Ext.trans ?_ (by assumption)))⟩
      | true =>
        go_enter Try.func5, Try.ntmps5
        go_upto_region 8 with (first | (go_at_call 9; go_loud (refine (awake_calls w).mono ?_; rintro e w1 ⟨rfl, hE1⟩)) | ((with_reducible (show wpList _ _ _ (⟨_, Op.makeSlice _ _ _, _, _, _, _⟩ :: _) _ _)); go_loud (refine wpList_mkB rfl _ _ _ rfl _ infoB Try.underlying22 _ _ 65530 rfl rfl (by omega) ?_; intro g2 w2 hg2 hO2 hE2)) | (at_builtin; go_loud (refine wpList_appB (w0 := w1) rfl _ _ _ rfl _ infoB Try.underlying22 _ _ _ (List.replicate 65530 0) rfl hO2 B m d r rfl (by refine BV.ext (by assumption) ?_; (with_reducible repeat (first | exact Ext.refl _ | refine Ext.alloc ?_ _ | refine Ext.drewN ?_ _ | refine Ext.trans ?_ (by assumption)))) (by omega) hE2 ?_; intro S3 k3 w3 hO3 hE3)))
        · have hY := OB.bv (P := fun _ => True) hO3 (fun _ _ => trivial)
          go_wp2_with (first | (go_at_call 18; go_loud (refine (blob_calls _ A n c l (by refine BV.ext (by assumption) ?_; (with_reducible repeat (first | exact Ext.refl _ | refine Ext.alloc ?_ _ | refine Ext.drewN ?_ _ | refine Ext.trans ?_ (by assumption)))) (by omega) _ _ _ (List.replicate 65530 0 ++ r) (by refine BV.ext (by assumption) ?_; (with_reducible repeat (first | exact Ext.refl _ | refine Ext.alloc ?_ _ | refine Ext.drewN ?_ _ | refine Ext.trans ?_ (by assumption)))) (by omega)).mono ?_; rintro e w5 ⟨S5, n5, k5, rfl, hO5, hE5⟩)) | (go_at_call 19; go_loud (refine (blobR_calls _ A n c l (by refine BV.ext (by assumption) ?_; (with_reducible repeat (first | exact Ext.refl _ | refine Ext.alloc ?_ _ | refine Ext.drewN ?_ _ | refine Ext.trans ?_ (by assumption)))) (by omega) _ _ _ (List.replicate 65530 0 ++ r) (by refine BV.ext (by assumption) ?_; (with_reducible repeat (first | exact Ext.refl _ | refine Ext.alloc ?_ _ | refine Ext.drewN ?_ _ | refine Ext.trans ?_ (by assumption)))) (by omega)).mono ?_; rintro e w6 ⟨S6, n6, k6, rfl, hO6, hE6⟩)) | (go_at_call 10; go_loud (refine (same_true w6 _ _ _ _ _ _ _ (OB.bv (P := fun _ => True) (hO5.ext hE6) (fun _ _ => trivial)) (OB.bv (P := fun _ => True) hO6 (fun _ _ => trivial))).mono ?_; rintro e w7 ⟨rfl, q7, rfl⟩)))
          go_ret
          exact ⟨rfl, (by with_reducible repeat (first | exact Ext.refl _ | refine Ext.alloc ?_ _ | refine Ext.drewN ?_ _ | refine Ext.trans ?_ (by assumption)))⟩
    · go_enter Try.func5, Try.ntmps5
      go_wp2_with (go_at_call 9; go_loud (refine (awake_calls w).mono ?_; rintro e w1 ⟨rfl, hE1⟩))
      go_ret
      exact ⟨rfl, hE1⟩
  · go_enter Try.func5, Try.ntmps5
    go_wp2_with (go_at_call 9; go_loud (refine (awake_calls w).mono ?_; rintro e w1 ⟨rfl, hE1⟩))
    go_ret
    exact ⟨rfl, hE1⟩
end Go.Proofs.Ytbdiodibeiohlaa
