/- DiskRead: the walk. -/
import Derived.Test.YthbpddblejnjjaaDiskA
namespace Go.Proofs.Ythbpddblejnjjaa
set_option linter.all false
open Go.RowKit
set_option linter.unusedVariables false
set_option linter.unusedSimpArgs false

theorem same_true {P P' : Nat → Prop} (w : World) (A B : Option Addr) (n c m d : Nat) (l : List UInt8) (ha : BV w P A n c l) (hb : BV w P' B m d l) :
    Calls Try.prog 14 #[.slice A n c, .slice B m d] w fun e w' => e = .returned (.bool true) ∧ Quiet w w' :=
  (same_calls w A B n c m d l l ha hb).mono fun e w' ⟨h1, h2⟩ => ⟨by rw [h1]; simp, h2⟩

set_option maxRecDepth 20000 in
set_option maxHeartbeats 2000000 in
theorem diskRead_walk {P P' : Nat → Prop} (w : World) (k0 : Int) (O : Option Addr) (on oc : Nat) (ol : List UInt8) (ho : BV w P O on oc ol) (T : Option Addr) (tn tc : Nat) (ts : List (List UInt8)) (ht : BL w P' T tn tc ts) (at' torn area : Int) :
    Calls Try.prog 3 #[.int .i64 k0, .slice O on oc, .slice T tn tc, .int .i64 at', .int .i64 torn, .int .i64 area] w fun e w' => e = .returned (.bool true) ∧ Ext w w' := by
  go_enter Try.func3, Try.ntmps3
  go_wp2_with (first | (go_at_call 9; go_loud (refine (awake_calls w).mono ?_; rintro e w1 ⟨rfl, hE1⟩)) | (go_at_call 10; go_loud (refine (few_calls w1 T tn tc ts (ht.ext hE1)).mono ?_; rintro e w2 ⟨b, rfl, HB, hE2⟩)) | (go_at_call 11; go_loud (refine (play_calls (fun _ => True) w2 (Anew.top _) k0 O on oc ol ((ho.ext (hE1.trans hE2)).mono (fun _ _ => trivial)) T tn tc ts ((ht.ext (hE1.trans hE2)).mono (fun _ _ => trivial)) (HB.out (by simpa using (by assumption : (!b) = false))).2 at' torn).mono ?_; rintro e w3 ⟨A, n, c, d, rfl, hn64, HS, hb3, hE3⟩)))
  · go_ret
    exact ⟨rfl, hE1.trans hE2⟩
  · have hI : Blk (w3.alloc (.cells #[.slice A n c, .int .i64 d.wr, .int .i64 d.ct, .int .i64 d.tn, .bool d.off] 27)) w3.heap.size 27 #[.slice A n c, .int .i64 d.wr, .int .i64 d.ct, .int .i64 d.tn, .bool d.off] := Blk.new _ _ _
    refine wp_forget (fun w4 => Blk w4 w3.heap.size 27 #[.slice A n c, .int .i64 d.wr, .int .i64 d.ct, .int .i64 d.tn, .bool d.off] ∧ BL w4 (fun _ => True) A n c d.areas ∧ Ext w w4) ⟨hI, hb3.ext ((Ext.refl _).alloc _), (hE1.trans (hE2.trans hE3)).alloc _⟩ ?_
    clear hI hb3 hE1 hE2 hE3
    rintro w4 ⟨hB4, hb4, hE4⟩
    go_loopw [14, 15, 16, 17, 18] (fun i _ _ _ _ wr => ∃ a : Int, -1 ≤ a ∧ a ≤ 9 ∧ i = .int .i64 a ∧ Ext w4 wr) (fun i _ _ _ _ _ => (9 - intOf i).toNat)
    case atStart => exact ⟨-1, by omega, by omega, rfl, Ext.refl _⟩
    case round =>
      obtain ⟨a, ha1, ha2, rfl, hE⟩ := hrel
      obtain ⟨c0, c1, c2, c3, c4⟩ := (hB4.ext hE).c5
      by_cases hlt : a < 9
      · go_wp2_with (first | (go_at_call 12; go_loud (refine (readP_calls wr A n c d (hb4.ext hE) hn64 (HS.out.big (Nat.le_refl _)) a).mono ?_; rintro e w5 ⟨S1, n1, k1, l1, e1, rfl, H1, hO1, hE5⟩; obtain ⟨q0, q1, q2, q3, q4⟩ := (hB4.ext (hE.trans hE5)).c5)) | (go_at_call 13; go_loud (refine (readR_calls w5 A n c d (hb4.ext (hE.trans hE5)) hn64 (HS.out.big (Nat.le_refl _)) a).mono ?_; rintro e w6 ⟨S2, n2, k2, l2, e2, rfl, H2, hO2, hE6⟩; have hee : e2 = e1 := H2.out.2.trans H1.out.2.symm; subst hee; have hll : l2 = l1 := H2.out.1.trans H1.out.1.symm; subst hll)) | (go_at_call 14; go_loud (refine (same_true w6 _ _ _ _ _ _ _ (OB.bv (P := fun _ => True) (hO1.ext hE6) (fun _ _ => trivial)) (OB.bv (P := fun _ => True) hO2 (fun _ _ => trivial))).mono ?_; rintro e w7 ⟨rfl, q, rfl⟩)))
        go_roundw
        case rel => exact ⟨a + 1, by omega, by omega, by go_num, ((hE.trans hE5).trans hE6).drewN q⟩
        case measure => simp [intOf]; omega
      · go_wp2_with (first | (go_at_call 12; go_loud (refine (readP_calls wr A n c d (hb4.ext hE) hn64 (HS.out.big (Nat.le_refl _)) area).mono ?_; rintro e w5 ⟨S1, n1, k1, l1, e1, rfl, H1, hO1, hE5⟩; obtain ⟨q0, q1, q2, q3, q4⟩ := (hB4.ext (hE.trans hE5)).c5)) | (go_at_call 13; go_loud (refine (readR_calls w5 A n c d (hb4.ext (hE.trans hE5)) hn64 (HS.out.big (Nat.le_refl _)) area).mono ?_; rintro e w6 ⟨S2, n2, k2, l2, e2, rfl, H2, hO2, hE6⟩; have hee : e2 = e1 := H2.out.2.trans H1.out.2.symm; subst hee)))
        go_ret
        exact ⟨by simp, hE4.trans ((hE.trans hE5).trans hE6)⟩
end Go.Proofs.Ythbpddblejnjjaa
