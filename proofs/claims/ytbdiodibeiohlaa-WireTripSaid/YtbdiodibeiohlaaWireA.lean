/- The law's awake. -/
import Derived.Test.YtbdiodibeiohlaaWireL
namespace Go.Proofs.Ytbdiodibeiohlaa
set_option linter.all false
open Go.RowKit
theorem lit2v (w : World) (t : TypeId) (a b : Nat) (x y : UInt8) (ha : a = x.toNat) (hb : b = y.toNat) : BV (w.alloc (.cells #[.int .u8 (a : Int), .int .u8 (b : Int)] t)) (fun _ => True) (some ⟨w.heap.size, 0, none⟩) 2 2 [x, y] := by
  subst ha hb
  refine Row.of_own (base := w.heap.size) (e := t) ?_ (fun _ _ => trivial)
  have h := World.ownsRow_lit (e := t) (size := 1) (base := w.heap.size) w #[.int .u8 (x.toNat : Int), .int .u8 (y.toNat : Int)] 2 (Nat.le_refl _) (by simp [maxLen]) (by simp)
  simpa [u8s] using h
set_option maxHeartbeats 1000000 in
theorem awake_calls (w : World) : Calls Try.prog 9 #[] w fun e w' => e = .returned (.bool true) ∧ Ext w w' := by
  go_enter Try.func9, Try.ntmps9
  go_wp2_with fail
  go_loud (refine (uint_calls (P := fun _ => True) w none 0 0 [] (BV.nil_ _ _) (by omega) 2 258).mono ?_)
  rintro e w1 ⟨S1, n1, k1, rfl, hO1, hE1⟩
  obtain rfl : n1 = 2 := by have := hO1.len; have h2 : (uintS [] 2 258).length = 2 := by decide
                            omega
  have hu : uintS [] 2 258 = [1, 2] := by decide
  rw [hu] at hO1
  clear hu
  go_wp2_with fail
  go_loud (refine (newP_rd (P := fun _ => True) _ _ 2 2 [0, 7] (lit2v w1 5 0 7 0 7 rfl rfl) (by omega)).mono ?_)
  rintro e w2 ⟨g, A2, n2, c2, rfl, hg2, hR2, hE2⟩
  have hv := OB.bv (P := fun _ => True) ((hO1.ext ((Ext.refl _).alloc _)).ext hE2) (fun _ _ => trivial)
  obtain ⟨b, off, rfl, hl0, hc0⟩ := hv.at_ (show 0 < 2 by omega)
  obtain ⟨b', off', hbo, hl1, hc1⟩ := hv.at_ (show 1 < 2 by omega)
  injection hbo with hbo; injection hbo with hbo1 hbo2; subst hbo1; subst hbo2
  rw [Nat.add_zero] at hc0
  have hd0 : w2.cell? ⟨b, off, none⟩ = some (.int .u8 1) := hc0
  have hd1 : w2.cell? ⟨b, off + 1, none⟩ = some (.int .u8 2) := hc1
  clear hc0 hc1 hv
  go_wp2_with (first | (go_at_call 15; go_loud (refine (rUint_calls w2 g A2 n2 c2 [0, 7] 0 0 2 hR2).mono ?_; rintro e w3 ⟨v3, r3, rfl, H3, hR3, hF3⟩; obtain rfl : v3 = 7 := (H3.out.1.trans (by decide)); have hr3 : r3 = ⟨[0, 7], 2, 0⟩ := (H3.out.2.trans rfl); subst hr3)) | (go_at_call 22; go_loud (refine (rEnd_calls w3 g A2 n2 c2 [0, 7] 2 0 hR3).mono ?_; rintro e w4 ⟨rfl, q4, rfl⟩)))
  go_ret
  exact ⟨rfl, (Ext.past (Ext.trans (hE1.alloc _) hE2) hF3 (by have := hE1.size; simp at hg2; omega)).drewN _⟩
end Go.Proofs.Ytbdiodibeiohlaa
