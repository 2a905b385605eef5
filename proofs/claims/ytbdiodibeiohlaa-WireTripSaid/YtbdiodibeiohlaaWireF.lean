/- WireReads: one read of both readers. -/
import Derived.Test.YtbdiodibeiohlaaWireT
namespace Go.Proofs.Ytbdiodibeiohlaa
set_option linter.all false
open Go.RowKit
/-- What one read of both leaves: they still agree. -/
def ReadS (w : World) (g g' : Nat) (A : Option Addr) (n c : Nat) (A' : Option Addr) (n' c' : Nat) (x : Rd) (e : Ending) (w' : World) : Prop :=
  ∃ y : Rd, e = .returned (.bool true) ∧ TR w' g g' A n c A' n' c' y y ∧ Fr (fun k => k ≠ g ∧ k ≠ g') w w'
theorem fr2 {w w1 w2 : World} {g g' : Nat} (h : Fr (fun k => k ≠ g) w w1) (h2 : Fr (fun k => k ≠ g') w1 w2) : Fr (fun k => k ≠ g ∧ k ≠ g') w w2 :=
  (h.mono (fun k hk => hk.1)).trans (h2.mono (fun k hk => hk.2))
set_option maxHeartbeats 1000000 in
theorem read_calls (w : World) (g g' : Nat) (A : Option Addr) (n c : Nat) (A' : Option Addr) (n' c' : Nat) (l : List UInt8) (p : Nat) (er : Int) (h : TR w g g' A n c A' n' c' ⟨l, p, er⟩ ⟨l, p, er⟩) (kd : UInt8) (k : Int) :
    Calls Try.prog 23 #[.pointer (some ⟨g, 0, none⟩), .pointer (some ⟨g', 0, none⟩), .int .u8 (kd.toNat : Int), .int .i64 k] w (ReadS w g g' A n c A' n' c' ⟨l, p, er⟩) := by
  have hk0 := kd.toNat_lt
  generalize kd.toNat = q at *
  by_cases h0 : q % 4 = 0
  · have h0' : ((q : Int) % 4 == 0) = true := by simp; omega
    clear h0
    go_enter Try.func23, Try.ntmps23
    go_wp2_with (first | (go_at_call 15; go_loud (refine (rUint_calls w g A n c l p er _ h.left).mono ?_; rintro e w1 ⟨v1, r1, rfl, H1, hR1, hF1⟩; have hT1 := h.stepL hR1 (by rw [H1.out.2]; exact rdUint_b _ _) hF1)) | (go_at_call 16; go_loud (refine (sUint_calls w1 g' A' n' c' l p er _ hT1.right).mono ?_; rintro e w2 ⟨v2, r2, rfl, H2, hR2, hF2⟩; obtain rfl : v2 = v1 := (H2.out.1.trans H1.out.1.symm); obtain rfl : r2 = r1 := (H2.out.2.trans H1.out.2.symm); have hT2 := hT1.stepR hR2 (by rw [H2.out.2]; exact rdUint_b _ _) hF2)))
    go_ret
    exact ⟨r2, rfl, hT2, fr2 hF1 hF2⟩
  by_cases h1 : q % 4 = 1
  · have h0' : ((q : Int) % 4 == 0) = false := by simp; omega
    have h1' : ((q : Int) % 4 == 1) = true := by simp; omega
    clear h0 h1
    go_enter Try.func23, Try.ntmps23
    go_wp2_with (first | (go_at_call 26; go_loud (refine (rRaw_calls w g A n c l p er _ h.left).mono ?_; rintro e w1 ⟨S1, m1, k1, x1, r1, rfl, H1, hR1, hO1, hF1⟩; have hT1 := h.stepL hR1 (by rw [H1.out.2]; exact rdRaw_b _ _) hF1)) | (go_at_call 30; go_loud (refine (sRaw_calls w1 g' A' n' c' l p er _ hT1.right).mono ?_; rintro e w2 ⟨S2, m2, k2, x2, r2, rfl, H2, hR2, hO2, hF2⟩; obtain rfl : x2 = x1 := (H2.out.1.trans H1.out.1.symm); obtain rfl : r2 = r1 := (H2.out.2.trans H1.out.2.symm); have hT2 := hT1.stepR hR2 (by rw [H2.out.2]; exact rdRaw_b _ _) hF2)) | (go_at_call 10; go_loud (refine (same_true w2 _ _ _ _ _ _ _ ((OB.bv (P := fun k => k ≠ g') hO1 (fun k hk => by have := h.b'.lt; omega)).fr hF2) (OB.bv (P := fun _ => True) hO2 (fun _ _ => trivial))).mono ?_; rintro e w3 ⟨rfl, q3, rfl⟩)))
    go_ret
    exact ⟨r2, rfl, hT2.ext ((Ext.refl _).drewN _), (fr2 hF1 hF2).drewN _⟩
  by_cases h2 : q % 4 = 2
  · have h0' : ((q : Int) % 4 == 0) = false := by simp; omega
    have h1' : ((q : Int) % 4 == 1) = false := by simp; omega
    have h2' : ((q : Int) % 4 == 2) = true := by simp; omega
    clear h0 h1 h2
    go_enter Try.func23, Try.ntmps23
    go_wp2_with (first | (go_at_call 20; go_loud (refine (rBlob_calls w g A n c l p er _ h.left).mono ?_; rintro e w1 ⟨S1, m1, k1, x1, r1, rfl, H1, hR1, hO1, hF1⟩; have hT1 := h.stepL hR1 (by rw [H1.out.2]; exact rdBlob_b _ _) hF1)) | (go_at_call 31; go_loud (refine (sBlob_calls w1 g' A' n' c' l p er _ hT1.right).mono ?_; rintro e w2 ⟨S2, m2, k2, x2, r2, rfl, H2, hR2, hO2, hF2⟩; obtain rfl : x2 = x1 := (H2.out.1.trans H1.out.1.symm); obtain rfl : r2 = r1 := (H2.out.2.trans H1.out.2.symm); have hT2 := hT1.stepR hR2 (by rw [H2.out.2]; exact rdBlob_b _ _) hF2)) | (go_at_call 10; go_loud (refine (same_true w2 _ _ _ _ _ _ _ ((OB.bv (P := fun k => k ≠ g') hO1 (fun k hk => by have := h.b'.lt; omega)).fr hF2) (OB.bv (P := fun _ => True) hO2 (fun _ _ => trivial))).mono ?_; rintro e w3 ⟨rfl, q3, rfl⟩)))
    go_ret
    exact ⟨r2, rfl, hT2.ext ((Ext.refl _).drewN _), (fr2 hF1 hF2).drewN _⟩
  · have h0' : ((q : Int) % 4 == 0) = false := by simp; omega
    have h1' : ((q : Int) % 4 == 1) = false := by simp; omega
    have h2' : ((q : Int) % 4 == 2) = false := by simp; omega
    clear h0 h1 h2
    go_enter Try.func23, Try.ntmps23
    go_wp2_with (first | (go_at_call 15; go_loud (refine (rUint_calls w g A n c l p er _ h.left).mono ?_; rintro e w1 ⟨v1, r1, rfl, H1, hR1, hF1⟩; have hT1 := h.stepL hR1 (by rw [H1.out.2]; exact rdUint_b _ _) hF1)) | (go_at_call 16; go_loud (refine (sUint_calls w1 g' A' n' c' l p er _ hT1.right).mono ?_; rintro e w2 ⟨v2, r2, rfl, H2, hR2, hF2⟩; obtain rfl : v2 = v1 := (H2.out.1.trans H1.out.1.symm); obtain rfl : r2 = r1 := (H2.out.2.trans H1.out.2.symm); have hT2 := hT1.stepR hR2 (by rw [H2.out.2]; exact rdUint_b _ _) hF2)))
    go_ret
    exact ⟨r2, rfl, hT2, fr2 hF1 hF2⟩

def ints (l : List Int) : List Value := l.map fun z => .int .i64 z
/-- A []int that reads as l. -/
def IV (w : World) (P : Nat → Prop) (A : Option Addr) (n c : Nat) (l : List Int) : Prop := Row w P 1 A n c (ints l)
section
variable {P P' : Nat → Prop} {w w' : World} {n c k : Nat} {A : Option Addr} {l : List Int}
theorem IV.fr (h : IV w P A n c l) (e : Fr P w w') : IV w' P A n c l := Row.fr h e
theorem IV.ext (h : IV w P A n c l) (e : Ext w w') : IV w' P A n c l := Row.ext h e
theorem IV.len (h : IV w P A n c l) : l.length = n := by simpa [ints] using h.1
theorem IV.le (h : IV w P A n c l) : n ≤ c ∧ c ≤ 9223372036854775807 := ⟨h.2.1, h.2.2.1⟩
theorem IV.at_ (h : IV w P A n c l) (hk : k < n) :
    ∃ b off, A = some ⟨b, off, none⟩ ∧ ∃ hl : k < l.length, w.cell? ⟨b, off + k, none⟩ = some (.int .i64 l[k]) := by
  obtain ⟨b, off, rfl, _, _, hc⟩ := h.2.2.2 (by omega)
  have hl : k < l.length := by rw [h.len]; exact hk
  exact ⟨b, off, rfl, hl, hc k _ (by simp [ints, hl])⟩
theorem BV.at' {l : List UInt8} (h : BV w P A n c l) (hk : k < n) :
    ∃ b off x, A = some ⟨b, off, none⟩ ∧ l[k]? = some x ∧ b < w.heap.size ∧ w.cell? ⟨b, off + k, none⟩ = some (.int .u8 (x.toNat : Int)) := by
  obtain ⟨b, off, rfl, hb, _, hc⟩ := h.2.2.2 (by omega)
  have hl : k < l.length := by rw [h.len]; exact hk
  exact ⟨b, off, l[k], rfl, by simp [hl], hb, hc k _ (by simp [u8s, hl])⟩
theorem IV.at' (h : IV w P A n c l) (hk : k < n) :
    ∃ b off x, A = some ⟨b, off, none⟩ ∧ l[k]? = some x ∧ b < w.heap.size ∧ w.cell? ⟨b, off + k, none⟩ = some (.int .i64 x) := by
  obtain ⟨b, off, rfl, hb, _, hc⟩ := h.2.2.2 (by omega)
  have hl : k < l.length := by rw [h.len]; exact hk
  exact ⟨b, off, l[k], rfl, by simp [hl], hb, hc k _ (by simp [ints, hl])⟩
end
theorem Ext.past2 {w a b : World} {g g' : Nat} (h : Ext w a) (f : Fr (fun k => k ≠ g ∧ k ≠ g') a b) (hg : w.heap.size ≤ g) (hg' : w.heap.size ≤ g') : Ext w b :=
  ⟨f.os.trans h.below.os, f.tape.trans h.below.tape, f.output.trans h.below.output, Nat.le_trans h.below.size f.size, fun k hk => (f.block k (Nat.lt_of_lt_of_le hk h.below.size) (by omega)).trans (h.below.block k hk)⟩
end Go.Proofs.Ytbdiodibeiohlaa
