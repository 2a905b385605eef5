/- An argument opened: bytes, and lists of bytes. -/
import Derived.Test.YtnbgieccindpnaaDoorLib
import Derived.ProofKit
import Derived.WalkKit
import Derived.Deep.Slices
import Derived.OpenShut
import Derived.ChangeOld
import Derived.Below
namespace Go.Proofs.YtnbgieccindpnaaDoor
set_option linter.all false
set_option maxRecDepth 20000
open Go.RowKit Go.ChangeShapes Go.WideShapes Go.ChangeAt Go.Deep
set_option linter.unusedVariables false
section
variable {H : Type} {enc : TypeId × Value → H} {P : Program} {w : World} {base : Nat} {spare : Nat → Bool} {held : Bool}
/-- The byte of a value. -/
def byteOfV (v : Value) : UInt8 := match v with | .int _ z => UInt8.ofNat z.toNat | _ => 0
theorem byteOfV_int {z : Int} (h : (Lit.int .u8 z).wf = true) : Value.int .u8 z = .int .u8 ((byteOfV (.int .u8 z)).toNat : Int) := by
  have h2 : 0 ≤ z ∧ z < 256 := by simp [Lit.wf, IntKind.min, IntKind.max, IntKind.signed, IntKind.bits] at h; omega
  unfold byteOfV
  congr 1
  simp only [UInt8.toNat_ofNat']
  omega
theorem open_bv {t e : TypeId} {fuel : Nat} {cs : List Value} {x : DataW H × List MemPlace} (ht : P.underlying t = some (.slice e)) (he : P.underlying e = some (.int .u8)) (hc : P.cellsOf e = 1) (h : DataW.trod enc P w base spare held fuel t cs = some x) :
    ∃ A n c l, cs = [.slice A n c] ∧ BV w (fun _ => True) A n c l := by
  rcases open_slice1 ht hc h with ⟨rfl, _⟩ | ⟨a, len, cap, m, n, V, D, Pl, rfl, _, hl, hm, hmm, _, hx⟩
  · exact ⟨none, 0, 0, [], rfl, BV.nil_ w _⟩
  · have hlm : len ≤ m := by rw [hmm]; split <;> omega
    have hV : ∀ i, i < len → V i = .int .u8 ((byteOfV (V i)).toNat : Int) := fun i hi => by
      obtain ⟨z, h1, _, h2⟩ := DataW.trod_int he (hx i (by omega)).2
      simp only [List.cons.injEq, and_true] at h1
      rw [h1]; exact byteOfV_int h2
    refine ⟨some a, len, cap, (List.range len).map fun i => byteOfV (V i), rfl, by simp [u8s], hl, hm, fun hn => ?_⟩
    obtain ⟨b, off, spot⟩ := a
    have h0 := (hx 0 (by omega)).1
    have hs : spot = none := by simpa [Addr.add] using World.cell?_spot h0
    subst hs
    refine ⟨b, off, rfl, World.block_lt_of_cell? _ _ h0, trivial, fun i v hv => ?_⟩
    have hi : i < len := by have := (List.getElem?_eq_some_iff.1 hv).1; simpa [u8s] using this
    have h2 := (hx i (by omega)).1
    have h3 : v = V i := by
      rw [hV i hi]
      simpa [u8s, hi] using hv.symm
    rw [h3, ← add_plain]
    exact h2
/-- The integer of a value. -/
def intOfV (v : Value) : Int := match v with | .int _ z => z | _ => 0
theorem open_ints_ {t e : TypeId} {fuel : Nat} {cs : List Value} {x : DataW H × List MemPlace} (ht : P.underlying t = some (.slice e)) (he : P.underlying e = some (.int .i64)) (hc : P.cellsOf e = 1) (h : DataW.trod enc P w base spare held fuel t cs = some x) :
    ∃ A n c, ∃ l : List Int, cs = [.slice A n c] ∧ Row w (fun _ => True) 1 A n c (l.map fun z => .int .i64 z) := by
  rcases open_slice1 ht hc h with ⟨rfl, _⟩ | ⟨a, len, cap, m, n, V, D, Pl, rfl, _, hl, hm, hmm, _, hx⟩
  · exact ⟨none, 0, 0, [], rfl, Row.nil_ w _ 1 0 none (by simp [maxLen])⟩
  · have hlm : len ≤ m := by rw [hmm]; split <;> omega
    have hV : ∀ i, i < len → V i = .int .i64 (intOfV (V i)) := fun i hi => by
      obtain ⟨z, h1, _, h2⟩ := DataW.trod_int he (hx i (by omega)).2
      simp only [List.cons.injEq, and_true] at h1
      rw [h1]; rfl
    refine ⟨some a, len, cap, (List.range len).map fun i => intOfV (V i), rfl, by simp, hl, hm, fun hn => ?_⟩
    obtain ⟨b, off, spot⟩ := a
    have h0 := (hx 0 (by omega)).1
    have hs : spot = none := by simpa [Addr.add] using World.cell?_spot h0
    subst hs
    refine ⟨b, off, rfl, World.block_lt_of_cell? _ _ h0, trivial, fun i v hv => ?_⟩
    have hi : i < len := by have := (List.getElem?_eq_some_iff.1 hv).1; simpa using this
    have h2 := (hx i (by omega)).1
    have h3 : v = V i := by
      rw [hV i hi]
      simpa [hi] using hv.symm
    rw [h3, ← add_plain]
    exact h2
end
end Go.Proofs.YtnbgieccindpnaaDoor
