/- The readers: New, Left, Err, End; need of the reference. -/
import Derived.Test.YtbbeoojlgfegjaaDoorWireR
namespace Go.Proofs.YtbbeoojlgfegjaaDoor
set_option linter.all false
open Go.RowKit
/-- What is handed back: a fresh reader. -/
def NewRd (t : TypeId) (w : World) (l : List UInt8) (e : Ending) (w' : World) : Prop := ∃ g A n c, e = .returned (.pointer (some ⟨g, 0, none⟩)) ∧ w.heap.size ≤ g ∧ RD t w' g A n c ⟨l, 0, 0⟩ ∧ Ext w w'
theorem newP_rd {P : Nat → Prop} (w : World) (A : Option Addr) (n c : Nat) (l : List UInt8) (ha : BV w P A n c l) (hn : n ≤ 35184372088832) :
    Calls Tryd.prog 47 #[.slice A n c] w (NewRd 84 w l) := by
  go_enter Tryd.func47, Tryd.ntmps47
  go_wp2_with (at_builtin; refine wpList_appB (w0 := w) rfl _ _ _ rfl _ infoB Tryd.underlying23 _ _ _ [] rfl (OB.nil_ _ _ _) A n c l rfl ha (by omega) (Ext.refl _) ?_; intro S1 k1 w1 hO1 hE1; simp only [Nat.zero_add, List.nil_append] at hO1)
  go_ret
  exact ⟨w1.heap.size, S1, n, k1, rfl, hE1.size, ⟨Blk.new _ _ _, ((OB.bv (P := fun _ => True) hO1 (fun _ _ => trivial)).off (Nat.le_refl _)).ext ((Ext.refl _).alloc _), Nat.zero_le _, hn⟩, hE1.alloc _⟩
theorem newR_rd {P : Nat → Prop} (w : World) (A : Option Addr) (n c : Nat) (l : List UInt8) (ha : BV w P A n c l) (hn : n ≤ 35184372088832) :
    Calls Tryd.prog 51 #[.slice A n c] w (NewRd 75 w l) := by
  go_enter Tryd.func51, Tryd.ntmps51
  go_wp2
  go_ret
  exact ⟨w.heap.size, A, n, c, rfl, Nat.le_refl _, ⟨Blk.new _ _ _, (ha.off (Nat.le_refl _)).ext ((Ext.refl _).alloc _), Nat.zero_le _, hn⟩, (Ext.refl _).alloc _⟩
theorem rErr_calls (w : World) (g : Nat) (A : Option Addr) (n c : Nat) (l : List UInt8) (p : Nat) (er : Int) (h : RD 84 w g A n c ⟨l, p, er⟩) :
    Calls Tryd.prog 50 #[.pointer (some ⟨g, 0, none⟩)] w fun e w' => e = .returned (.int .i64 er) ∧ w = w' := by
  have h' := Lib.hid h
  obtain ⟨hb, hv, hp, hn⟩ := h
  obtain ⟨c0, c1, c2⟩ := hb.c3
  have hf := hb.free
  have hl := Lib.hid hv.len
  simp only at hp hl
  clear hb
  go_enter Tryd.func50, Tryd.ntmps50
  go_wp2
  go_ret
  exact ⟨rfl, rfl⟩
end Go.Proofs.YtbbeoojlgfegjaaDoor
