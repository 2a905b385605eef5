/- The readers: New, Left, Err, End; need of the reference. -/
import Derived.Test.YtdekjkcnfebfnaaWireR
namespace Go.Proofs.Ytdekjkcnfebfnaa
set_option linter.all false
open Go.RowKit
/-- What is handed back: a fresh reader. -/
def NewRd (t : TypeId) (w : World) (l : List UInt8) (e : Ending) (w' : World) : Prop := ∃ g A n c, e = .returned (.pointer (some ⟨g, 0, none⟩)) ∧ w.heap.size ≤ g ∧ RD t w' g A n c ⟨l, 0, 0⟩ ∧ Ext w w'
theorem newP_rd {P : Nat → Prop} (w : World) (A : Option Addr) (n c : Nat) (l : List UInt8) (ha : BV w P A n c l) (hn : n ≤ 35184372088832) :
    Calls Try.prog 34 #[.slice A n c] w (NewRd 60 w l) := by
  go_enter Try.func34, Try.ntmps34
  go_wp2_with (at_builtin; refine wpList_appB (w0 := w) rfl _ _ _ rfl _ infoB Try.underlying22 _ _ _ [] rfl (OB.nil_ _ _ _) A n c l rfl ha (by omega) (Ext.refl _) ?_; intro S1 k1 w1 hO1 hE1; simp only [Nat.zero_add, List.nil_append] at hO1)
  go_ret
  exact ⟨w1.heap.size, S1, n, k1, rfl, hE1.size, ⟨Blk.new _ _ _, ((OB.bv (P := fun _ => True) hO1 (fun _ _ => trivial)).off (Nat.le_refl _)).ext ((Ext.refl _).alloc _), Nat.zero_le _, hn⟩, hE1.alloc _⟩
theorem newR_rd {P : Nat → Prop} (w : World) (A : Option Addr) (n c : Nat) (l : List UInt8) (ha : BV w P A n c l) (hn : n ≤ 35184372088832) :
    Calls Try.prog 38 #[.slice A n c] w (NewRd 66 w l) := by
  go_enter Try.func38, Try.ntmps38
  go_wp2
  go_ret
  exact ⟨w.heap.size, A, n, c, rfl, Nat.le_refl _, ⟨Blk.new _ _ _, (ha.off (Nat.le_refl _)).ext ((Ext.refl _).alloc _), Nat.zero_le _, hn⟩, (Ext.refl _).alloc _⟩
end Go.Proofs.Ytdekjkcnfebfnaa
