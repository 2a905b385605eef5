/- The readers: New, Left, Err, End; need of the reference. -/
import Derived.Test.YtdekjkcnfebfnaaDoorWireR
namespace Go.Proofs.YtdekjkcnfebfnaaDoor
set_option linter.all false
open Go.RowKit
/-- What is handed back: a fresh reader. -/
def NewRd (t : TypeId) (w : World) (l : List UInt8) (e : Ending) (w' : World) : Prop := ∃ g A n c, e = .returned (.pointer (some ⟨g, 0, none⟩)) ∧ w.heap.size ≤ g ∧ RD t w' g A n c ⟨l, 0, 0⟩ ∧ Ext w w'
theorem newR_rd {P : Nat → Prop} (w : World) (A : Option Addr) (n c : Nat) (l : List UInt8) (ha : BV w P A n c l) (hn : n ≤ 35184372088832) :
    Calls Tryd.prog 38 #[.slice A n c] w (NewRd 70 w l) := by
  go_enter Tryd.func38, Tryd.ntmps38
  go_wp2
  go_ret
  exact ⟨w.heap.size, A, n, c, rfl, Nat.le_refl _, ⟨Blk.new _ _ _, (ha.off (Nat.le_refl _)).ext ((Ext.refl _).alloc _), Nat.zero_le _, hn⟩, (Ext.refl _).alloc _⟩
end Go.Proofs.YtdekjkcnfebfnaaDoor
