/- The readers of the wire: contracts of the methods. -/
import Derived.Test.YtdekjkcnfebfnaaDoorWireU
namespace Go.Proofs.YtdekjkcnfebfnaaDoor
set_option linter.all false
open Go.RowKit

/-- A reader in its box. -/
def RD (t : TypeId) (w : World) (g : Nat) (A : Option Addr) (n c : Nat) (r : Rd) : Prop :=
  Blk w g t #[.slice A n c, .int .i64 r.at_, .int .i64 r.e] ∧ BV w (fun k => k ≠ g) A n c r.b ∧ r.at_ ≤ n ∧ n ≤ 35184372088832
section
variable {t : TypeId} {w w' : World} {g n c : Nat} {A : Option Addr} {r : Rd}
theorem RD.fr (h : RD t w g A n c r) (e : Ext w w') : RD t w' g A n c r := ⟨h.1.ext e, h.2.1.ext e, h.2.2⟩
theorem Ext.past {w a b : World} {g : Nat} (h : Ext w a) (f : Fr (fun k => k ≠ g) a b) (hg : w.heap.size ≤ g) : Ext w b :=
  ⟨f.os.trans h.below.os, f.tape.trans h.below.tape, f.output.trans h.below.output, Nat.le_trans h.below.size f.size, fun k hk => (f.block k (Nat.lt_of_lt_of_le hk h.below.size) (by omega)).trans (h.below.block k hk)⟩
theorem fr_cell (w : World) (g i : Nat) (v : Value) : Fr (fun k => k ≠ g) w (w.setCell ⟨g, i, none⟩ v) := (Fr.refl _ _).setCell (.inl (by simp)) v
theorem RD.fail (h : RD t w g A n c r) (k : Int) : RD t (w.setCell ⟨g, 2, none⟩ (.int .i64 k)) g A n c { r with e := k } := by
  refine ⟨?_, h.2.1.fr (fr_cell _ _ _ _), h.2.2⟩
  have := h.1.set_ 2 (.int .i64 k)
  simpa using this
theorem RD.move (h : RD t w g A n c r) {p : Int} {q : Nat} (hp : p = q) (hq : q ≤ n) : RD t (w.setCell ⟨g, 1, none⟩ (.int .i64 p)) g A n c { r with at_ := q } := by
  refine ⟨?_, h.2.1.fr (fr_cell _ _ _ _), hq, h.2.2.2⟩
  have := h.1.set_ 1 (.int .i64 p)
  subst hp
  simpa using this
end

/-- What a method of a reader leaves behind. -/
def RdI (t : TypeId) (w : World) (g : Nat) (A : Option Addr) (n c : Nat) (x : Rd × Int) (e : Ending) (w' : World) : Prop := ∃ v r, e = .returned (.int .i64 v) ∧ Hid (v = x.2 ∧ r = x.1) ∧ RD t w' g A n c r ∧ Fr (fun k => k ≠ g) w w'
theorem RdI.mk {t : TypeId} {w w' : World} {g n c : Nat} {A : Option Addr} {x : Rd × Int} {v : Int} {r : Rd} (hx : x = (r, v)) (h : RD t w' g A n c r) (hf : Fr (fun k => k ≠ g) w w') : RdI t w g A n c x (.returned (.int .i64 v)) w' := ⟨v, r, rfl, ⟨by rw [hx], by rw [hx]⟩, h, hf⟩
/-- What a method of a reader leaves behind that hands back bytes. -/
def RdB (t : TypeId) (w : World) (g : Nat) (A : Option Addr) (n c : Nat) (x : Rd × List UInt8) (e : Ending) (w' : World) : Prop :=
  ∃ S m k l r, e = .returned (.slice S m k) ∧ Hid (l = x.2 ∧ r = x.1) ∧ RD t w' g A n c r ∧ OB w' w.heap.size 5 S m k l ∧ Fr (fun k => k ≠ g) w w'
theorem RdB.mk {t : TypeId} {w w' : World} {g n c m k : Nat} {A S : Option Addr} {x : Rd × List UInt8} {l : List UInt8} {r : Rd} (hx : x = (r, l)) (h : RD t w' g A n c r) (ho : OB w' w.heap.size 5 S m k l) (hf : Fr (fun k => k ≠ g) w w') : RdB t w g A n c x (.returned (.slice S m k)) w' :=
  ⟨S, m, k, l, r, rfl, ⟨by rw [hx], by rw [hx]⟩, h, ho, hf⟩
end Go.Proofs.YtdekjkcnfebfnaaDoor
