/- Commands: CommandShape. -/
import Derived.Test.YtaekpiejdgahfaaDoorCmdA
import Derived.Laws.StructEq
namespace Go.Proofs.YtaekpiejdgahfaaDoor
set_option linter.all false
open Go.RowKit
theorem eq4 (a b c e : Int) (w : World) : (Op.equal 25 (.agg #[.int .i64 a, .int .i64 b, .int .i64 c, .int .i64 e]) (.agg #[.int .i64 a, .int .i64 b, .int .i64 c, .int .i64 e])).run Tryd.prog w = .ok true w := by
  have hk : keyOf Tryd.prog 25 (.agg #[.int .i64 0, .int .i64 0, .int .i64 0, .int .i64 0]) = none ∨ True := Or.inr trivial
  have hu := Tryd.underlying25
  have hi := Tryd.underlying3
  have hs : ∀ w, (sizeOf 3).run Tryd.prog w = .ok 1 w := fun w => by
    cases h : Tryd.prog.info? 3 with
    | none => have := infoI2; simp [h] at this
    | some f => have := infoI2; simp [h] at this; simp [sizeOf, typeInfo, h, this.2]
  have hagg : ∀ w, (isAgg 3).run Tryd.prog w = .ok false w := fun w => by
    unfold isAgg
    rw [Sem.run_bind, run_underlying hi w]
    rfl
  have hp : ∀ (k : Nat) (v : Value) (xs : Array Value) w, xs[k]? = some v → (part 3 xs k).run Tryd.prog w = .ok v w := fun k v xs w h => by
    unfold part
    simp [Sem.run_bind, hagg, h]
  unfold Op.equal
  show (Op.equalIn 10000 _ _ _).run _ _ = _
  unfold Op.equalIn
  simp [Sem.run_bind, run_underlying hu, hs]
  have he : ∀ z w, (Op.equalIn 9999 3 (.int .i64 z) (.int .i64 z)).run Tryd.prog w = .ok true w := fun z w => by
    rw [run_equalIn_int w 9998 _ _ _ _ _ hi]; simp
  have h0 := fun w => hp 0 (.int .i64 a) #[.int .i64 a, .int .i64 b, .int .i64 c, .int .i64 e] w rfl
  have h1 := fun w => hp 1 (.int .i64 b) #[.int .i64 a, .int .i64 b, .int .i64 c, .int .i64 e] w rfl
  have h2 := fun w => hp 2 (.int .i64 c) #[.int .i64 a, .int .i64 b, .int .i64 c, .int .i64 e] w rfl
  have h3 := fun w => hp 3 (.int .i64 e) #[.int .i64 a, .int .i64 b, .int .i64 c, .int .i64 e] w rfl
  simp [List.range', Sem.run_bind, h0, h1, h2, h3, he]
end Go.Proofs.YtaekpiejdgahfaaDoor
