/- The statements' helpers: Mod, Cut. -/
import Derived.Test.YtbbeoojlgfegjaaDoorVc5
import Derived.Test.YtbbeoojlgfegjaaDoorVcA
namespace Go.Proofs.YtbbeoojlgfegjaaDoor
set_option linter.all false
open Go.RowKit
theorem mod_calls (w : World) (n m : Int) (hm : 1 ≤ m) (hm2 : m ≤ 4611686018427387904) :
    Calls Tryd.prog 11 #[.int .i64 n, .int .i64 m] w fun e w' => e = .returned (.int .i64 (n % m)) ∧ w = w' := by
  have hm0 : m ≠ 0 := by omega
  have hb := Int.emod_nonneg n hm0
  have hb2 := Int.emod_lt_of_pos n (show 0 < m by omega)
  by_cases h0 : 0 ≤ n
  · go_enter Tryd.func11, Tryd.ntmps11
    go_wp2
    go_ret
    exact ⟨rfl, rfl⟩
  · have hr : n.tmod m = if n % m = 0 then 0 else n % m - m := by
      rw [Int.tmod_eq_emod]; split <;> split <;> omega
    by_cases hz : n % m = 0
    · go_enter Tryd.func11, Tryd.ntmps11
      go_wp2
      all_goals (go_ret; exact ⟨rfl, rfl⟩)
    · go_enter Tryd.func11, Tryd.ntmps11
      go_wp2
      all_goals (go_ret; exact ⟨rfl, rfl⟩)
theorem bits_and_i64 (x m : Int) (h0 : 0 ≤ m) (h1 : m < 9223372036854775808) : 0 ≤ bits .and .i64 x m ∧ bits .and .i64 x m ≤ m := by
  obtain ⟨k, rfl⟩ := Int.eq_ofNat_of_zero_le h0
  have h2 : (BitVec.ofInt 64 (k : Int)).toNat = k := by
    rw [BitVec.toNat_ofInt]
    omega
  have e : bits .and .i64 x (k : Int) = IntKind.i64.wrap ((BitVec.ofInt 64 x &&& BitVec.ofInt 64 (k : Int)).toNat : Int) := rfl
  rw [e, BitVec.toNat_and, h2]
  have h3 : (BitVec.ofInt 64 x).toNat &&& k ≤ k := Nat.and_le_right
  have h4 : IntKind.i64.wrap ((((BitVec.ofInt 64 x).toNat &&& k : Nat)) : Int) = ((((BitVec.ofInt 64 x).toNat &&& k : Nat)) : Int) := IntWalk.i64_in _ (by omega)
  rw [h4]
  omega
end Go.Proofs.YtbbeoojlgfegjaaDoor
