/- The statements' helpers: Mod, Cut. -/
import Derived.Test.YtnbgieccindpnaaDoorVc5
import Derived.Test.YtnbgieccindpnaaDoorVcA
namespace Go.Proofs.YtnbgieccindpnaaDoor
set_option linter.all false
set_option maxRecDepth 20000
open Go.RowKit
theorem mod_calls (w : World) (n m : Int) (hm : 1 ≤ m) (hm2 : m ≤ 4611686018427387904) :
    Calls Tryd.prog 12 #[.int .i64 n, .int .i64 m] w fun e w' => e = .returned (.int .i64 (n % m)) ∧ w = w' := by
  have hm0 : m ≠ 0 := by omega
  have hb := Int.emod_nonneg n hm0
  have hb2 := Int.emod_lt_of_pos n (show 0 < m by omega)
  by_cases h0 : 0 ≤ n
  · go_enter Tryd.func12, Tryd.ntmps12
    go_wp2
    go_ret
    exact ⟨rfl, rfl⟩
  · have hr : n.tmod m = if n % m = 0 then 0 else n % m - m := by
      rw [Int.tmod_eq_emod]; split <;> split <;> omega
    by_cases hz : n % m = 0
    · go_enter Tryd.func12, Tryd.ntmps12
      go_wp2
      all_goals (go_ret; exact ⟨rfl, rfl⟩)
    · go_enter Tryd.func12, Tryd.ntmps12
      go_wp2
      all_goals (go_ret; exact ⟨rfl, rfl⟩)
theorem cut_calls (w : World) (A : Option Addr) (n c : Nat) (hle : n ≤ c ∧ c ≤ 9223372036854775807) (z : Int) (hz : 0 ≤ z) :
    Calls Tryd.prog 25 #[.slice A n c, .int .i64 z] w fun e w' => e = .returned (.slice A (min n z.toNat) c) ∧ w = w' := by
  obtain ⟨k, rfl⟩ := Int.eq_ofNat_of_zero_le hz
  rw [Int.toNat_natCast]
  refine calls_enter Tryd.func25 rfl Tryd.ntmps25 rfl ?_
  refine vs fun K1 hK1 => vR [(0, _), (1, _)] ?_
  refine vA ?_
  refine vn (hK1 _ _ ?_)
  refine Wc.seq (fun K2 hK2 => ?_)
  refine vs fun K3 hK3 => vR [(0, _), (1, _)] ?_
  refine vM ?_
  refine vl (Gives.lenS rfl Tryd.underlying22 rfl) ?_
  refine vM ?_
  refine vl (Gives.gtr rfl rfl rfl) ?_
  refine vn (hK3 _ _ ?_)
  refine Wc.cond _ rfl (fun h8 => ?_) (fun h8 => ?_)
  · first | replace h8 := dT h8 | replace h8 := nT h8 | skip
    refine vs fun K4 hK4 => vR [(0, _), (1, _)] ?_
    refine vM ?_
    refine vM ?_
    refine vl (Gives.cutHi rfl Tryd.underlying22 (by kernel_rfl) rfl k rfl rfl (by omega)) ?_
    refine vA ?_
    refine vn (hK4 _ _ ?_)
    refine Wc.ret ?_
    refine Wx.thenR ?_
    refine Wx.ret [_] ⟨rfl, trivial⟩ ?_
    exact ⟨by rw [Nat.min_eq_right (by omega)]; rfl, rfl⟩
  first | replace h8 := dF h8 | replace h8 := nF h8 | skip
  refine Wc.skip ?_
  refine Wx.thenN (hK2 _ _ ?_)
  refine vs fun K5 hK5 => vR [(0, _)] ?_
  refine vM ?_
  refine vA ?_
  refine vn (hK5 _ _ ?_)
  refine Wc.ret ?_
  refine Wx.ret [_] ⟨rfl, trivial⟩ ?_
  exact ⟨by rw [Nat.min_eq_left (by omega)]; rfl, rfl⟩
theorem cutN_calls (w : World) (A : Option Addr) (n c : Nat) (hle : n ≤ c ∧ c ≤ 9223372036854775807) (k : Nat) {z : Int} (hz : z = (k : Int)) :
    Calls Tryd.prog 25 #[.slice A n c, .int .i64 z] w fun e w' => e = .returned (.slice A (min n k) c) ∧ w = w' := by
  subst hz
  have h := cut_calls w A n c hle (k : Int) (Int.natCast_nonneg _)
  rwa [Int.toNat_natCast] at h
theorem BV.cutS {P : Nat → Prop} {w : World} {A : Option Addr} {n c : Nat} {l : List UInt8} (ha : BV w P A n c l) (k : Nat) : BV w P A (min n k) c (l.take k) := by
  have h := ha.take (Nat.min_le_left n k)
  have hl := ha.len
  rwa [show l.take (min n k) = l.take k by rw [← hl, Nat.min_comm]; simp] at h
end Go.Proofs.YtnbgieccindpnaaDoor
