/- Numbers in bytes: what is written is the number. No program. -/
import Derived.Test.YtnbgieccindpnaaDoorWireS
namespace Go.Proofs.YtnbgieccindpnaaDoor
set_option linter.all false
set_option maxRecDepth 20000
open Go.RowKit
theorem beV_beS' (n : Nat) (s : Nat) (h : n < 18446744073709551616) : beV (beS (n : Nat) s) = n % 256 ^ s := by
  have key : ∀ (s a : Nat), (beS (n : Nat) s).foldl (fun n (x : UInt8) => n * 256 + x.toNat) a = a * 256 ^ s + n % 256 ^ s := by
    intro s
    induction s with
    | zero => intro a; simp [beS, Nat.mod_one]
    | succ s ih =>
      intro a
      have hb : (byteAt (n : Nat) s).toNat = n / 256 ^ s % 256 := by
        unfold byteAt
        rw [UInt8.toNat_ofNat']
        have : ((n : Int) % 18446744073709551616).toNat = n := by omega
        rw [this]
        omega
      rw [beS, List.foldl_cons, ih, hb]
      have e := Nat.mod_mul (a := 256 ^ s) (b := 256) (x := n)
      rw [Nat.pow_succ, e, Nat.add_mul, Nat.mul_assoc, Nat.mul_comm 256 (256 ^ s), Nat.mul_comm (256 ^ s) (n / 256 ^ s % 256)]
      omega
  have := key s 0
  simpa [beV] using this

theorem rd_be (pre post : List UInt8) (s : Nat) (h1 : 1 ≤ s) (h8 : s ≤ 8) (v : Nat) (hv : v < 256 ^ s) (hb : v ≤ 9223372036854775807) : rdUint ⟨pre ++ (beS (v : Nat) s ++ post), pre.length, 0⟩ s = (⟨pre ++ (beS (v : Nat) s ++ post), pre.length + s, 0⟩, (v : Int)) := by
  have hd : ((pre ++ (beS (v : Nat) s ++ post)).drop pre.length).take s = beS (v : Nat) s := by
    rw [List.drop_left, List.take_left' (beS_len _ _)]
  have hbv : beV (beS (v : Nat) s) = v := by rw [beV_beS' _ _ (by omega)]; exact Nat.mod_eq_of_lt hv
  unfold rdUint
  simp only [ne_eq, not_true_eq_false, if_false]
  rw [if_neg (by omega), if_neg (by simp [beS_len]), Int.toNat_natCast, hd, hbv, if_neg (by unfold tooBig; simp; omega)]
end Go.Proofs.YtnbgieccindpnaaDoor
