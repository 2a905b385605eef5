/- Numbers in bytes: what is written is the number. No program. -/
import Derived.Test.YtnbgieccindpnaaDoorWireS
namespace Go.Proofs.YtnbgieccindpnaaDoor
set_option linter.all false
set_option maxRecDepth 20000
open Go.RowKit
theorem beV_beS' (n : Nat) (s : Nat) (h : n < 18446744073709551616) : beV (beS (n : Nat) s) = n % 256 ^ s := by
  have key : ∀ (s a : Nat), (beS (n : Nat) s).foldl (fun n (x : UInt8) => n * 256 + x.toNat) a = a * 256 ^ s + n % 256 ^ s := by
    intro s
    induction s with
    | zero => intro a; simp [beS, Nat.mod_one]
    | succ s ih =>
      intro a
      have hb : (byteAt (n : Nat) s).toNat = n / 256 ^ s % 256 := by
        unfold byteAt
        rw [UInt8.toNat_ofNat']
        have : ((n : Int) % 18446744073709551616).toNat = n := by omega
        rw [this]
        omega
      rw [beS, List.foldl_cons, ih, hb]
      have e := Nat.mod_mul (a := 256 ^ s) (b := 256) (x := n)
      rw [Nat.pow_succ, e, Nat.add_mul, Nat.mul_assoc, Nat.mul_comm 256 (256 ^ s), Nat.mul_comm (256 ^ s) (n / 256 ^ s % 256)]
      omega
  have := key s 0
  simpa [beV] using this

end Go.Proofs.YtnbgieccindpnaaDoor
