/- Words of 32 bits over slots kept in a list; the reference's rotr, word and constants again. -/
import Derived.Test.YtnbgieccindpnaaDoorHashR3
import Derived.Test.YtnbgieccindpnaaDoorVc2
namespace Go.Proofs.YtnbgieccindpnaaDoor
set_option linter.all false
set_option maxRecDepth 20000
open Go.RowKit
section
variable {P : Program} {n : Nat} {e : Env} {w : World} {o : Oper} {x y : Operand} {t t' : TypeId} {a b : UInt32}
theorem Gives.u32and (ho : o.op = .binOp .and t x y t') (hx : ev e x = some (.int .u32 (a.toNat : Int))) (hy : ev e y = some (.int .u32 (b.toNat : Int))) : Gives P n o e w (.int .u32 ((a &&& b).toNat : Int)) := Gives.bits .and (by simp) ho hx hy (bits_u32 a b).2.2
theorem Gives.u32or (ho : o.op = .binOp .or t x y t') (hx : ev e x = some (.int .u32 (a.toNat : Int))) (hy : ev e y = some (.int .u32 (b.toNat : Int))) : Gives P n o e w (.int .u32 ((a ||| b).toNat : Int)) := Gives.bits .or (by simp) ho hx hy (bits_u32 a b).1
theorem Gives.u32xor (ho : o.op = .binOp .xor t x y t') (hx : ev e x = some (.int .u32 (a.toNat : Int))) (hy : ev e y = some (.int .u32 (b.toNat : Int))) : Gives P n o e w (.int .u32 ((a ^^^ b).toNat : Int)) := Gives.bits .xor (by simp) ho hx hy (bits_u32 a b).2.1
theorem Gives.u32add (ho : o.op = .binOp .add t x y t') (hx : ev e x = some (.int .u32 (a.toNat : Int))) (hy : ev e y = some (.int .u32 (b.toNat : Int))) : Gives P n o e w (.int .u32 ((a + b).toNat : Int)) := Gives.add ho hx hy (add_u32 a b)
theorem Gives.u32shr {k' : IntKind} (m : Nat) (ho : o.op = .binOp .shr t x y t') (hx : ev e x = some (.int .u32 (a.toNat : Int))) (hy : ev e y = some (.int k' (m : Int))) (hm : m < 32) : Gives P n o e w (.int .u32 ((a >>> UInt32.ofNat m).toNat : Int)) :=
  Gives.shrN m ho hx hy (by rw [Nat.ble_eq]; exact Nat.le_of_lt hm) (shr_u32 a m hm)
theorem Gives.u32shl {k' : IntKind} (m : Nat) (ho : o.op = .binOp .shl t x y t') (hx : ev e x = some (.int .u32 (a.toNat : Int))) (hy : ev e y = some (.int k' (m : Int))) (hm : m < 32) : Gives P n o e w (.int .u32 ((a <<< UInt32.ofNat m).toNat : Int)) :=
  Gives.shlN m ho hx hy (by rw [Nat.ble_eq]; exact Nat.le_of_lt hm) (shl_u32 a m hm)
theorem Gives.u32not (ho : o.op = .unOp .xor t x) (hx : ev e x = some (.int .u32 (a.toNat : Int))) : Gives P n o e w (.int .u32 ((~~~ a).toNat : Int)) := by
  refine Gives.compl ho hx ?_
  have h := (bits_u32 (UInt32.ofNat 4294967295) a).2.1
  have e1 : ((UInt32.ofNat 4294967295).toNat : Int) = 4294967295 := rfl
  rw [e1] at h
  have e2 : UInt32.ofNat 4294967295 ^^^ a = ~~~ a := by
    apply UInt32.toBitVec_inj.1
    simp
    have : (UInt32.ofNat 4294967295).toBitVec = BitVec.allOnes 32 := by decide
    rw [show (4294967295#32) = BitVec.allOnes 32 from by decide]
    exact BitVec.allOnes_xor
  rw [e2] at h
  exact h
theorem Gives.u8u32 {b : UInt8} (ho : o.op = .convert t t' x) (hs : P.underlying t = some (.int .u8)) (ht : P.underlying t' = some (.int .u32)) (hx : ev e x = some (.int .u8 (b.toNat : Int))) : Gives P n o e w (.int .u32 (b.toUInt32.toNat : Int)) :=
  Gives.conv ho hs ht hx (by rw [u32_in _ (by have := b.toNat_lt; omega)]; simp)
end
end Go.Proofs.YtnbgieccindpnaaDoor
