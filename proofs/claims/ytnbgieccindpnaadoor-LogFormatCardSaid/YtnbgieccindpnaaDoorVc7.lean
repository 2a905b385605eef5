/- Laws over slots kept in a list: texts. -/
import Derived.Test.YtnbgieccindpnaaDoorVc6
import Derived.Test.YtnbgieccindpnaaDoorRep
import Derived.Laws.Strings
import Derived.Laws.BytesString
import Derived.Laws.IdiomStrings
namespace Go.Proofs.YtnbgieccindpnaaDoor
set_option linter.all false
set_option maxRecDepth 20000
open Go.RowKit
section
variable {P : Program} {n : Nat} {e : Env} {w : World} {o : Oper} {x y : Operand} {t t' el : TypeId} {S : Nat → Prop} {A : Option Addr} {m c : Nat} {l r : List UInt8}
/-- 'string(b)' -/
theorem Gives.toStr (ho : o.op = .convert t t' x) (hs : P.underlying t = some (.slice el)) (he : P.underlying el = some (.int .u8)) (hd : P.underlying t' = some .string) (hx : ev e x = some (.slice A m c)) (hb : BV w S A m c l) : Gives P n o e w (txt l) := .run fun a ha => by
  have hrun : (Conv.bytesToString (.slice A m c)).run P w = .ok (txt l) w := by
    cases A with
    | none =>
      have h0 : l = [] := by
        rcases Nat.eq_zero_or_pos m with h | h
        · exact List.eq_nil_of_length_eq_zero (hb.len.trans h)
        · obtain ⟨b, off, hA, _⟩ := hb.2.2.2 h; cases hA
      subst h0
      simp [Conv.bytesToString, txt, Sem.run_pure]
      rfl
    | some p =>
      have hl : (loadCells p m).run P w = .ok ((l.map fun b => (b.toNat : Int)).map (Value.int .u8)).toArray w := by
        have hu : ((l.map fun b => (b.toNat : Int)).map (Value.int .u8)) = u8s l := by simp [u8s]
        rw [hu]
        have h2 := run_loadCells_list (P := P) w p (u8s l) (fun j v hj => by
          have hjl := (List.getElem?_eq_some_iff.1 hj).1
          rw [u8s_length, hb.len] at hjl
          obtain ⟨b, off, hA, _, _, hc⟩ := hb.2.2.2 (by omega)
          cases hA
          rw [Addr.add_lit]; exact hc j v hj)
        rw [u8s_length, hb.len] at h2
        exact h2
      rw [run_bytesToString w p m c _ hl, foldl_push_byteCells]
      simp [txt]
  unfold execOp
  simp only [ho, ha.ev hx, Sem.run_bind, run_convert_bytes_string w t t' el A m c hs he hd, hrun, Result.andThen_ok, Sem.run_pure]
theorem Gives.txtEql (ho : o.op = .binOp .eql t x y t') (hx : ev e x = some (txt l)) (hy : ev e y = some (txt r)) : Gives P n o e w (.bool (decide (l = r))) := .run fun a ha => by
  have h : (l == r) = decide (l = r) := by rw [Bool.eq_iff_iff]; simp
  unfold execOp
  simp only [ho, ha.ev hx, ha.ev hy]
  simp [txt, binOp_string_eql, eqGuard, go_sem, h]
theorem Gives.txtNeq (ho : o.op = .binOp .neq t x y t') (hx : ev e x = some (txt l)) (hy : ev e y = some (txt r)) : Gives P n o e w (.bool (!decide (l = r))) := .run fun a ha => by
  have h : (l == r) = decide (l = r) := by rw [Bool.eq_iff_iff]; simp
  unfold execOp
  simp only [ho, ha.ev hx, ha.ev hy]
  simp [txt, binOp_string_neq, eqGuard, go_sem, h]
theorem Gives.lenTxt {ts : Array TypeId} (ho : o.op = .call { callee := .builtin .len, args := #[x], argTypes := ts }) (ht : (ts[0]?).bind P.underlying = some .string) (hx : ev e x = some (txt l)) : Gives P n o e w (.int .i64 (l.length : Int)) := Gives.lenStr (s := ⟨⟨l⟩⟩) ho ht hx
end
end Go.Proofs.YtnbgieccindpnaaDoor
