/- Laws for boxes: variables that lie in a block known whole. -/
import Derived.Test.YthbpddblejnjjaaLib2
import Derived.Laws.Rows
namespace Go.Proofs.Ythbpddblejnjjaa
set_option linter.all false
open Go.RowKit
section
variable {P : Program} {ops : Array Oper} {rest : List Oper} {o : Oper} {a : Act} {Q : Exit → Act → World → Prop}
theorem wp_ldB {w : World} {K : Act → World → Prop} (ty : TypeId) (x : Operand) (ho : o.op = .load ty x) (g : Nat) (hx : a.eval x = .pointer (some ⟨g, 0, none⟩)) {t : TypeId} {cs : Array Value} (hg : Blk w g t cs)
    (hd : (match P.underlying ty with | some (.struct _) | some (.array _ _) => true | _ => false) = true) (hi : (P.info? ty).map (·.size) = some cs.size)
    (h : K (a.put o.dst (.agg cs)) w) : o.wp P a w K Q := by
  cases hu : P.underlying ty with
  | none => simp [hu] at hd
  | some d => exact wp_load_row ty x ho g hx t cs (0, 0) d hg hu (by simp only [hu] at hd; cases d <;> simp_all) hi h
/-- a struct or array read out of its box -/
theorem wpList_ldB {w : World} (hgd : Region.wanted o (yielded ops a.tmps) = true) (ty : TypeId) (x : Operand) (ho : o.op = .load ty x) (g : Nat) (hx : a.eval x = .pointer (some ⟨g, 0, none⟩)) {t : TypeId} {cs : Array Value} (hg : Blk w g t cs)
    (hd : (match P.underlying ty with | some (.struct _) | some (.array _ _) => true | _ => false) = true) (hi : (P.info? ty).map (·.size) = some cs.size)
    (h : wpList P ops Q rest (a.put o.dst (.agg cs)) w) : wpList P ops Q (o :: rest) a w :=
  BigFrame.wpList_want hgd fun _ hK => wp_ldB ty x ho g hx hg hd hi (hK _ _ h)
end
/-! Blocks of P keep what they hold, and one step more. -/
section
variable {P P' : Nat → Prop} {a b c w w' : World}
theorem Fr.ext (h : Fr P a b) (e : Ext b c) : Fr P a c := h.trans e.fr
theorem Fr.blk {g : Nat} {t : TypeId} {cs : Array Value} (h : Blk w g t cs) (hg : P g) (e : Fr P w w') : Blk w' g t cs := h.fr e hg
end
end Go.Proofs.Ythbpddblejnjjaa
