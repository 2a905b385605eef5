/- Laws for boxes that forget the world behind them: a store of a whole value, a store of one field, a new box. -/
import Derived.Test.YtnbgieccindpnaaDoorLib3
import Derived.Test.YtnbgieccindpnaaDoorPlan
import Derived.Laws.Tables
namespace Go.Proofs.YtnbgieccindpnaaDoor
set_option linter.all false
set_option maxRecDepth 20000
open Go.RowKit
section
variable {P : Program} {ops : Array Oper} {rest : List Oper} {o : Oper} {a : Act} {Q : Exit → Act → World → Prop} {w : World} {g : Nat} {t : TypeId} {cs : Array Value}
theorem fr_setRow (w : World) (g : Nat) (cs : Array Value) : Fr (fun k => k ≠ g) w (w.setRow g cs) := ⟨rfl, rfl, rfl, by simp, fun k hk hP => setRow_other w g k cs hP⟩
theorem wpList_stB (hgd : Region.wanted o (yielded ops a.tmps) = true) (ty : TypeId) (x y : Operand) (ho : o.op = .store ty x y) (cells : Array Value) (hx : a.eval x = .pointer (some ⟨g, 0, none⟩)) (hy : a.eval y = .agg cells)
    (hg : Blk w g t cs) (hi : (P.info? ty).map (·.size) = some cells.size) (hold : cs.size = cells.size) (h1 : cells.all (·.oneCell') = true)
    (h : ∀ w', Blk w' g t cells → Fr (fun k => k ≠ g) w w' → wpList P ops Q rest (a.put o.dst undef) w') : wpList P ops Q (o :: rest) a w :=
  BigFrame.wpList_want hgd fun _ hK => wp_store_row ty x y ho g cells hx hy t cs hg hi hold h1 (hK _ _ (h _ (setRow_heap w g cs cells t (0, 0) hg) (fr_setRow w g cells)))
theorem wpList_stC (hgd : Region.wanted o (yielded ops a.tmps) = true) (ty : TypeId) (x y : Operand) (ho : o.op = .store ty x y) (i : Nat) (v : Value) (hx : a.eval x = .pointer (some ⟨g, i, none⟩)) (hy : a.eval y = v)
    (hg : Blk w g t cs) (hi : (P.info? ty).map (·.size) = some 1) (hlt : i < cs.size) (h1 : v.oneCell' = true)
    (h : ∀ w', Blk w' g t (cs.setIfInBounds i v) → Fr (fun k => k ≠ g) w w' → wpList P ops Q rest (a.put o.dst undef) w') : wpList P ops Q (o :: rest) a w := by
  refine BigFrame.wpList_want hgd fun K hK => ?_
  have hc : w.cell? ⟨g, i, none⟩ = some cs[i] := by rw [hg.cell i]; simp [hlt]
  have hf := hg.free i
  have hv : v.cells = #[v] := by cases v <;> first | rfl | simp [Value.oneCell'] at h1
  have hadd : (⟨g, i, none⟩ : Addr).add 0 = ⟨g, i, none⟩ := by simp [Addr.add]
  have hst : (storeVar ty ⟨g, i, none⟩ v).run P w = .ok () (w.setCell ⟨g, i, none⟩ v) := by
    cases hq : P.info? ty with
    | none => simp [hq] at hi
    | some f =>
      have hs : f.size = 1 := by simpa [hq] using hi
      have hr := run_store P w ⟨g, i, none⟩ v .plain h1
      rw [hc] at hr
      simp [hf] at hr
      simp [storeVar, sizeOf, typeInfo, hq, hv, hs, storeCells, hadd, hr]
  unfold Oper.wp execOp
  simp only [ho, hx, hy, Instr.storeAt, Instr.sureAddr, Sem.run_bind, Sem.run_pure, Result.andThen_ok, hst]
  exact hK _ _ (h _ (hg.set_ i v) ((Fr.refl _ _).setCell (.inl (by simp)) v))
theorem wpList_alB (z : Value) (hgd : Region.wanted o (yielded ops a.tmps) = true) (ty : TypeId) (ho : o.op = .alloc ty) (hz : (P.info? ty).bind (·.zero) = some z) (hzc : z.cells = cs)
    (h : ∀ g w', w.heap.size ≤ g → Blk w' g ty cs → Ext w w' → wpList P ops Q rest (a.put o.dst (.pointer (some ⟨g, 0, none⟩))) w') : wpList P ops Q (o :: rest) a w := by
  refine BigFrame.wpList_want hgd fun K hK => ?_
  subst hzc
  have hrun : (Instr.alloc ty true (.tuple #[])).run P w = .ok (.pointer (some ⟨w.heap.size, 0, none⟩)) (w.alloc (.cells z.cells ty)) := by
    cases hq : P.info? ty with
    | none => simp [hq] at hz
    | some f =>
      have hf : f.zero = some z := by simpa [hq] using hz
      simp [Instr.alloc, zeroValue, typeInfo, hq, hf, newVar, newRow, go_sem]
  unfold Oper.wp execOp
  simp only [ho, Sem.run_bind, hrun, Result.andThen_ok, Sem.run_pure]
  exact hK _ _ (h _ _ (Nat.le_refl _) (Blk.new _ _ _) ((Ext.refl _).alloc _))
end
theorem Ext.over {w a b : World} {g : Nat} (h : Ext w a) (f : Fr (fun k => k ≠ g) a b) (hg : w.heap.size ≤ g) : Ext w b :=
  ⟨f.os.trans h.below.os, f.tape.trans h.below.tape, f.output.trans h.below.output, Nat.le_trans h.below.size f.size, fun k hk => (f.block k (Nat.lt_of_lt_of_le hk h.below.size) (by omega)).trans (h.below.block k hk)⟩
theorem BV.offs {w : World} {P : Nat → Prop} {n c : Nat} {A : Option Addr} {l : List UInt8} (h : BV w P A n c l) (P' : Nat → Prop) (hp : ∀ k, P k → k < w.heap.size → P' k) : BV w P' A n c l :=
  ⟨h.1, h.2.1, h.2.2.1, fun hn => let ⟨b, off, hA, hb, hP, hc⟩ := h.2.2.2 hn; ⟨b, off, hA, hb, hp b hP hb, hc⟩⟩
theorem BV.get {w : World} {P : Nat → Prop} {n c k : Nat} {A : Option Addr} {l : List UInt8} (h : BV w P A n c l) (hk : k < n) :
    ∃ b off x, A = some ⟨b, off, none⟩ ∧ l[k]? = some x ∧ b < w.heap.size ∧ w.cell? ⟨b, off + k, none⟩ = some (.int .u8 (x.toNat : Int)) := by
  obtain ⟨b, off, rfl, hb, _, hc⟩ := h.2.2.2 (by omega)
  have hl : k < l.length := by rw [h.len]; exact hk
  exact ⟨b, off, l[k], rfl, by simp [hl], hb, hc k _ (by simp [u8s, hl])⟩
end Go.Proofs.YtnbgieccindpnaaDoor
