/- Laws over slots kept in a list: structs in the middle of a row, arrays by value, literals of structs, rows of ints. -/
import Derived.Test.YtnbgieccindpnaaDoorVc4
import Derived.Deep.MidRow
import Derived.DeepKeys
namespace Go.Proofs.YtnbgieccindpnaaDoor
set_option linter.all false
set_option maxRecDepth 20000
open Go.RowKit
section
variable {P : Program} {n : Nat} {e : Env} {w : World} {o : Oper} {x y z : Operand} {t el : TypeId} {v : Value} {k : IntKind}
/-- a struct or an array read, wherever it lies -/
theorem Gives.ldM {b off : Nat} {cs : List Value} (ho : o.op = .load t x) (hd : (match P.underlying t with | some (.struct _) | some (.array _ _) => true | _ => false) = true) (hx : ev e x = some (.pointer (some ⟨b, off, none⟩))) (hc : w.rangeAt b off cs) (hi : (P.info? t).map (·.size) = some cs.length) : Gives P n o e w (.agg cs.toArray) := .run fun a ha => by
  cases hu : P.underlying t with
  | none => simp [hu] at hd
  | some d =>
    have hr : d.isRow = true := by simp only [hu] at hd; cases d <;> simp_all [TypeDesc.isRow]
    have h := run_loadAt_mid (P := P) w b off t cs d hc hu hr hi
    unfold execOp
    simp only [ho, ha.ev hx, Sem.run_bind, h, Result.andThen_ok]
    rfl
/-- an element's address: a slice, elements of any size -/
theorem Gives.ixSZ {b off m c i sz : Nat} {zi : Int} (ho : o.op = .indexAddr t x y) (ht : P.underlying t = some (.slice el)) (hsz : (P.info? el).map (·.size) = some sz) (hx : ev e x = some (.slice (some ⟨b, off, none⟩) m c)) (hy : ev e y = some (.int k zi)) (hz : zi = (i : Int)) (hlt : i < m) :
    Gives P n o e w (.pointer (some ⟨b, off + i * sz, none⟩)) := .run fun q hq => by
  subst hz
  cases hq' : P.info? el with
  | none => simp [hq'] at hsz
  | some f =>
    have hf : f.size = sz := by simpa [hq'] using hsz
    have h1 : (i : Int) < m := by omega
    unfold execOp
    simp only [ho, hq.ev hx, hq.ev hy]
    simp [Instr.indexAt, asIntOf, run_underlying ht, h1, hlt, sizeOf, typeInfo, hq', hf, Addr.add_lit, go_sem]
    try (intro h; omega)
theorem fold_set : ∀ (vs : List Value) (k : Nat) (cells : Array Value), cells.size = k + vs.length →
    (vs.zipIdx k).foldl (fun (cs : Array Value) (q : Value × Nat) => cs.setIfInBounds (0 + q.2) q.1) cells = (cells.toList.take k ++ vs).toArray
  | [], k, cells, h => by
    apply Array.ext'
    simp only [List.zipIdx_nil, List.foldl_nil, List.append_nil]
    rw [List.take_of_length_le (by simp at h ⊢; omega)]
  | v :: r, k, cells, h => by
    rw [List.zipIdx_cons, List.foldl_cons, fold_set r (k + 1) _ (by simp at h ⊢; omega)]
    apply Array.ext'
    have hk : k < cells.toList.length := by simp at h ⊢; omega
    simp only [Nat.zero_add, Array.toList_setIfInBounds]
    rw [List.take_add_one, List.take_set_of_le (Nat.le_refl _)]
    simp at hk
    simp [hk]
theorem fill_one {sz : Nat} {cs cells : Array Value} (h1 : cs.size = sz) (h2 : cells.size = sz) : Instr.fill (fun i => some (i * sz, sz)) cells [(0, .agg cs)] = some cs := by
  unfold Instr.fill
  have hc : (Value.agg cs).cells = cs := rfl
  simp only [Nat.zero_mul, hc, h1, h2]
  rw [if_neg (by simp)]
  unfold Instr.fill
  congr 1
  have h := fold_set cs.toList 0 cells (by simp [h1, h2])
  simp only [List.take_zero, List.nil_append] at h
  rw [← Array.foldl_toList, Array.toList_zipIdx]
  exact h
/-- a slice literal of one struct -/
theorem Does.lit1 {cs : Array Value} {zv : Value} (sz : Nat) (ho : o.op = .buildSlice t 1 #[(0, x)]) (ht : P.underlying t = some (.slice el)) (hinf : (P.info? el).map (fun i => (i.zero, i.size)) = some (some zv, sz)) (hx : ev e x = some (.agg cs)) (hcs : cs.size = sz) (hsz : (Nat.ble sz 16777216 && Nat.ble 1 sz) = true) :
    Does P n o e w (fun v w' => ∃ g, v = .slice (some ⟨g, 0, none⟩) 1 1 ∧ w.heap.size ≤ g ∧ Blk w' g el cs ∧ Ext w w') := by
  intro a ha ops Q rest hw hK
  refine BigFrame.wpList_want hw fun K hk => ?_
  simp only [Bool.and_eq_true] at hsz
  have hsz' := Nat.le_of_ble_eq_true hsz.1
  have hsz0 := Nat.le_of_ble_eq_true hsz.2
  cases hie : P.info? el with
  | none => simp [hie] at hinf
  | some f =>
    have hf : f.zero = some zv ∧ f.size = sz := by simpa [hie] using hinf
    have hzero : ∀ w, (zeroValue el).run P w = .ok zv w := fun w => by simp [zeroValue, typeInfo, hie, hf.1, go_sem]
    have hs : ∀ w, (sizeOf el).run P w = .ok sz w := fun w => by simp [sizeOf, typeInfo, hie, hf.2]
    have hrun : (execOp a.eval o).run P w = .ok (.value (.slice (some ⟨w.heap.size, 0, none⟩) 1 1)) (w.alloc (.cells cs el)) := by
      unfold execOp
      simp only [ho, Instr.buildSlice, Sem.run_bind, run_underlying ht, Result.andThen_ok, hs, Nat.one_mul]
      rw [if_neg (by omega)]
      rw [if_neg (by omega)]
      simp only [Sem.run_pure, Sem.run_bind, Result.andThen_ok, hzero, List.map_toArray, List.map_cons, List.map_nil, ha.ev hx]
      rw [fill_one hcs (by simp)]
      simp [newRow, go_sem]
    unfold Oper.wp
    rw [hrun]
    exact hk _ _ (hK _ _ ⟨_, rfl, Nat.le_refl _, Blk.new _ _ _, (Ext.refl _).alloc _⟩)
end
section
variable {P : Program} {n : Nat} {e : Env} {w : World} {o : Oper} {x y : Operand} {t el : TypeId}
/-- one byte of a row of the call's own written -/
theorem Does.stO {g i m c base : Nat} {l : List UInt8} (v : UInt8) {z : Int} (ho : o.op = .store t x y) (hx : ev e x = some (.pointer (some ⟨g, 0 + i, none⟩))) (hy : ev e y = some (.int .u8 z)) (hz : z = (v.toNat : Int)) (hown : OB w base el (some ⟨g, 0, none⟩) m c l) (hi : (P.info? t).map (·.size) = some 1) (hlt : i < m) :
    Does P n o e w (fun _ w' => OB w' base el (some ⟨g, 0, none⟩) m c (l.set i v) ∧ Fr (fun k => k ≠ g) w w') := by
  subst hz
  have hl := hown.len
  rcases hown.2 with ⟨hv, h0⟩ | ⟨g', cap, cur, hv, hb, hg, hnc, hcm, hcs, ht⟩
  · omega
  · simp only [Value.slice.injEq, Option.some.injEq, Addr.mk.injEq, and_true, true_and] at hv
    obtain ⟨rfl, rfl⟩ := hv
    have hsz : i < cur.size := by omega
    refine (Does.stC (i := 0 + i) ho hx hy (show Blk w g el cur from hg) hi (by omega) rfl).mono fun _ w' ⟨h1, h2⟩ => ⟨⟨by simp [u8s, hl], .inr ⟨g, c, cur.setIfInBounds i (.int .u8 (v.toNat : Int)), rfl, hb, by rw [Nat.zero_add] at h1; exact h1, hnc, hcm, by simpa using hcs, ?_⟩⟩, h2⟩
    simp only [Nat.mul_one] at ht ⊢
    rw [Array.toList_setIfInBounds, List.take_set, ht]
    simp [u8s, List.map_set]
theorem Does.stM {g i : Nat} {tt : TypeId} {l : List UInt8} (v : UInt8) {z : Int} (ho : o.op = .store t x y) (hx : ev e x = some (.pointer (some ⟨g, 0 + i, none⟩))) (hy : ev e y = some (.int .u8 z)) (hz : z = (v.toNat : Int)) (hm : MB w g tt l) (hi : (P.info? t).map (·.size) = some 1) (hlt : i < l.length) :
    Does P n o e w (fun _ w' => MB w' g tt (l.set i v) ∧ Fr (fun k => k ≠ g) w w') := by
  subst hz
  refine (Does.stC (i := 0 + i) ho hx hy hm hi (by simp [u8s]; exact hlt) rfl).mono fun _ w' ⟨h1, h2⟩ => ⟨?_, h2⟩
  unfold MB
  have e : (u8s (l.set i v)).toArray = (u8s l).toArray.setIfInBounds i (.int .u8 (v.toNat : Int)) := by
    apply Array.ext'
    simp [u8s, List.map_set]
  rw [e]
  rw [Nat.zero_add] at h1
  exact h1
end
theorem BV.cellAt {w : World} {P : Nat → Prop} {g off n c i : Nat} {l : List UInt8} {x : UInt8} (h : BV w P (some ⟨g, off, none⟩) n c l) (hx : l[i]? = some x) : w.cell? ⟨g, off + i, none⟩ = some (.int .u8 (x.toNat : Int)) := by
  have hl := h.len
  have hi := (List.getElem?_eq_some_iff.1 hx).1
  obtain ⟨b, o, hA, _, _, hc⟩ := h.2.2.2 (by omega)
  cases hA
  exact hc i _ (by simp [u8s, hx])
def gb1 (l : List UInt8) (i : Nat) : UInt8 := l.getD i 0
theorem gb1_some (l : List UInt8) (i : Nat) (h : i < l.length) : l[i]? = some (gb1 l i) := by unfold gb1; simp [h]
section
variable {P : Program} {ops : Array Oper} {rest : List Oper} {o : Oper} {a : Act} {Q : Exit → Act → World → Prop} {S : Nat → Prop} {w : World}
end
section
variable {P : Program} {n : Nat} {e : Env} {w : World} {o : Oper} {x y : Operand} {el : TypeId} {S : Nat → Prop}
end
end Go.Proofs.YtnbgieccindpnaaDoor
