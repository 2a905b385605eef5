/- Laws over slots kept in a list: bools compared, aggregates compared. -/
import Derived.Test.YtnbgieccindpnaaDoorVc5
import Derived.Test.YtnbgieccindpnaaDoorOwn
import Derived.Test.YtnbgieccindpnaaDoorVcA
import Derived.Laws.Append
import Derived.Laws.AppendOwn
import Derived.Laws.StructEq
import Derived.Laws.Small
namespace Go.Proofs.YtnbgieccindpnaaDoor
set_option linter.all false
set_option maxRecDepth 20000
open Go.RowKit
section
variable {P : Program} {n : Nat} {e : Env} {w : World} {o : Oper} {x y : Operand} {t t' : TypeId}
end
/-! 'append' that must lay a new row. -/
section
variable {P : Program}
theorem run_app_new {w : World} {t ty e : TypeId} {i : TypeInfo} {z : Value} {size bytes : Nat} (ht : P.underlying t = some (.slice e)) (hi : P.info? e = some i) (hz : i.zero = some z) (hsize : i.size = size) (hby : i.bytes = bytes) (hzs : z.cells.size = size)
    {S T : Nat → Prop} {B A : Option Addr} {n c0 m c : Nat} {xs ys : List Value} (hB : Row w S size B n c0 xs) (h0 : B = none → c0 = 0) (hA : Row w T size A m c ys) (hm : 0 < m) (hg : c0 < n + m) (hbytes : (n + m) * bytes ≤ 140737488355328) (hpos : 0 < bytes) :
    ∃ c' w', (Builtin.append_ #[t, t] ty #[.slice B n c0, .slice A m c]).run P w = .ok (.slice (some ⟨w.heap.size, 0, none⟩) (n + m) c') w' ∧ w'.ownsRow w.heap.size e size (.slice (some ⟨w.heap.size, 0, none⟩) (n + m) c') (n + m) (xs ++ ys) ∧ Ext w w' := by
  subst hsize hby
  have h63 : n + m ≤ maxLen := by
    have : n + m ≤ (n + m) * i.bytes := Nat.le_mul_of_pos_right _ hpos
    simp only [maxLen]; omega
  have h63' : ((n + m : Nat) : Int) ≤ 9223372036854775807 := by simp only [maxLen] at h63; omega
  have hlen : (xs ++ ys).length = (n + m) * i.size := by rw [List.length_append, hB.1, hA.1, Nat.add_mul]
  have hge := grownCap_ge w (n + m) c0 e
  have hcm : grownCap w (n + m) c0 e ≤ maxLen := grownCap_le_maxLen w (n + m) c0 e h63
  obtain ⟨b, off, rfl, _, _, hc⟩ := hA.2.2.2 hm
  have hnews : ∀ j v, ys[j]? = some v → w.cell? (Addr.add ⟨b, off, none⟩ j) = some v := fun j v hv => by rw [Addr.add_lit]; exact hc j v hv
  have own : (w.drew.alloc (.cells (xs.toArray ++ ys.toArray ++ Builtin.zeroCells z.cells (grownCap w (n + m) c0 e - (n + m))) e)).ownsRow w.heap.size e i.size (.slice (some ⟨w.heap.size, 0, none⟩) (n + m) (grownCap w (n + m) c0 e)) (n + m) (xs ++ ys) := by
    refine ⟨hlen, .inr ⟨w.heap.size, _, _, rfl, Nat.le_refl _, heap_alloc_new w.drew _, hge, hcm, ?_, ?_⟩⟩
    · simp only [Array.size_append, List.size_toArray, size_zeroCells, hzs, hB.1, hA.1, ← Nat.add_mul]
      congr 1
      omega
    · simp only [Array.toList_append, List.append_assoc]
      rw [← List.append_assoc, ← hlen]
      exact List.take_left
  have ext : Ext w (w.drew.alloc (.cells (xs.toArray ++ ys.toArray ++ Builtin.zeroCells z.cells (grownCap w (n + m) c0 e - (n + m))) e)) := ((Ext.refl w).drew).alloc _
  have hfit := growslice_fits (bytes := i.bytes) hg hbytes
  cases B with
  | none =>
    obtain rfl := h0 rfl
    obtain rfl : n = 0 := by have := hB.2.1; omega
    obtain rfl : xs = [] := List.eq_nil_of_length_eq_zero (by simpa using hB.1)
    have hb2 : m * i.bytes ≤ 140737488355328 := by rw [Nat.zero_add] at hbytes; exact hbytes
    have hrun := run_append_nil (P := P) w t ty e i z ht hi hz ⟨b, off, none⟩ m c ys hA.1 hnews hm (by omega) (by omega)
    rw [Nat.zero_add] at *
    exact ⟨_, _, hrun, by simpa using own, by simpa using ext⟩
  | some p =>
    have holds : ∀ j v, xs[j]? = some v → w.cell? (p.add j) = some v := fun j v hv => by
      have hj := (List.getElem?_eq_some_iff.1 hv).1
      have hn : 0 < n := by
        rcases Nat.eq_zero_or_pos n with h | h
        · subst h; have := hB.1; omega
        · exact h
      obtain ⟨b', off', hp, _, _, hc'⟩ := hB.2.2.2 hn
      cases hp
      rw [Addr.add_lit]; exact hc' j v hv
    exact ⟨_, _, run_append_grow (P := P) w t ty e i z ht hi hz p n c0 xs hB.1 holds ⟨b, off, none⟩ m c ys hA.1 hnews hg h63' hfit, own, ext⟩
theorem run_app_none {w : World} {t ty e : TypeId} {i : TypeInfo} (ht : P.underlying t = some (.slice e)) (hi : P.info? e = some i) (B A : Option Addr) (n c0 c : Nat) (hn : n ≤ c0) :
    (Builtin.append_ #[t, t] ty #[.slice B n c0, .slice A 0 c]).run P w = .ok (.slice B n c0) w := by
  cases B <;> cases A <;> simp [Builtin.append_, run_underlying ht, sizeOf, typeInfo, hi, Builtin.lenOf, Builtin.firstCells, hn, storeCells, loadCells, loadCellsFrom]
variable {n : Nat} {e : Env} {w : World} {o : Oper} {x y z : Operand} {t el : TypeId} {S T : Nat → Prop} {A B : Option Addr} {m c p sc : Nat}
/-- .. as an operation -/
theorem Does.appN {zv : Value} {size bytes : Nat} {xs ys : List Value} (ho : o.op = .call { callee := .builtin .append, args := #[x, y], argTypes := #[t, t] }) (ht : P.underlying t = some (.slice el)) (hinf : (P.info? el).map (fun i => (i.zero, i.size, i.bytes)) = some (some zv, size, bytes)) (hzs : zv.cells.size = size)
    (hx : ev e x = some (.slice B p sc)) (hy : ev e y = some (.slice A m c)) (hB : Row w S size B p sc xs) (h0 : B = none → sc = 0) (hA : Row w T size A m c ys) (hm : 0 < m) (hg : sc < p + m) (hbytes : (p + m) * bytes ≤ 140737488355328) (hpos : 0 < bytes) :
    Does P n o e w (fun v w' => ∃ g c', v = .slice (some ⟨g, 0, none⟩) (p + m) c' ∧ w.heap.size ≤ g ∧ w'.ownsRow w.heap.size el size (.slice (some ⟨g, 0, none⟩) (p + m) c') (p + m) (xs ++ ys) ∧ Ext w w') :=
  fun a ha ops Q rest hw hK => by
    obtain ⟨i, hi, hz0, hz1, hz2⟩ := info_parts hinf
    refine BigFrame.wpList_want hw fun K hk => ?_
    obtain ⟨c', w', hrun, h2, h3⟩ := run_app_new (P := P) (ty := o.type) ht hi hz0 hz1 hz2 hzs hB h0 hA hm hg hbytes hpos
    unfold Oper.wp execOp
    simp only [ho, resolve, invoke, builtin, Sem.run_bind, Sem.run_pure, Result.andThen_ok, List.map_toArray, List.map_cons, List.map_nil, ha.ev hx, ha.ev hy, hrun]
    exact hk _ _ (hK _ w' ⟨_, c', rfl, Nat.le_refl _, h2, h3⟩)
/-- 's[:hi:max]' -/
theorem Gives.cutHM {kd kd' : IntKind} (h mx : Nat) {q q' : Int} (ho : o.op = .slice t x none (some y) (some z)) (ht : P.underlying t = some (.slice el)) (hsz : (P.info? el).isSome = true) (hx : ev e x = some (.slice A m c)) (hy : ev e y = some (.int kd q)) (hz : ev e z = some (.int kd' q')) (hq : q = (h : Int)) (hq' : q' = (mx : Int)) (hh : h ≤ mx) (hmx : mx ≤ c) : Gives P n o e w (.slice A h mx) := .run fun a ha => by
  subst hq hq'
  cases hi : P.info? el with
  | none => simp [hi] at hsz
  | some f =>
    have hel : P.elem t = el := by simp [Program.elem, ht]
    have hat := fun (x : Value) (lo hi mx : Option Value) => run_sliceAt_slice (P := P) w t x lo hi mx (by rw [hel]; exact ht)
    have hrun := run_cut_hm (P := P) w t A m c (by rw [hel]; exact ht) kd kd' h mx (by omega) (by omega) (by omega)
    have hs : (sizeOf (P.elem t)).run P w = .ok f.size w := by simp [sizeOf, typeInfo, hel, hi]
    unfold execOp
    simp only [ho, ha.ev hx, ha.ev hy, ha.ev hz, Option.map_some, Option.map_none, Sem.run_bind, hat, hrun, hs, Result.andThen_ok, Sem.run_pure, Int.toNat_natCast]
end
/-! bytes that may be written, somewhere in a block -/
section
variable {w w' : World} {base n c : Nat} {A : Option Addr} {l : List UInt8} {P : Nat → Prop}
variable {Pr : Program} {nn : Nat} {e : Env} {o : Oper} {x y : Operand} {t : TypeId}
end
section
variable {P : Program} {n : Nat} {e : Env} {w : World} {o : Oper} {x y : Operand} {t el : TypeId} {T : Nat → Prop} {A B : Option Addr} {m c p base : Nat} {l r : List UInt8}
end
end Go.Proofs.YtnbgieccindpnaaDoor
