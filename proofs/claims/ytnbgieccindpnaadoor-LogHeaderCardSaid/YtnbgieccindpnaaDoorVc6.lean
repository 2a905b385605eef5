/- Laws over slots kept in a list: bools compared, aggregates compared. -/
import Derived.Test.YtnbgieccindpnaaDoorVc5
import Derived.Test.YtnbgieccindpnaaDoorOwn
import Derived.Test.YtnbgieccindpnaaDoorVcA
import Derived.Laws.Append
import Derived.Laws.AppendOwn
import Derived.Laws.StructEq
import Derived.Laws.Small
namespace Go.Proofs.YtnbgieccindpnaaDoor
set_option linter.all false
set_option maxRecDepth 20000
open Go.RowKit
section
variable {P : Program} {n : Nat} {e : Env} {w : World} {o : Oper} {x y : Operand} {t t' : TypeId}
theorem Gives.boolEql {a b : Bool} (ho : o.op = .binOp .eql t x y t') (hx : ev e x = some (.bool a)) (hy : ev e y = some (.bool b)) (ht : P.underlying t = some .bool) : Gives P n o e w (.bool (a == b)) := .run fun c hc => by
  unfold execOp
  simp only [ho, hc.ev hx, hc.ev hy]
  simp [run_eql_bool w t a b ht, eqGuard, go_sem]
theorem Gives.boolNeq {a b : Bool} (ho : o.op = .binOp .neq t x y t') (hx : ev e x = some (.bool a)) (hy : ev e y = some (.bool b)) (ht : P.underlying t = some .bool) : Gives P n o e w (.bool (!(a == b))) := .run fun c hc => by
  unfold execOp
  simp only [ho, hc.ev hx, hc.ev hy]
  simp [run_neq_bool w t a b ht, eqGuard, go_sem]
theorem Gives.neqA {cs ds : Array Value} {b : Bool} (ho : o.op = .binOp .neq t x y t') (hx : ev e x = some (.agg cs)) (hy : ev e y = some (.agg ds)) (hg : P.eqGuardType P.depth t = false) (h : (Op.equal t (.agg cs) (.agg ds)).run P w = .ok b w) : Gives P n o e w (.bool (!b)) := .run fun c hc => by
  unfold execOp
  simp only [ho, hc.ev hx, hc.ev hy]
  simp [binOp, eqGuard, hg, h, go_sem]
end
/-! 'append' that must lay a new row. -/
section
variable {P : Program}
theorem run_app_new {w : World} {t ty e : TypeId} {i : TypeInfo} {z : Value} {size bytes : Nat} (ht : P.underlying t = some (.slice e)) (hi : P.info? e = some i) (hz : i.zero = some z) (hsize : i.size = size) (hby : i.bytes = bytes) (hzs : z.cells.size = size)
    {S T : Nat → Prop} {B A : Option Addr} {n c0 m c : Nat} {xs ys : List Value} (hB : Row w S size B n c0 xs) (h0 : B = none → c0 = 0) (hA : Row w T size A m c ys) (hm : 0 < m) (hg : c0 < n + m) (hbytes : (n + m) * bytes ≤ 140737488355328) (hpos : 0 < bytes) :
    ∃ c' w', (Builtin.append_ #[t, t] ty #[.slice B n c0, .slice A m c]).run P w = .ok (.slice (some ⟨w.heap.size, 0, none⟩) (n + m) c') w' ∧ w'.ownsRow w.heap.size e size (.slice (some ⟨w.heap.size, 0, none⟩) (n + m) c') (n + m) (xs ++ ys) ∧ Ext w w' := by
  subst hsize hby
  have h63 : n + m ≤ maxLen := by
    have : n + m ≤ (n + m) * i.bytes := Nat.le_mul_of_pos_right _ hpos
    simp only [maxLen]; omega
  have h63' : ((n + m : Nat) : Int) ≤ 9223372036854775807 := by simp only [maxLen] at h63; omega
  have hlen : (xs ++ ys).length = (n + m) * i.size := by rw [List.length_append, hB.1, hA.1, Nat.add_mul]
  have hge := grownCap_ge w (n + m) c0 e
  have hcm : grownCap w (n + m) c0 e ≤ maxLen := grownCap_le_maxLen w (n + m) c0 e h63
  obtain ⟨b, off, rfl, _, _, hc⟩ := hA.2.2.2 hm
  have hnews : ∀ j v, ys[j]? = some v → w.cell? (Addr.add ⟨b, off, none⟩ j) = some v := fun j v hv => by rw [Addr.add_lit]; exact hc j v hv
  have own : (w.drew.alloc (.cells (xs.toArray ++ ys.toArray ++ Builtin.zeroCells z.cells (grownCap w (n + m) c0 e - (n + m))) e)).ownsRow w.heap.size e i.size (.slice (some ⟨w.heap.size, 0, none⟩) (n + m) (grownCap w (n + m) c0 e)) (n + m) (xs ++ ys) := by
    refine ⟨hlen, .inr ⟨w.heap.size, _, _, rfl, Nat.le_refl _, heap_alloc_new w.drew _, hge, hcm, ?_, ?_⟩⟩
    · simp only [Array.size_append, List.size_toArray, size_zeroCells, hzs, hB.1, hA.1, ← Nat.add_mul]
      congr 1
      omega
    · simp only [Array.toList_append, List.append_assoc]
      rw [← List.append_assoc, ← hlen]
      exact List.take_left
  have ext : Ext w (w.drew.alloc (.cells (xs.toArray ++ ys.toArray ++ Builtin.zeroCells z.cells (grownCap w (n + m) c0 e - (n + m))) e)) := ((Ext.refl w).drew).alloc _
  have hfit := growslice_fits (bytes := i.bytes) hg hbytes
  cases B with
  | none =>
    obtain rfl := h0 rfl
    obtain rfl : n = 0 := by have := hB.2.1; omega
    obtain rfl : xs = [] := List.eq_nil_of_length_eq_zero (by simpa using hB.1)
    have hb2 : m * i.bytes ≤ 140737488355328 := by rw [Nat.zero_add] at hbytes; exact hbytes
    have hrun := run_append_nil (P := P) w t ty e i z ht hi hz ⟨b, off, none⟩ m c ys hA.1 hnews hm (by omega) (by omega)
    rw [Nat.zero_add] at *
    exact ⟨_, _, hrun, by simpa using own, by simpa using ext⟩
  | some p =>
    have holds : ∀ j v, xs[j]? = some v → w.cell? (p.add j) = some v := fun j v hv => by
      have hj := (List.getElem?_eq_some_iff.1 hv).1
      have hn : 0 < n := by
        rcases Nat.eq_zero_or_pos n with h | h
        · subst h; have := hB.1; omega
        · exact h
      obtain ⟨b', off', hp, _, _, hc'⟩ := hB.2.2.2 hn
      cases hp
      rw [Addr.add_lit]; exact hc' j v hv
    exact ⟨_, _, run_append_grow (P := P) w t ty e i z ht hi hz p n c0 xs hB.1 holds ⟨b, off, none⟩ m c ys hA.1 hnews hg h63' hfit, own, ext⟩
theorem run_app_none {w : World} {t ty e : TypeId} {i : TypeInfo} (ht : P.underlying t = some (.slice e)) (hi : P.info? e = some i) (B A : Option Addr) (n c0 c : Nat) (hn : n ≤ c0) :
    (Builtin.append_ #[t, t] ty #[.slice B n c0, .slice A 0 c]).run P w = .ok (.slice B n c0) w := by
  cases B <;> cases A <;> simp [Builtin.append_, run_underlying ht, sizeOf, typeInfo, hi, Builtin.lenOf, Builtin.firstCells, hn, storeCells, loadCells, loadCellsFrom]
variable {n : Nat} {e : Env} {w : World} {o : Oper} {x y z : Operand} {t el : TypeId} {S T : Nat → Prop} {A B : Option Addr} {m c p sc : Nat}
/-- .. as an operation -/
theorem Does.appN {zv : Value} {size bytes : Nat} {xs ys : List Value} (ho : o.op = .call { callee := .builtin .append, args := #[x, y], argTypes := #[t, t] }) (ht : P.underlying t = some (.slice el)) (hinf : (P.info? el).map (fun i => (i.zero, i.size, i.bytes)) = some (some zv, size, bytes)) (hzs : zv.cells.size = size)
    (hx : ev e x = some (.slice B p sc)) (hy : ev e y = some (.slice A m c)) (hB : Row w S size B p sc xs) (h0 : B = none → sc = 0) (hA : Row w T size A m c ys) (hm : 0 < m) (hg : sc < p + m) (hbytes : (p + m) * bytes ≤ 140737488355328) (hpos : 0 < bytes) :
    Does P n o e w (fun v w' => ∃ g c', v = .slice (some ⟨g, 0, none⟩) (p + m) c' ∧ w.heap.size ≤ g ∧ w'.ownsRow w.heap.size el size (.slice (some ⟨g, 0, none⟩) (p + m) c') (p + m) (xs ++ ys) ∧ Ext w w') :=
  fun a ha ops Q rest hw hK => by
    obtain ⟨i, hi, hz0, hz1, hz2⟩ := info_parts hinf
    refine BigFrame.wpList_want hw fun K hk => ?_
    obtain ⟨c', w', hrun, h2, h3⟩ := run_app_new (P := P) (ty := o.type) ht hi hz0 hz1 hz2 hzs hB h0 hA hm hg hbytes hpos
    unfold Oper.wp execOp
    simp only [ho, resolve, invoke, builtin, Sem.run_bind, Sem.run_pure, Result.andThen_ok, List.map_toArray, List.map_cons, List.map_nil, ha.ev hx, ha.ev hy, hrun]
    exact hk _ _ (hK _ w' ⟨_, c', rfl, Nat.le_refl _, h2, h3⟩)
/-- nothing appended -/
theorem Gives.app0 (ho : o.op = .call { callee := .builtin .append, args := #[x, y], argTypes := #[t, t] }) (ht : P.underlying t = some (.slice el)) (hinf : (P.info? el).isSome = true)
    (hx : ev e x = some (.slice B p sc)) (hy : ev e y = some (.slice A m c)) (hm : m = 0) (hp : p ≤ sc) : Gives P n o e w (.slice B p sc) := .run fun a ha => by
  subst hm
  cases hi : P.info? el with
  | none => simp [hi] at hinf
  | some i =>
    have hrun := run_app_none (P := P) (w := w) (ty := o.type) ht hi B A p sc c hp
    unfold execOp
    simp only [ho, resolve, invoke, builtin, Sem.run_bind, Sem.run_pure, Result.andThen_ok, List.map_toArray, List.map_cons, List.map_nil, ha.ev hx, ha.ev hy, hrun]
/-- 's[:hi:max]' -/
theorem Gives.cutHM {kd kd' : IntKind} (h mx : Nat) {q q' : Int} (ho : o.op = .slice t x none (some y) (some z)) (ht : P.underlying t = some (.slice el)) (hsz : (P.info? el).isSome = true) (hx : ev e x = some (.slice A m c)) (hy : ev e y = some (.int kd q)) (hz : ev e z = some (.int kd' q')) (hq : q = (h : Int)) (hq' : q' = (mx : Int)) (hh : h ≤ mx) (hmx : mx ≤ c) : Gives P n o e w (.slice A h mx) := .run fun a ha => by
  subst hq hq'
  cases hi : P.info? el with
  | none => simp [hi] at hsz
  | some f =>
    have hel : P.elem t = el := by simp [Program.elem, ht]
    have hat := fun (x : Value) (lo hi mx : Option Value) => run_sliceAt_slice (P := P) w t x lo hi mx (by rw [hel]; exact ht)
    have hrun := run_cut_hm (P := P) w t A m c (by rw [hel]; exact ht) kd kd' h mx (by omega) (by omega) (by omega)
    have hs : (sizeOf (P.elem t)).run P w = .ok f.size w := by simp [sizeOf, typeInfo, hel, hi]
    unfold execOp
    simp only [ho, ha.ev hx, ha.ev hy, ha.ev hz, Option.map_some, Option.map_none, Sem.run_bind, hat, hrun, hs, Result.andThen_ok, Sem.run_pure, Int.toNat_natCast]
end
/-! bytes that may be written, somewhere in a block -/
def YB (w : World) (base : Nat) (A : Option Addr) (n c : Nat) (l : List UInt8) : Prop :=
  l.length = n ∧ n ≤ c ∧ c ≤ 9223372036854775807 ∧ (0 < n → ∃ g off t cur, A = some ⟨g, off, none⟩ ∧ base ≤ g ∧ Blk w g t cur ∧ off + n ≤ cur.size ∧ (cur.toList.drop off).take n = u8s l)
section
variable {w w' : World} {base n c : Nat} {A : Option Addr} {l : List UInt8} {P : Nat → Prop}
theorem YB.len (h : YB w base A n c l) : l.length = n := h.1
theorem YB.le (h : YB w base A n c l) : n ≤ c ∧ c ≤ 9223372036854775807 := ⟨h.2.1, h.2.2.1⟩
theorem YB.of {e : TypeId} (h : OB w base e A n c l) : YB w base A n c l := by
  refine ⟨h.len, h.le.1, h.le.2, fun hn => ?_⟩
  rcases h.2 with ⟨hv, h0⟩ | ⟨g, cap, cur, hv, hb, hg, hnc, hcm, hcs, ht⟩
  · omega
  · simp only [Value.slice.injEq] at hv
    obtain ⟨rfl, _, rfl⟩ := hv
    exact ⟨g, 0, e, cur, rfl, hb, hg, by omega, by simpa using ht⟩
theorem YB.take {k : Nat} (h : YB w base A n c l) (hk : k ≤ n) {c' : Nat} (h1 : k ≤ c') (h2 : c' ≤ c) : YB w base A k c' (l.take k) := by
  refine ⟨by rw [List.length_take, h.len]; omega, h1, by have := h.le; omega, fun hn => ?_⟩
  obtain ⟨g, off, t, cur, hA, hb, hg, hs, ht⟩ := h.2.2.2 (by omega)
  refine ⟨g, off, t, cur, hA, hb, hg, by omega, ?_⟩
  rw [← u8s_take, ← ht, List.take_take, Nat.min_eq_left hk]
theorem YB.ext (h : YB w base A n c l) (f : Ext w w') : YB w' base A n c l := ⟨h.1, h.2.1, h.2.2.1, fun hn => let ⟨g, off, t, cur, hA, hb, hg, hs, ht⟩ := h.2.2.2 hn; ⟨g, off, t, cur, hA, hb, hg.ext f, hs, ht⟩⟩
theorem YB.low {base' : Nat} (h : YB w base A n c l) (hb : base' ≤ base) : YB w base' A n c l := ⟨h.1, h.2.1, h.2.2.1, fun hn => let ⟨g, off, t, cur, hA, hb', hg, hs, ht⟩ := h.2.2.2 hn; ⟨g, off, t, cur, hA, Nat.le_trans hb hb', hg, hs, ht⟩⟩
theorem YB.bv (h : YB w base A n c l) (hP : ∀ k, base ≤ k → P k) : BV w P A n c l := by
  refine ⟨by simp [u8s, h.1], h.2.1, by simpa [maxLen] using h.2.2.1, fun hn => ?_⟩
  obtain ⟨g, off, t, cur, rfl, hb, hg, hs, ht⟩ := h.2.2.2 hn
  refine ⟨g, off, rfl, hg.lt, hP g hb, fun i v hv => ?_⟩
  rw [hg.cell]
  rw [← ht, List.getElem?_take] at hv
  split at hv
  · rw [List.getElem?_drop] at hv
    simpa using hv
  · cases hv
theorem YB.head (h : YB w base A n c l) (hn : 0 < n) : ∃ g off, A = some ⟨g, off, none⟩ ∧ base ≤ g ∧ g < w.heap.size := let ⟨g, off, _, _, hA, hb, hg, _⟩ := h.2.2.2 hn; ⟨g, off, hA, hb, hg.lt⟩
variable {Pr : Program} {nn : Nat} {e : Env} {o : Oper} {x y : Operand} {t : TypeId}
theorem Does.stY {g off i : Nat} (v : UInt8) {z : Int} (ho : o.op = .store t x y) (hx : ev e x = some (.pointer (some ⟨g, off + i, none⟩))) (hy : ev e y = some (.int .u8 z)) (hz : z = (v.toNat : Int)) (h : YB w base (some ⟨g, off, none⟩) n c l) (hi : (Pr.info? t).map (·.size) = some 1) (hlt : i < n) :
    Does Pr nn o e w (fun _ w' => YB w' base (some ⟨g, off, none⟩) n c (l.set i v) ∧ Fr (fun k => k ≠ g) w w') := by
  subst hz
  obtain ⟨g', off', tt, cur, hA, hb, hg, hs, ht⟩ := h.2.2.2 (by omega)
  cases hA
  have hl := h.len
  refine (Does.stC (i := off + i) ho hx hy hg hi (by omega) rfl).mono fun _ w' ⟨h1, h2⟩ => ⟨⟨by simpa using h.1, h.2.1, h.2.2.1, fun _ => ⟨g, off, tt, _, rfl, hb, h1, by simpa using hs, ?_⟩⟩, h2⟩
  rw [Array.toList_setIfInBounds, List.drop_set, if_neg (by omega), Nat.add_sub_cancel_left, List.take_set, ht]
  simp [u8s, List.map_set]
end
section
variable {P : Program} {n : Nat} {e : Env} {w : World} {o : Oper} {x y : Operand} {t el : TypeId} {T : Nat → Prop} {A B : Option Addr} {m c p base : Nat} {l r : List UInt8}
/-- 'append' onto a slice without spare capacity -/
theorem Does.appT (ho : o.op = .call { callee := .builtin .append, args := #[x, y], argTypes := #[t, t] }) (ht : P.underlying t = some (.slice el)) (hinf : (P.info? el).map (fun i => (i.zero, i.size, i.bytes)) = some (some (.int .u8 0), 1, 1))
    (hx : ev e x = some (.slice B p p)) (hy : ev e y = some (.slice A m c)) (hB : YB w base B p p l) (hA : BV w T A m c r) (hb : base ≤ w.heap.size) (hbytes : p + m ≤ 140737488355328) :
    Does P n o e w (fun v w' => ∃ B' c', v = .slice B' (p + m) c' ∧ YB w' base B' (p + m) c' (l ++ r) ∧ Ext w w') := by
  have hl := hA.len
  rcases Nat.eq_zero_or_pos m with hm | hm
  · subst hm
    have hr : r = [] := List.eq_nil_of_length_eq_zero hl
    subst hr
    refine (Gives.app0 ho ht (by cases hi : P.info? el with | none => simp [hi] at hinf | some _ => rfl) hx hy rfl (Nat.le_refl _)).mono ?_
    rintro v w' ⟨rfl, rfl⟩
    exact ⟨B, p, rfl, by rw [List.append_nil]; exact hB, Ext.refl _⟩
  · have h0 : B = none → p = 0 := fun h => by
      rcases Nat.eq_zero_or_pos p with h1 | h1
      · exact h1
      · obtain ⟨g, off, hA, _⟩ := hB.head h1; rw [h] at hA; cases hA
    refine (Does.appN ho ht hinf rfl hx hy (hB.bv (P := fun _ => True) (fun _ _ => trivial)) h0 hA hm (by omega) (by omega) (by decide)).mono ?_
    rintro v w' ⟨g, c', rfl, hg, ho', hE⟩
    have hO : OB w' w.heap.size el (some ⟨g, 0, none⟩) (p + m) c' (l ++ r) := by unfold OB; rw [← u8s_append]; exact ho'
    exact ⟨_, c', rfl, (YB.of hO).low hb, hE⟩
end
theorem bits_u8xor (a b : UInt8) : bits .xor .u8 (a.toNat : Int) (b.toNat : Int) = ((a ^^^ b).toNat : Int) := by
  have h1 : (BitVec.ofInt 8 (a.toNat : Int)).toNat = a.toNat := by
    rw [BitVec.toNat_ofInt]
    have := a.toNat_lt
    omega
  have h2 : (BitVec.ofInt 8 (b.toNat : Int)).toNat = b.toNat := by
    rw [BitVec.toNat_ofInt]
    have := b.toNat_lt
    omega
  have e : bits .xor .u8 (a.toNat : Int) (b.toNat : Int) = IntKind.u8.wrap ((BitVec.ofInt 8 (a.toNat : Int) ^^^ BitVec.ofInt 8 (b.toNat : Int)).toNat : Int) := rfl
  rw [e, BitVec.toNat_xor, h1, h2, UInt8.toNat_xor]
  have hlt : a.toNat ^^^ b.toNat < 2 ^ 8 := Nat.xor_lt_two_pow (by have := a.toNat_lt; omega) (by have := b.toNat_lt; omega)
  rw [wrap8]
  omega
end Go.Proofs.YtnbgieccindpnaaDoor
