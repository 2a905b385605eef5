/- Laws for boxes: variables that lie in a block known whole. -/
import Derived.Test.YtnbgieccindpnaaDoorLib2
import Derived.Laws.Rows
import Derived.Deep.DeepCutAuto
import Derived.Test.YtnbgieccindpnaaDoorReg
namespace Go.Proofs.YtnbgieccindpnaaDoor
set_option linter.all false
set_option maxRecDepth 20000
open Go.RowKit
section
variable {P : Program} {ops : Array Oper} {rest : List Oper} {o : Oper} {a : Act} {Q : Exit → Act → World → Prop}
theorem wp_ldB {w : World} {K : Act → World → Prop} (ty : TypeId) (x : Operand) (ho : o.op = .load ty x) (g : Nat) (hx : a.eval x = .pointer (some ⟨g, 0, none⟩)) {t : TypeId} {cs : Array Value} (hg : Blk w g t cs)
    (hd : (match P.underlying ty with | some (.struct _) | some (.array _ _) => true | _ => false) = true) (hi : (P.info? ty).map (·.size) = some cs.size)
    (h : K (a.put o.dst (.agg cs)) w) : o.wp P a w K Q := by
  cases hu : P.underlying ty with
  | none => simp [hu] at hd
  | some d => exact wp_load_row ty x ho g hx t cs (0, 0) d hg hu (by simp only [hu] at hd; cases d <;> simp_all) hi h
/-- one cell read -/
theorem wp_ldC {w : World} {K : Act → World → Prop} (ty : TypeId) (x : Operand) (ho : o.op = .load ty x) (p : Addr) (hx : a.eval x = .pointer (some p)) (v : Value) (hc : w.cell? p = some v)
    (hd : (match P.underlying ty with | some (.struct _) | some (.array _ _) => false | some _ => true | none => false) = true)
    (h : K (a.put o.dst v) w) : o.wp P a w K Q := by
  cases hu : P.underlying ty with
  | none => simp [hu] at hd
  | some d =>
    have hagg : (isAgg ty).run P w = .ok false w := by
      unfold isAgg
      rw [Sem.run_bind, run_underlying hu w]
      simp only [hu] at hd
      cases d <;> simp_all
    have hl : (loadVar ty p).run P w = .ok v w := by simp [loadVar, Sem.run_bind, hagg, hc, go_sem]
    unfold Oper.wp execOp
    simp only [ho, hx, Instr.loadAt, Instr.sureAddr, Sem.run_bind, Sem.run_pure, Result.andThen_ok, hl]
    exact h
theorem wpList_ldC {w : World} (hgd : Region.wanted o (yielded ops a.tmps) = true) (ty : TypeId) (x : Operand) (ho : o.op = .load ty x) (p : Addr) (hx : a.eval x = .pointer (some p)) (v : Value) (hc : w.cell? p = some v)
    (hd : (match P.underlying ty with | some (.struct _) | some (.array _ _) => false | some _ => true | none => false) = true)
    (h : wpList P ops Q rest (a.put o.dst v) w) : wpList P ops Q (o :: rest) a w :=
  BigFrame.wpList_want hgd fun _ hK => wp_ldC ty x ho p hx v hc hd (hK _ _ h)
/-- a struct or array read out of its box -/
theorem wpList_ldB {w : World} (hgd : Region.wanted o (yielded ops a.tmps) = true) (ty : TypeId) (x : Operand) (ho : o.op = .load ty x) (g : Nat) (hx : a.eval x = .pointer (some ⟨g, 0, none⟩)) {t : TypeId} {cs : Array Value} (hg : Blk w g t cs)
    (hd : (match P.underlying ty with | some (.struct _) | some (.array _ _) => true | _ => false) = true) (hi : (P.info? ty).map (·.size) = some cs.size)
    (h : wpList P ops Q rest (a.put o.dst (.agg cs)) w) : wpList P ops Q (o :: rest) a w :=
  BigFrame.wpList_want hgd fun _ hK => wp_ldB ty x ho g hx hg hd hi (hK _ _ h)
/-- What is known behind the operations for which j waits. -/
structure Facts (l : List Oper) (n j : Nat) (Φ : Nat → Value → World → Prop) (vs : Nat → Value) (w : World) : Prop where
  at_ : ∀ i, anc l n j i = true → Φ i (vs i) w
/-- What is known behind all the first n. -/
structure FactsAll (n : Nat) (Φ : Nat → Value → World → Prop) (vs : Nat → Value) (w : World) : Prop where
  at_ : ∀ i, i < n → Φ i (vs i) w
/-- A fact that was said behind some operation; the world has only grown since. -/
structure Keep (F : Value → World → Prop) (v : Value) (w' : World) : Prop where
  ex : ∃ w1, F v w1 ∧ Ext w1 w'
theorem Keep.mk_ {F : Value → World → Prop} {v : Value} {w' : World} (h : F v w') : Keep F v w' := ⟨_, h, Ext.refl _⟩
structure StepG (P : Program) (l : List Oper) (Q : Exit → Act → World → Prop) (o : Oper) (a : Act) (w : World) : Prop where
  out : wpList P l.toArray Q [o] a w
theorem steps_cons {l : List Oper} {n : Nat} {G : World → World → Prop} {Φ : Nat → Value → World → Prop} {a0 : Act} {w0 : World} {o : Oper} {r : List Oper} {j : Nat}
    (h : ∀ (vs : Nat → Value) (w : World), G w0 w → Facts l n j Φ vs w → StepG P l (QF G (Φ j) o.dst a0.defers w) o (fillA a0 (l.take n) 0 vs) w)
    (h2 : Steps P l n G Φ a0 w0 r (j + 1)) : Steps P l n G Φ a0 w0 (o :: r) j := ⟨fun vs w h1 h3 => (h vs w h1 ⟨h3⟩).out, h2⟩
structure TailG (P : Program) (ops : Array Oper) (Q : Exit → Act → World → Prop) (r : List Oper) (a : Act) (w : World) : Prop where
  out : wpList P ops Q r a w
/-- A fact that was said behind some operation; of the world only what G allows has turned since. -/
structure KeepG (G : World → World → Prop) (F : Value → World → Prop) (v : Value) (w' : World) : Prop where
  ex : ∃ w1, F v w1 ∧ G w1 w'
/-- A region that draws its order, its operations only extending the world: a fact for each of the first n, each at the world behind its own operation. -/
theorem wp_region_f {l : List Oper} {a0 : Act} {id : Nat} {w0 : World} (F : Nat → Value → World → Prop) (n : Nat) (hm : P.follows .mixedOrders = true) (hB : factsB l n a0.tmps.size = true)
    (hs : Steps P l n Ext (fun i => Keep (F i)) a0 w0.drew (l.take n) 0)
    (ht : ∀ vs w, Ext w0 w → FactsAll n (fun i => Keep (F i)) vs w → TailG P l.toArray Q (l.drop n) (fillA a0 (l.take n) 0 vs) w) : (Code.region id l.toArray true).wp P Q a0 w0 :=
  wp_region_facts Ext _ n hm hB Ext.refl (fun _ _ _ => Ext.trans) (fun i v w w' ⟨w1, h1, h2⟩ e => ⟨w1, h1, h2.trans e⟩) hs (fun vs w h h2 => (ht vs w (Ext.drewL h) ⟨h2⟩).out)
end
section
variable {P : Program} {ops : Array Oper} {rest : List Oper} {o : Oper} {a : Act} {Q : Exit → Act → World → Prop} {S : Nat → Prop}
/-- 'b[:k]' -/
theorem wpList_cutB_hi {w : World} (hgd : Region.wanted o (yielded ops a.tmps) = true) (x hi' : Operand) (t : TypeId) (ho : o.op = .slice t x none (some hi') none) (e : TypeId) (ht : P.underlying t = some (.slice e)) (hsz : (P.info? e).map (fun i => (i.zero, i.size, i.bytes)) = some (some (.int .u8 0), 1, 1))
    {A : Option Addr} {n c : Nat} {l : List UInt8} (hx : a.eval x = .slice A n c) (hr : BV w S A n c l) (k : Nat) (kd : IntKind) (hhi : a.eval hi' = .int kd k) (hk : k ≤ n)
    (h : BV w S A k c (l.take k) → wpList P ops Q rest (a.put o.dst (.slice A k c)) w) : wpList P ops Q (o :: rest) a w := by
  obtain ⟨i, hi, _, hz1, _⟩ := info_parts hsz
  exact wpList_cut_hi w hgd x hi' t ho e i 1 ht hi hz1 A n c (u8s l) hx hr k kd hhi hk (fun hr => h (BV.of_take hr))
/-- 'b[k:h]' -/
theorem wpList_cutB {w : World} (hgd : Region.wanted o (yielded ops a.tmps) = true) (x lo hi' : Operand) (t : TypeId) (ho : o.op = .slice t x (some lo) (some hi') none) (e : TypeId) (ht : P.underlying t = some (.slice e)) (hsz : (P.info? e).map (fun i => (i.zero, i.size, i.bytes)) = some (some (.int .u8 0), 1, 1))
    {A : Option Addr} {n c : Nat} {l : List UInt8} (hx : a.eval x = .slice A n c) (hr : BV w S A n c l) (k h : Nat) (kd kd' : IntKind) (hlo : a.eval lo = .int kd k) (hhi : a.eval hi' = .int kd' h) (hk : k ≤ h) (hh : h ≤ n)
    (hK : ∀ A', BV w S A' (h - k) (c - k) ((l.drop k).take (h - k)) → wpList P ops Q rest (a.put o.dst (.slice A' (h - k) (c - k))) w) : wpList P ops Q (o :: rest) a w := by
  obtain ⟨i, hi, _, hz1, _⟩ := info_parts hsz
  refine BigFrame.wpList_want hgd fun K hK' => ?_
  have hel : P.elem t = e := by simp [Program.elem, ht]
  have hat := fun (x : Value) (lo hi mx : Option Value) => run_sliceAt_slice (P := P) w t x lo hi mx (by rw [hel]; exact ht)
  have hle := hr.le
  have hrun := run_cut_lh (P := P) w t A n c (by rw [hel]; exact ht) kd kd' k h (by omega) (by omega) (by omega)
  have hs : (sizeOf (P.elem t)).run P w = .ok 1 w := by simp [sizeOf, typeInfo, hel, hi, hz1]
  have hb : BV w S (cutAddr A c k 1) (h - k) (c - k) ((l.drop k).take (h - k)) := by
    have := BV.cut2 hr hk hh
    rwa [List.drop_take] at this
  unfold Oper.wp execOp
  simp only [ho, hx, hlo, hhi, Option.map_some, Option.map_none, Sem.run_bind, hat, hrun, hs, Result.andThen_ok, Sem.run_pure, Int.toNat_natCast]
  exact hK' _ _ (hK _ hb)
theorem run_app0_same {w : World} (t ty e : TypeId) (i : TypeInfo) (ht : P.underlying t = some (.slice e)) (hi : P.info? e = some i) (hsz : i.size = 1) (hby : i.bytes = 1) (B A : Option Addr) (m c : Nat) (hm : 0 < m) (hb : m ≤ 140737488355328) :
    (Builtin.append_ #[t, t] ty #[.slice B 0 0, .slice A m c]).run P w = (Builtin.append_ #[t, t] ty #[.slice none 0 0, .slice A m c]).run P w := by
  have h1 : ¬ (0 + m ≤ 0) := by omega
  have h2 : ¬ (Builtin.nextslicecap m 0 > 281474976710656) := by
    unfold Builtin.nextslicecap
    rw [if_pos (by omega)]
    omega
  have hm0 : ¬ m = 0 := by omega
  cases B with
  | none => rfl
  | some p => simp [loadCells, loadCellsFrom, hm0, Builtin.append_, run_underlying ht, sizeOf, typeInfo, hi, hsz, hby, Builtin.lenOf, h1, h2, Builtin.firstCells]
theorem wpList_app0 {w : World} (hgd : Region.wanted o (yielded ops a.tmps) = true) (s x : Operand) (t : TypeId)
    (ho : o.op = .call { callee := .builtin .append, args := #[s, x], argTypes := #[t, t] })
    (e : TypeId) (hinf : (P.info? e).map (fun i => (i.zero, i.size, i.bytes)) = some (some (.int .u8 0), 1, 1)) (ht : P.underlying t = some (.slice e)) {base : Nat}
    {B : Option Addr} (hs : a.eval s = .slice B 0 0) (hown : OB w base e B 0 0 []) (hb : base ≤ w.heap.size)
    {A : Option Addr} {m c : Nat} {r : List UInt8} (hx : a.eval x = .slice A m c) (hr : BV w S A m c r)
    (hbytes : m ≤ 140737488355328)
    (h : ∀ B' sc' w', OB w' base e B' m sc' r → Ext w w' → wpList P ops Q rest (a.put o.dst (.slice B' m sc')) w') :
    wpList P ops Q (o :: rest) a w := by
  obtain ⟨i, hi, hz0, hz1, hz2⟩ := info_parts hinf
  refine BigFrame.wpList_want hgd fun K hK => ?_
  obtain ⟨B', sc', w', hrun, h2, h3, h4⟩ := run_app (P := P) w w.heap.size t o.type e i _ 1 1 ht hi hz0 hz1 hz2 rfl (by decide) none 0 0 [] (World.ownsRow_nil _ _ _ _) A m c (u8s r) hr (u8s_one r) (by omega) (by decide) (Nat.le_refl _)
  have hE : Ext w w' := (Ext.refl w).grown h3 (fun k hk => by cases hk)
  unfold Oper.wp execOp
  simp only [ho, resolve, invoke, builtin, Sem.run_bind, Sem.run_pure, Result.andThen_ok, List.map_toArray, List.map_cons, List.map_nil, hs, hx]
  by_cases hm : 0 < m
  · rw [run_app0_same t o.type e i ht hi hz1 hz2 B A m c hm hbytes, hrun]
    simp only [Result.andThen_ok, Sem.run_pure, Nat.zero_add] at *
    exact hK _ _ (h B' sc' w' (World.ownsRow.mono (by simpa using h2) hb) hE)
  · obtain rfl : m = 0 := by omega
    have hn : r = [] := List.eq_nil_of_length_eq_zero hr.len
    subst hn
    have hr0 : (Builtin.append_ #[t, t] o.type #[.slice B 0 0, .slice A 0 c]).run P w = .ok (.slice B 0 0) w := by
      cases A <;> cases B <;> simp [Builtin.append_, run_underlying ht, sizeOf, typeInfo, hi, Builtin.lenOf, Builtin.firstCells, storeCells, loadCells, loadCellsFrom]
    rw [hr0]
    exact hK _ _ (h B 0 w hown (Ext.refl _))
theorem madeB (n : Nat) : (madeCells #[Value.int .u8 0] (n * 1)).toList = u8s (List.replicate n 0) := by
  unfold madeCells u8s
  apply List.ext_getElem
  · simp
  · intro i h1 h2
    simp [Nat.mod_one]
/-- 'make([]byte, n)' -/
theorem wpList_mkB {w : World} (hg : o.guard = none) (l c : Operand) (t : TypeId) (hop : o.op = Op.makeSlice t l c)
    (e : TypeId) (hinf : (P.info? e).map (fun i => (i.zero, i.size, i.bytes)) = some (some (.int .u8 0), 1, 1)) (h1 : P.underlying t = some (.slice e))
    (kl kc : IntKind) (n : Nat) (hl : a.eval l = .int kl n) (hc : a.eval c = .int kc n) (b2 : n ≤ 140737488355328)
    (hK : ∀ g w', w.heap.size ≤ g → OB w' w.heap.size e (some ⟨g, 0, none⟩) n n (List.replicate n 0) → Ext w w' → wpList P ops Q rest (a.put o.dst (.slice (some ⟨g, 0, none⟩) n n)) w') :
    wpList P ops Q (o :: rest) a w :=
  wpList_mk hg l c t hop e _ 1 1 hinf h1 kl kc n hl hc (by omega) (by omega) fun g w' hg _ hO hE => hK g w' hg (by have h := hO; rw [show (Value.int IntKind.u8 0).cells = #[Value.int .u8 0] from rfl, madeB] at h; exact h) hE
theorem OB.lit0 {base : Nat} (w : World) (e t : TypeId) (hb : base ≤ w.heap.size) : OB (w.alloc (.cells #[] t)) base t (some ⟨w.heap.size, 0, none⟩) 0 0 [] := by
  have h := World.ownsRow_lit (e := t) (size := 1) (base := base) w #[] 0 hb (by simp [maxLen]) (by simp)
  simpa [OB, u8s] using h
end
/-! Blocks of P keep what they hold, and one step more. -/
section
variable {P P' : Nat → Prop} {a b c w w' : World}
theorem Fr.ext (h : Fr P a b) (e : Ext b c) : Fr P a c := h.trans e.fr
end

theorem BL.off {w : World} {P : Nat → Prop} {n c : Nat} {A : Option Addr} {ls : List (List UInt8)} (h : BL w P A n c ls) {g : Nat} (hg : w.heap.size ≤ g) : BL w (fun k => k ≠ g) A n c ls :=
  (h.sep (hi := g + 1)).mono (fun k hk => by unfold Sep at hk; omega)
theorem BV.off {w : World} {P : Nat → Prop} {n c : Nat} {A : Option Addr} {l : List UInt8} (h : BV w P A n c l) {g : Nat} (hg : w.heap.size ≤ g) : BV w (fun k => k ≠ g) A n c l :=
  (h.sep (hi := g + 1)).mono (fun k hk => by unfold Sep at hk; omega)
end Go.Proofs.YtnbgieccindpnaaDoor
