/- Representations: how a value lies in memory, by its cells; rows of such values; arguments opened. -/
import Derived.Test.YtnbgieccindpnaaDoorOwn
import Derived.Test.YtnbgieccindpnaaDoorOpen
import Derived.Deep.MidRow
namespace Go.Proofs.YtnbgieccindpnaaDoor
set_option linter.all false
set_option maxRecDepth 20000
open Go.RowKit
structure Rp (α : Type) where
  size : Nat
  pos : 0 < size
  rep : World → (Nat → Prop) → List Value → α → Prop
  len : ∀ {w P cs a}, rep w P cs a → cs.length = size
  one : ∀ {w P cs a}, rep w P cs a → ∀ u ∈ cs, u.oneCell' = true
  fr : ∀ {w w' P cs a}, rep w P cs a → Fr P w w' → rep w' P cs a
  mono : ∀ {w P P' cs a}, rep w P cs a → (∀ k, P k → k < w.heap.size → P' k) → rep w P' cs a
def Rp.int (k : IntKind) : Rp Int where
  size := 1
  pos := by decide
  rep := fun _ _ cs z => cs = [.int k z]
  len := by rintro _ _ _ _ rfl; rfl
  one := by rintro _ _ _ _ rfl u hu; rw [List.mem_singleton.1 hu]; rfl
  fr := fun h _ => h
  mono := fun h _ => h
/-- a text by its bytes -/
def txt (l : List UInt8) : Value := .string ⟨⟨l⟩⟩
def Rp.str : Rp (List UInt8) where
  size := 1
  pos := by decide
  rep := fun _ _ cs l => cs = [txt l]
  len := by rintro _ _ _ _ rfl; rfl
  one := by rintro _ _ _ _ rfl u hu; rw [List.mem_singleton.1 hu]; rfl
  fr := fun h _ => h
  mono := fun h _ => h
theorem Row.offs {w : World} {P P' : Nat → Prop} {size n c : Nat} {A : Option Addr} {xs : List Value} (h : Row w P size A n c xs) (hp : ∀ k, P k → k < w.heap.size → P' k) : Row w P' size A n c xs :=
  ⟨h.1, h.2.1, h.2.2.1, fun hn => let ⟨b, off, hA, hb, hP, hc⟩ := h.2.2.2 hn; ⟨b, off, hA, hb, hp b hP hb, hc⟩⟩
def Rp.bytes : Rp (List UInt8) where
  size := 1
  pos := by decide
  rep := fun w P cs l => ∃ A n c, cs = [.slice A n c] ∧ BV w P A n c l
  len := by rintro _ _ _ _ ⟨_, _, _, rfl, _⟩; rfl
  one := by rintro _ _ _ _ ⟨_, _, _, rfl, _⟩ u hu; rw [List.mem_singleton.1 hu]; rfl
  fr := fun ⟨A, n, c, h, hb⟩ f => ⟨A, n, c, h, hb.fr f⟩
  mono := fun ⟨A, n, c, h, hb⟩ f => ⟨A, n, c, h, hb.offs _ f⟩
def Rp.pair {α β : Type} (r : Rp α) (s : Rp β) : Rp (α × β) where
  size := r.size + s.size
  pos := Nat.lt_of_lt_of_le r.pos (Nat.le_add_right _ _)
  rep := fun w P cs x => ∃ c1 c2, cs = c1 ++ c2 ∧ r.rep w P c1 x.1 ∧ s.rep w P c2 x.2
  len := by rintro _ _ _ _ ⟨c1, c2, rfl, h1, h2⟩; rw [List.length_append, r.len h1, s.len h2]
  one := by
    rintro _ _ _ _ ⟨c1, c2, rfl, h1, h2⟩ u hu
    rcases List.mem_append.1 hu with h | h
    · exact r.one h1 u h
    · exact s.one h2 u h
  fr := fun ⟨c1, c2, h, h1, h2⟩ f => ⟨c1, c2, h, r.fr h1 f, s.fr h2 f⟩
  mono := fun ⟨c1, c2, h, h1, h2⟩ f => ⟨c1, c2, h, r.mono h1 f, s.mono h2 f⟩
def Rp.of {α β : Type} (r : Rp β) (f : α → β) : Rp α where
  size := r.size
  pos := r.pos
  rep := fun w P cs a => r.rep w P cs (f a)
  len := fun h => r.len h
  one := fun h => r.one h
  fr := fun h f => r.fr h f
  mono := fun h f => r.mono h f
section
variable {α : Type}
/-- the cells of a row, read value by value -/
def EachR (r : Rp α) (w : World) (P : Nat → Prop) (vs : List Value) (l : List α) : Prop :=
  vs.length = l.length * r.size ∧ ∀ (i : Nat) (a : α), l[i]? = some a → r.rep w P ((vs.drop (i * r.size)).take r.size) a
/-- a slice that reads as l -/
def SL (r : Rp α) (w : World) (P : Nat → Prop) (A : Option Addr) (n c : Nat) (l : List α) : Prop := ∃ vs, Row w P r.size A n c vs ∧ EachR r w P vs l
variable {r : Rp α} {P P' : Nat → Prop} {w w' : World} {n c k : Nat} {A : Option Addr} {l : List α} {vs : List Value}
theorem EachR.fr (h : EachR r w P vs l) (e : Fr P w w') : EachR r w' P vs l := ⟨h.1, fun i a ha => r.fr (h.2 i a ha) e⟩
theorem EachR.mono (h : EachR r w P vs l) (hp : ∀ k, P k → k < w.heap.size → P' k) : EachR r w P' vs l := ⟨h.1, fun i a ha => r.mono (h.2 i a ha) hp⟩
theorem EachR.nil_ : EachR r w P [] [] := ⟨by simp, fun i a h => by simp at h⟩
theorem EachR.app {us : List Value} {m : List α} (h : EachR r w P vs l) (h' : EachR r w P us m) : EachR r w P (vs ++ us) (l ++ m) := by
  refine ⟨by rw [List.length_append, List.length_append, h.1, h'.1, Nat.add_mul], fun i a ha => ?_⟩
  rw [List.getElem?_append] at ha
  have h1 := h.1
  by_cases hlt : i < l.length
  · rw [if_pos hlt] at ha
    have h3 : i * r.size + r.size ≤ vs.length := by rw [h1, ← Nat.succ_mul]; exact Nat.mul_le_mul_right _ hlt
    have e : ((vs ++ us).drop (i * r.size)).take r.size = (vs.drop (i * r.size)).take r.size := by
      rw [List.drop_append_of_le_length (by omega), List.take_append_of_le_length (by rw [List.length_drop]; omega)]
    rw [e]
    exact h.2 i a ha
  · rw [if_neg hlt] at ha
    have h3 : l.length * r.size ≤ i * r.size := Nat.mul_le_mul_right _ (by omega)
    have e : (vs ++ us).drop (i * r.size) = us.drop ((i - l.length) * r.size) := by
      rw [List.drop_append, List.drop_eq_nil_of_le (by omega), List.nil_append, h1, ← Nat.sub_mul]
    rw [e]
    exact h'.2 _ a ha
theorem EachR.single {cs : List Value} {a : α} (h : r.rep w P cs a) : EachR r w P cs [a] := by
  refine ⟨by rw [r.len h]; simp, fun i b hb => ?_⟩
  cases i with
  | zero =>
    simp at hb; subst hb
    rw [Nat.zero_mul, List.drop_zero, List.take_of_length_le (by rw [r.len h]; exact Nat.le_refl _)]
    exact h
  | succ i => simp at hb
theorem EachR.one (h : EachR r w P vs l) : ∀ u ∈ vs, u.oneCell' = true := by
  intro u hu
  obtain ⟨j, hj, rfl⟩ := List.mem_iff_getElem.1 hu
  have hp := r.pos
  have hlt : j / r.size < l.length := by rw [Nat.div_lt_iff_lt_mul hp]; rw [← h.1]; exact hj
  have h1 := h.2 (j / r.size) _ (List.getElem?_eq_getElem hlt)
  refine r.one h1 _ (List.mem_of_getElem? (i := j % r.size) ?_)
  rw [List.getElem?_take, if_pos (Nat.mod_lt _ hp), List.getElem?_drop, Nat.div_add_mod', List.getElem?_eq_getElem hj]
theorem EachR.take (h : EachR r w P vs l) (k : Nat) : EachR r w P (vs.take (k * r.size)) (l.take k) := by
  refine ⟨by rw [List.length_take, List.length_take, h.1, Nat.mul_min_mul_right], fun i a ha => ?_⟩
  rw [List.getElem?_take] at ha
  split at ha
  · rename_i hlt
    have e : ((vs.take (k * r.size)).drop (i * r.size)).take r.size = (vs.drop (i * r.size)).take r.size := by
      have h3 : i * r.size + r.size ≤ k * r.size := by rw [← Nat.succ_mul]; exact Nat.mul_le_mul_right _ hlt
      rw [List.drop_take, List.take_take, Nat.min_eq_left (by omega)]
    rw [e]
    exact h.2 i a ha
  · cases ha
theorem EachR.drop (h : EachR r w P vs l) (k : Nat) : EachR r w P (vs.drop (k * r.size)) (l.drop k) := by
  refine ⟨by rw [List.length_drop, List.length_drop, h.1, Nat.sub_mul], fun i a ha => ?_⟩
  rw [List.getElem?_drop] at ha
  rw [List.drop_drop, ← Nat.add_mul]
  exact h.2 _ a ha
theorem SL.fr (h : SL r w P A n c l) (e : Fr P w w') : SL r w' P A n c l := let ⟨vs, hr, he⟩ := h; ⟨vs, hr.fr e, he.fr e⟩
theorem SL.ext (h : SL r w P A n c l) (e : Ext w w') : SL r w' P A n c l := h.fr e.fr
theorem SL.offs (h : SL r w P A n c l) (hp : ∀ k, P k → k < w.heap.size → P' k) : SL r w P' A n c l := let ⟨vs, hr, he⟩ := h; ⟨vs, hr.offs hp, he.mono hp⟩
theorem SL.mono (h : SL r w P A n c l) (hp : ∀ k, P k → P' k) : SL r w P' A n c l := h.offs fun k hk _ => hp k hk
theorem SL.bd (h : SL r w P A n c l) : SL r w (fun k => P k ∧ k < w.heap.size) A n c l := h.offs fun k hk hl => ⟨hk, hl⟩
theorem SL.nil_ (r : Rp α) (w : World) (P : Nat → Prop) : SL r w P none 0 0 [] := ⟨[], Row.nil_ w P r.size 0 none (by simp [maxLen]), EachR.nil_⟩
theorem SL.len (h : SL r w P A n c l) : l.length = n := by
  obtain ⟨vs, hr, he⟩ := h
  have h1 := hr.1
  rw [he.1] at h1
  exact Nat.eq_of_mul_eq_mul_right r.pos h1
theorem SL.le (h : SL r w P A n c l) : n ≤ c ∧ c ≤ 9223372036854775807 := let ⟨_, hr, _⟩ := h; hr.le
theorem SL.at_ (h : SL r w P A n c l) (hk : k < n) : ∃ b off, A = some ⟨b, off, none⟩ ∧ b < w.heap.size ∧ P b ∧ ∃ a cs, l[k]? = some a ∧ w.rangeAt b (off + k * r.size) cs ∧ r.rep w P cs a := by
  have hlen := h.len
  obtain ⟨vs, hr, he⟩ := h
  obtain ⟨b, off, rfl, hb, hP, hc⟩ := hr.2.2.2 (by omega)
  have hl : k < l.length := by omega
  refine ⟨b, off, rfl, hb, hP, l[k], _, List.getElem?_eq_getElem hl, fun j v hv => ?_, he.2 k _ (List.getElem?_eq_getElem hl)⟩
  rw [List.getElem?_take] at hv
  split at hv
  · rw [List.getElem?_drop] at hv
    rw [Nat.add_assoc]
    exact hc _ v hv
  · cases hv
theorem SL.take (h : SL r w P A n c l) (hk : k ≤ n) : SL r w P A k c (l.take k) := let ⟨_, hr, he⟩ := h; ⟨_, hr.take hk, he.take k⟩
theorem SL.cut (h : SL r w P A n c l) (hk : k ≤ n) : SL r w P (cutAddr A c k r.size) (n - k) (c - k) (l.drop k) := let ⟨_, hr, he⟩ := h; ⟨_, Row.cut hr hk, he.drop k⟩
end
/-- a slice of values as a value -/
def Rp.list {α : Type} (r : Rp α) : Rp (List α) where
  size := 1
  pos := by decide
  rep := fun w P cs l => ∃ A n c, cs = [.slice A n c] ∧ SL r w P A n c l
  len := by rintro _ _ _ _ ⟨_, _, _, rfl, _⟩; rfl
  one := by rintro _ _ _ _ ⟨_, _, _, rfl, _⟩ u hu; rw [List.mem_singleton.1 hu]; rfl
  fr := fun ⟨A, n, c, h, hb⟩ f => ⟨A, n, c, h, hb.fr f⟩
  mono := fun ⟨A, n, c, h, hb⟩ f => ⟨A, n, c, h, hb.offs f⟩
/-! arguments opened -/
open Go.ChangeShapes Go.WideShapes Go.ChangeAt Go.Deep
/-- Whatever reads as a datum of the type is a value so represented, with G. -/
def Opens {α : Type} (P : Program) (w : World) (t : TypeId) (r : Rp α) (G : α → Prop) : Prop :=
  ∀ ⦃H : Type⦄ ⦃enc : TypeId × Value → H⦄ ⦃base : Nat⦄ ⦃spare : Nat → Bool⦄ ⦃held : Bool⦄ ⦃fuel : Nat⦄ ⦃cs : List Value⦄ ⦃x : DataW H × List MemPlace⦄, DataW.trod enc P w base spare held fuel t cs = some x → ∃ a, r.rep w (fun _ => True) cs a ∧ G a
section
variable {P : Program} {w : World} {t e : TypeId}
theorem Opens.int {k : IntKind} (ht : P.underlying t = some (.int k)) : Opens P w t (Rp.int k) (fun z => (Lit.int k z).wf = true) := by
  intro H enc base spare held fuel cs x h
  obtain ⟨z, h1, _, h2⟩ := DataW.trod_int ht h
  exact ⟨z, h1, h2⟩
theorem Opens.bytes (ht : P.underlying t = some (.slice e)) (he : P.underlying e = some (.int .u8)) (hc : P.cellsOf e = 1) : Opens P w t Rp.bytes (fun _ => True) := by
  intro H enc base spare held fuel cs x h
  obtain ⟨A, n, c, l, h1, h2⟩ := open_bv ht he hc h
  exact ⟨l, ⟨A, n, c, h1, h2⟩, trivial⟩
theorem Opens.list {α : Type} [Inhabited α] {r : Rp α} {G : α → Prop} (ht : P.underlying t = some (.slice e)) (hc : P.cellsOf e = r.size) (he : Opens P w e r G) : Opens P w t r.list (fun l => ∀ a ∈ l, G a) := by
  intro H enc base spare held fuel cs x h
  rcases open_slice ht h with ⟨rfl, _⟩ | ⟨a, len, cap, m, n, D, Pl, rfl, _, hl, hm, hmm, _, hx⟩
  · exact ⟨[], ⟨none, 0, 0, rfl, SL.nil_ r w _⟩, by simp⟩
  · have hlm : len ≤ m := by rw [hmm]; split <;> omega
    obtain ⟨V, hV⟩ := choose_lt (α := List Value × α) (n := len) (p := fun i v => w.cells? base (a.add (i * P.cellsOf e)) (P.cellsOf e) = some v.1 ∧ r.rep w (fun _ => True) v.1 v.2 ∧ G v.2) (fun i hi => by
      obtain ⟨cs', h1, h2⟩ := hx i (by omega)
      obtain ⟨y, h3, h4⟩ := he h2
      exact ⟨(cs', y), h1, h3, h4⟩)
    have hEach : ∀ q, q ≤ len → EachR r w (fun _ => True) ((List.range q).flatMap fun i => (V i).1) ((List.range q).map fun i => (V i).2) := by
      intro q
      induction q with
      | zero => intro _; exact EachR.nil_
      | succ q ih =>
        intro hq
        rw [List.range_succ, List.flatMap_append, List.map_append]
        refine (ih (by omega)).app ?_
        simp only [List.flatMap_cons, List.flatMap_nil, List.append_nil, List.map_cons, List.map_nil]
        exact EachR.single (hV q (by omega)).2.1
    have hE := hEach len (Nat.le_refl _)
    have hvl : ((List.range len).flatMap fun i => (V i).1).length = len * r.size := by rw [hE.1]; simp
    refine ⟨(List.range len).map fun i => (V i).2, ⟨some a, len, cap, rfl, _, ⟨hvl, hl, hm, fun hn => ?_⟩, hE⟩, ?_⟩
    · obtain ⟨b, off, spot⟩ := a
      have hp := r.pos
      have hcell : ∀ i j v, i < len → (V i).1[j]? = some v → w.cell? (Addr.add ⟨b, off, spot⟩ (i * r.size + j)) = some v := by
        intro i j v hi hj
        obtain ⟨_, h2, h3⟩ := World.cells?_some (hV i hi).1
        have hjl := (List.getElem?_eq_some_iff.1 hj).1
        have h4 := h3 j (by omega)
        rw [hj, hc] at h4
        have e2 : (Addr.add (Addr.add ⟨b, off, spot⟩ (i * r.size)) j) = Addr.add ⟨b, off, spot⟩ (i * r.size + j) := by
          unfold Addr.add
          split <;> split <;> simp_all <;> omega
        rw [e2] at h4
        exact h4
      have h00 : 0 < (V 0).1.length := by rw [r.len (hV 0 hn).2.1]; exact hp
      have h0 := hcell 0 0 _ hn (List.getElem?_eq_getElem h00)
      have hs : spot = none := by simpa [Addr.add] using World.cell?_spot h0
      subst hs
      have hblt := World.block_lt_of_cell? _ _ h0
      rw [Addr.add_mid] at hblt
      refine ⟨b, off, rfl, hblt, trivial, fun i v hv => ?_⟩
      have hi : i < len * r.size := by have := (List.getElem?_eq_some_iff.1 hv).1; omega
      have hq : i / r.size < len := by rw [Nat.div_lt_iff_lt_mul hp]; exact hi
      have h5 := hE.2 (i / r.size) (V (i / r.size)).2 (by simp [hq])
      have key : ∀ q, q ≤ len → ∀ z, z < q → (((List.range q).flatMap fun i => (V i).1).drop (z * r.size)).take r.size = (V z).1 := by
        intro q
        induction q with
        | zero => intro _ z hz; omega
        | succ q ih =>
          intro hq z hz
          have hlq : ((List.range q).flatMap fun i => (V i).1).length = q * r.size := by rw [(hEach q (by omega)).1]; simp
          rw [List.range_succ, List.flatMap_append]
          simp only [List.flatMap_cons, List.flatMap_nil, List.append_nil]
          by_cases hzq : z < q
          · have h3 : z * r.size + r.size ≤ q * r.size := by rw [← Nat.succ_mul]; exact Nat.mul_le_mul_right _ hzq
            rw [List.drop_append_of_le_length (by omega), List.take_append_of_le_length (by rw [List.length_drop]; omega)]
            exact ih (by omega) z hzq
          · obtain rfl : z = q := by omega
            rw [List.drop_append, hlq, Nat.sub_self, List.drop_zero, List.drop_eq_nil_of_le (by omega), List.nil_append]
            rw [List.take_of_length_le (by rw [r.len (hV z (by omega)).2.1]; exact Nat.le_refl _)]
      have h6 := key len (Nat.le_refl _) (i / r.size) hq
      have h7 : (V (i / r.size)).1[i % r.size]? = some v := by
        rw [← h6, List.getElem?_take, if_pos (Nat.mod_lt _ hp), List.getElem?_drop, Nat.div_add_mod', hv]
      have h8 := hcell (i / r.size) (i % r.size) v hq h7
      rw [Nat.div_add_mod'] at h8
      rw [Addr.add_mid] at h8
      exact h8
    · intro y hy
      simp only [List.mem_map, List.mem_range] at hy
      obtain ⟨i, hi, rfl⟩ := hy
      exact (hV i hi).2.2
/-- structs, field by field -/
theorem opens_field {H : Type} {enc : TypeId × Value → H} {base : Nat} {spare : Nat → Bool} {held : Bool} {fuel : Nat} {cs : List Value} {x : DataW H × List MemPlace} {fs : Array Field} (ht : P.underlying t = some (.struct fs)) (h : DataW.trod enc P w base spare held fuel t cs = some x)
    {α : Type} {r : Rp α} {G : α → Prop} (i : Nat) (f : Field) (hf : fs[i]? = some f) (hr : Opens P w f.type r G) (hs : P.cellsOf f.type = r.size) : ∃ a, r.rep w (fun _ => True) ((cs.drop f.offset).take r.size) a ∧ G a := by
  obtain ⟨xs, n, _, _, _, hlen, hx⟩ := DataW.trod_struct ht h
  have h1 := hx i f hf
  have hi : i < xs.length := by rw [hlen]; exact (Array.getElem?_eq_some_iff.1 hf).1
  rw [List.getElem?_eq_getElem hi] at h1
  rw [← hs]
  exact hr h1
theorem part_split (cs : List Value) (o s n : Nat) (h : cs.length = n) (hn : o + s ≤ n) : (cs.drop o) = (cs.drop o).take s ++ cs.drop (o + s) := by rw [← List.drop_drop, List.take_append_drop]
theorem Opens.struct3 {α β γ : Type} {r0 : Rp α} {r1 : Rp β} {r2 : Rp γ} {G0 : α → Prop} {G1 : β → Prop} {G2 : γ → Prop} {f0 f1 f2 : Field} (ht : P.underlying t = some (.struct #[f0, f1, f2])) (hc : P.cellsOf t = r0.size + (r1.size + r2.size))
    (h0 : Opens P w f0.type r0 G0) (h1 : Opens P w f1.type r1 G1) (h2 : Opens P w f2.type r2 G2)
    (s : ((P.cellsOf f0.type, f0.offset), (P.cellsOf f1.type, f1.offset), (P.cellsOf f2.type, f2.offset)) = ((r0.size, 0), (r1.size, r0.size), (r2.size, r0.size + r1.size))) :
    Opens P w t (r0.pair (r1.pair r2)) (fun x => G0 x.1 ∧ G1 x.2.1 ∧ G2 x.2.2) := by
  intro H enc base spare held fuel cs x h
  simp only [Prod.mk.injEq] at s
  obtain ⟨⟨s0, o0⟩, ⟨s1, o1⟩, ⟨s2, o2⟩⟩ := s
  obtain ⟨_, _, _, _, hl, _, _⟩ := DataW.trod_struct ht h
  obtain ⟨a0, p0, g0⟩ := opens_field ht h 0 f0 rfl h0 s0
  obtain ⟨a1, p1, g1⟩ := opens_field ht h 1 f1 rfl h1 s1
  obtain ⟨a2, p2, g2⟩ := opens_field ht h 2 f2 rfl h2 s2
  rw [o0] at p0; rw [o1] at p1; rw [o2] at p2
  rw [hc] at hl
  refine ⟨(a0, a1, a2), ⟨_, _, ?_, p0, _, _, rfl, p1, p2⟩, g0, g1, g2⟩
  have e2 : (cs.drop (r0.size + r1.size)).take r2.size = cs.drop (r0.size + r1.size) := List.take_of_length_le (by rw [List.length_drop]; omega)
  rw [e2, ← part_split cs r0.size r1.size _ hl (by omega)]
  have := part_split cs 0 r0.size _ hl (by omega)
  rw [List.drop_zero, Nat.zero_add] at this
  rw [List.drop_zero]
  exact this
theorem Opens.struct4 {α β γ δ : Type} {r0 : Rp α} {r1 : Rp β} {r2 : Rp γ} {r3 : Rp δ} {G0 : α → Prop} {G1 : β → Prop} {G2 : γ → Prop} {G3 : δ → Prop} {f0 f1 f2 f3 : Field} (ht : P.underlying t = some (.struct #[f0, f1, f2, f3])) (hc : P.cellsOf t = r0.size + (r1.size + (r2.size + r3.size)))
    (h0 : Opens P w f0.type r0 G0) (h1 : Opens P w f1.type r1 G1) (h2 : Opens P w f2.type r2 G2) (h3 : Opens P w f3.type r3 G3)
    (s : ((P.cellsOf f0.type, f0.offset), (P.cellsOf f1.type, f1.offset), (P.cellsOf f2.type, f2.offset), (P.cellsOf f3.type, f3.offset)) = ((r0.size, 0), (r1.size, r0.size), (r2.size, r0.size + r1.size), (r3.size, r0.size + r1.size + r2.size))) :
    Opens P w t (r0.pair (r1.pair (r2.pair r3))) (fun x => G0 x.1 ∧ G1 x.2.1 ∧ G2 x.2.2.1 ∧ G3 x.2.2.2) := by
  intro H enc base spare held fuel cs x h
  simp only [Prod.mk.injEq] at s
  obtain ⟨⟨s0, o0⟩, ⟨s1, o1⟩, ⟨s2, o2⟩, ⟨s3, o3⟩⟩ := s
  obtain ⟨_, _, _, _, hl, _, _⟩ := DataW.trod_struct ht h
  obtain ⟨a0, p0, g0⟩ := opens_field ht h 0 f0 rfl h0 s0
  obtain ⟨a1, p1, g1⟩ := opens_field ht h 1 f1 rfl h1 s1
  obtain ⟨a2, p2, g2⟩ := opens_field ht h 2 f2 rfl h2 s2
  obtain ⟨a3, p3, g3⟩ := opens_field ht h 3 f3 rfl h3 s3
  rw [o0] at p0; rw [o1] at p1; rw [o2] at p2; rw [o3] at p3
  rw [hc] at hl
  refine ⟨(a0, a1, a2, a3), ⟨_, _, ?_, p0, _, _, rfl, p1, _, _, rfl, p2, p3⟩, g0, g1, g2, g3⟩
  have e3 : (cs.drop (r0.size + r1.size + r2.size)).take r3.size = cs.drop (r0.size + r1.size + r2.size) := List.take_of_length_le (by rw [List.length_drop]; omega)
  rw [e3, ← part_split cs (r0.size + r1.size) r2.size _ hl (by omega), ← part_split cs r0.size r1.size _ hl (by omega)]
  have := part_split cs 0 r0.size _ hl (by omega)
  rw [List.drop_zero, Nat.zero_add] at this
  rw [List.drop_zero]
  exact this
end
end Go.Proofs.YtnbgieccindpnaaDoor
