/- Regions that draw their order: a law with one fact for each operation. -/
import Derived.WalkKit
import Derived.BigQuiet
namespace Go.Proofs.YtnbgieccindpnaaDoor
set_option linter.all false
set_option maxRecDepth 20000
open Go
set_option linter.unusedVariables false
set_option linter.unusedSimpArgs false

/-- The frame behind operations whose values are vs k, vs (k + 1), .. -/
def fillA (a0 : Act) : List Oper → Nat → (Nat → Value) → Act
  | [], _, _ => a0
  | o :: r, k, vs => fillA (a0.put o.dst (vs k)) r (k + 1) vs

/-- What an operation waits for, as a number's bits, those of its predecessors being known. -/
def edgeMask (ms : List Nat) (es : List Edge) : Nat := es.foldl (fun m e => if Region.binds .any e = true then m ||| (ms.getD e.on 0 ||| 2 ^ e.on) else m) 0
def masks : List Oper → List Nat → List Nat
  | [], ms => ms
  | o :: r, ms => masks r (ms ++ [edgeMask ms o.after.toList])
/-- j waits for i, over whatever steps. -/
def anc (l : List Oper) (_ j i : Nat) : Bool := ((masks l []).getD j 0).testBit i

/-- What is asked behind one operation: its value's fact; the step kept the guarantee; nothing was deferred. -/
def QF (G : World → World → Prop) (φ : Value → World → Prop) (d : Option Tmp) (ds : List Deferred) (w : World) : Exit → Act → World → Prop
  | .normal, a', w' => a'.defers = ds ∧ G w w' ∧ φ (match d with | some t => a'.tmps.getD t undef | none => undef) w'
  | _, _, _ => False

def Steps (P : Program) (l : List Oper) (n : Nat) (G : World → World → Prop) (Φ : Nat → Value → World → Prop) (a0 : Act) (w0 : World) : List Oper → Nat → Prop
  | [], _ => True
  | o :: r, j => (∀ (vs : Nat → Value) (w : World), G w0 w → (∀ i, anc l n j i = true → Φ i (vs i) w) → wpList P l.toArray (QF G (Φ j) o.dst a0.defers w) [o] (fillA a0 (l.take n) 0 vs) w) ∧
      Steps P l n G Φ a0 w0 r (j + 1)

/-- the slots that an operation looks at that are written by an operation of the list: only by those for which it waits -/
def looksOk (l : List Oper) (n j : Nat) (o : Oper) : Bool :=
  (List.range n).all fun i => match (l[i]?).bind (·.dst) with
    | none => true
    | some t => !(o.looksAt l.toArray).contains t || anc l n j i
def dstsOk (l : List Oper) (n : Nat) : Bool :=
  (List.range n).all fun i => (List.range n).all fun j => i == j || match (l[i]?).bind (·.dst), (l[j]?).bind (·.dst) with
    | some s, some t => s != t
    | _, _ => true
def factsB (l : List Oper) (n size : Nat) : Bool :=
  Region.noSelect l.toArray && decide (n ≤ l.length) && dstsOk l n &&
  ((List.range n).all fun j => match l[j]? with
    | none => false
    | some o => looksOk l n j o && o.after.all (fun e => !Region.binds .any e || decide (e.on < j)) && (match o.dst with | some t => decide (t < size) | none => true)) &&
  ((List.range l.length).all fun j => decide (j < n) || match l[j]? with
    | none => false
    | some o => ((List.range j).all fun i => anc l l.length j i) && o.after.all (fun e => !Region.binds .any e || decide (e.on < j)))

theorem put_tmps (a : Act) (d : Option Tmp) (v : Value) : (a.put d v).tmps = match d with | some t => a.tmps.setIfInBounds t v | none => a.tmps := by cases d <;> rfl
theorem put_defers' (a : Act) (d : Option Tmp) (v : Value) : (a.put d v).defers = a.defers := by cases d <;> rfl

theorem fillA_defers (l : List Oper) : ∀ (a0 : Act) (k : Nat) (vs : Nat → Value), (fillA a0 l k vs).defers = a0.defers := by
  induction l with
  | nil => intro a0 k vs; rfl
  | cons o r ih => intro a0 k vs; rw [fillA, ih, put_defers']
theorem fillA_size (l : List Oper) : ∀ (a0 : Act) (k : Nat) (vs : Nat → Value), (fillA a0 l k vs).tmps.size = a0.tmps.size := by
  induction l with
  | nil => intro a0 k vs; rfl
  | cons o r ih => intro a0 k vs; rw [fillA, ih, put_tmps]; cases o.dst <;> simp
theorem fillA_none (l : List Oper) : ∀ (a0 : Act) (k t : Nat) (vs : Nat → Value), (∀ i : Nat, (l[i]?).bind (fun o : Oper => o.dst) ≠ some t) → (fillA a0 l k vs).tmps[t]? = a0.tmps[t]? := by
  induction l with
  | nil => intro a0 k t vs _; rfl
  | cons o r ih =>
    intro a0 k t vs h
    rw [fillA, ih _ _ _ _ (fun i => by have := h (i + 1); simpa using this), put_tmps]
    have h0 := h 0
    cases hd : o.dst with
    | none => rfl
    | some d =>
      simp [hd] at h0
      simp only []
      rw [Array.getElem?_setIfInBounds_ne h0]
theorem fillA_some (l : List Oper) : ∀ (a0 : Act) (k t j : Nat) (vs : Nat → Value), t < a0.tmps.size → (l[j]?).bind (·.dst) = some t → (∀ i : Nat, (l[i]?).bind (fun o : Oper => o.dst) = some t → i = j) →
    (fillA a0 l k vs).tmps[t]? = some (vs (k + j)) := by
  induction l with
  | nil => intro a0 k t j vs _ h; simp at h
  | cons o r ih =>
    intro a0 k t j vs ht h hu
    rw [fillA]
    cases j with
    | zero =>
      have hd : o.dst = some t := by simpa using h
      rw [fillA_none r _ _ _ _ (fun i hi => by have := hu (i + 1) (by simpa using hi); omega), put_tmps, hd]
      simp [ht]
    | succ j =>
      have := ih (a0.put o.dst (vs k)) (k + 1) t j vs (by rw [put_tmps]; cases o.dst <;> simp [ht]) (by simpa using h) (fun i hi => by have := hu (i + 1) (by simpa using hi); omega)
      rw [this]
      congr 2
      omega

/-- The frame a: of the first n operations those that are listed have their values in their slots. -/
structure Part (l : List Oper) (n : Nat) (a0 : Act) (listed : Array Bool) (vs : Nat → Value) (a : Act) : Prop where
  defers : a.defers = a0.defers
  size : a.tmps.size = a0.tmps.size
  done : ∀ i t, i < n → listed.getD i true = true → (l[i]?).bind (·.dst) = some t → t < a0.tmps.size → a.tmps[t]? = some (vs i)
  left : ∀ t, (∀ i, i < n → listed.getD i true = true → (l[i]?).bind (·.dst) ≠ some t) → a.tmps[t]? = a0.tmps[t]?

section
variable {P : Program} {l : List Oper} {n : Nat} {a0 : Act}
theorem dsts_inj (hd : dstsOk l n = true) {i j t : Nat} (hi : i < n) (hj : j < n) (h1 : (l[i]?).bind (·.dst) = some t) (h2 : (l[j]?).bind (·.dst) = some t) : i = j := by
  unfold dstsOk at hd
  rw [List.all_eq_true] at hd
  have := hd i (List.mem_range.2 hi)
  rw [List.all_eq_true] at this
  have := this j (List.mem_range.2 hj)
  rw [h1, h2] at this
  simpa using this
theorem take_dst {i : Nat} (hi : i < n) : ((l.take n)[i]?) = l[i]? := by rw [List.getElem?_take, if_pos hi]
theorem Part.full (hd : dstsOk l n = true) {listed : Array Bool} {vs : Nat → Value} {a : Act} (h : Part l n a0 listed vs a) (hall : ∀ i, i < n → listed.getD i true = true) : a = fillA a0 (l.take n) 0 vs := by
  have hsz : a.tmps.size = (fillA a0 (l.take n) 0 vs).tmps.size := by rw [h.size, fillA_size]
  have ht : a.tmps = (fillA a0 (l.take n) 0 vs).tmps := by
    apply Array.ext_getElem?
    intro t
    by_cases hlt : t < a0.tmps.size
    · by_cases hex : ∃ i, i < n ∧ (l[i]?).bind (·.dst) = some t
      · obtain ⟨i, hi, hit⟩ := hex
        rw [h.done i t hi (hall i hi) hit hlt]
        have := fillA_some (l.take n) a0 0 t i vs hlt (by rw [take_dst hi]; exact hit) (fun k hk => by
          by_cases hkn : k < n
          · rw [take_dst hkn] at hk
            exact dsts_inj hd hkn hi hk hit
          · rw [List.getElem?_take, if_neg hkn] at hk; simp at hk)
        rw [this, Nat.zero_add]
      · rw [h.left t (fun i hi _ hit => hex ⟨i, hi, hit⟩), fillA_none]
        intro k hk
        by_cases hkn : k < n
        · rw [take_dst hkn] at hk
          exact hex ⟨k, hkn, hk⟩
        · rw [List.getElem?_take, if_neg hkn] at hk; simp at hk
    · rw [Array.getElem?_eq_none (by rw [h.size]; omega), Array.getElem?_eq_none (by rw [fillA_size]; omega)]
  have hdf : a.defers = (fillA a0 (l.take n) 0 vs).defers := by rw [h.defers, fillA_defers]
  cases a
  cases hf : fillA a0 (l.take n) 0 vs
  rw [hf] at ht hdf
  simp only at ht hdf
  rw [ht, hdf]
theorem Part.step {listed : Array Bool} {vs : Nat → Value} {a : Act} (hd : dstsOk l n = true) (h : Part l n a0 listed vs a) {j : Nat} (hj : j < n) (hjl : j < listed.size) {o : Oper} (ho : l[j]? = some o) (v : Value) (hun : listed.getD j true = false) :
    Part l n a0 (listed.setIfInBounds j true) (fun i => if i = j then v else vs i) (a.put o.dst v) where
  defers := by rw [put_defers']; exact h.defers
  size := by rw [put_tmps]; cases o.dst <;> simpa using h.size
  done := by
    intro i t hi hl hit ht
    rw [put_tmps]
    by_cases hij : i = j
    · subst hij
      rw [ho] at hit
      have hd' : o.dst = some t := by simpa using hit
      rw [hd']
      simp [h.size, ht]
    · simp only [if_neg hij]
      have hl' : listed.getD i true = true := by rwa [getD_set_ne true (Ne.symm hij)] at hl
      have := h.done i t hi hl' hit ht
      cases hod : o.dst with
      | none => simpa using this
      | some s =>
        have hne : s ≠ t := fun e => hij (dsts_inj hd hi hj hit (by rw [ho]; simpa [e] using hod))
        simp only []
        rw [Array.getElem?_setIfInBounds_ne hne]
        exact this
  left := by
    intro t ht
    rw [put_tmps]
    have hself := ht j hj (by simp [Array.getD, hjl])
    rw [ho] at hself
    have hrest := h.left t (fun i hi hl => ht i hi (by
      by_cases hij : i = j
      · subst hij; simp [Array.getD, hjl]
      · rwa [getD_set_ne true (Ne.symm hij)]))
    cases hod : o.dst with
    | none => simpa using hrest
    | some s =>
      have hne : s ≠ t := fun e => hself (by simp [hod, e])
      simp only []
      rw [Array.getElem?_setIfInBounds_ne hne]
      exact hrest

/-- The listed operations are closed under 'waits for'. -/
def Closed (l : List Oper) (listed : Array Bool) : Prop := ∀ j o, l[j]? = some o → listed.getD j true = true → ∀ e ∈ o.after, Region.binds .any e = true → listed.getD e.on false = true

theorem edgeMask_bit (ms : List Nat) (i : Nat) : ∀ (es : List Edge) (m : Nat), (es.foldl (fun m e => if Region.binds .any e = true then m ||| (ms.getD e.on 0 ||| 2 ^ e.on) else m) m).testBit i = true →
    m.testBit i = true ∨ ∃ e ∈ es, Region.binds .any e = true ∧ ((ms.getD e.on 0).testBit i = true ∨ i = e.on) := by
  intro es
  induction es with
  | nil => intro m h; exact .inl h
  | cons e r ih =>
    intro m h
    rw [List.foldl_cons] at h
    rcases ih _ h with h1 | ⟨e', he', h2⟩
    · by_cases hb : Region.binds .any e = true
      · rw [if_pos hb, Nat.testBit_or, Nat.testBit_or, Nat.testBit_two_pow] at h1
        simp only [Bool.or_eq_true, decide_eq_true_eq] at h1
        rcases h1 with h1 | h1 | h1
        · exact .inl h1
        · exact .inr ⟨e, List.mem_cons_self, hb, .inl h1⟩
        · exact .inr ⟨e, List.mem_cons_self, hb, .inr h1.symm⟩
      · rw [if_neg hb] at h1
        exact .inl h1
    · exact .inr ⟨e', List.mem_cons_of_mem _ he', h2⟩
def EdgesIn (l : List Oper) (listed : Array Bool) (j : Nat) : Prop := ∀ o, l[j]? = some o → ∀ e ∈ o.after, Region.binds .any e = true → listed.getD e.on false = true
theorem masks_listed {l : List Oper} {listed : Array Bool} (hc : Closed l listed) : ∀ (r : List Oper) (ms : List Nat) (p : List Oper), l = p ++ r → ms.length = p.length →
    (∀ j i, j < ms.length → EdgesIn l listed j → (ms.getD j 0).testBit i = true → listed.getD i false = true) →
    ∀ j i, EdgesIn l listed j → ((masks r ms).getD j 0).testBit i = true → listed.getD i false = true := by
  intro r
  induction r with
  | nil =>
    intro ms p hl hm hp j i he hb
    by_cases hj : j < ms.length
    · exact hp j i hj he hb
    · rw [masks, List.getD_eq_getElem?_getD, List.getElem?_eq_none (by omega)] at hb
      simp at hb
  | cons o r ih =>
    intro ms p hl hm hp
    refine ih (ms ++ [edgeMask ms o.after.toList]) (p ++ [o]) (by rw [hl]; simp) (by simp [hm]) ?_
    intro j i hj he hb
    by_cases hjm : j < ms.length
    · refine hp j i hjm he ?_
      rwa [List.getD_eq_getElem?_getD, List.getElem?_append_left hjm, ← List.getD_eq_getElem?_getD] at hb
    · have hje : j = ms.length := by simp at hj; omega
      subst hje
      have hlo : l[ms.length]? = some o := by rw [hl, hm]; simp
      rw [List.getD_eq_getElem?_getD, List.getElem?_append_right (Nat.le_refl _)] at hb
      simp only [Nat.sub_self, List.getElem?_cons_zero, Option.getD_some] at hb
      rcases edgeMask_bit ms i _ _ hb with h0 | ⟨e, hee, hbe, h1 | h1⟩
      · simp at h0
      · have hle := he o hlo e (by simpa using hee) hbe
        have hlt : e.on < ms.length := by
          rcases Nat.lt_or_ge e.on ms.length with h | h
          · exact h
          · rw [List.getD_eq_getElem?_getD, List.getElem?_eq_none (by omega)] at h1; simp at h1
        have hlt' : e.on < listed.size := by
          rcases Nat.lt_or_ge e.on listed.size with h | h
          · exact h
          · rw [Array.getD, dif_neg (by omega)] at hle; cases hle
        refine hp e.on i hlt (fun o' ho' e' he' hb' => hc e.on o' ho' ?_ e' he' hb') h1
        rw [Array.getD, dif_pos hlt'] at hle ⊢
        exact hle
      · subst h1
        exact he o hlo e (by simpa using hee) hbe
theorem anc_listed {l : List Oper} {listed : Array Bool} (hc : Closed l listed) (f j i : Nat) (he : ∀ o, l[j]? = some o → ∀ e ∈ o.after, Region.binds .any e = true → listed.getD e.on false = true) (h : anc l f j i = true) : listed.getD i false = true :=
  masks_listed hc l [] [] rfl rfl (fun j i hj => absurd hj (by simp)) j i he h
theorem eval_part {listed : Array Bool} {vs : Nat → Value} {a : Act} (hd : dstsOk l n = true) (h : Part l n a0 listed vs a) (t : Nat)
    (hok : ∀ i, i < n → (l[i]?).bind (·.dst) = some t → listed.getD i true = true) : a.tmps[t]? = (fillA a0 (l.take n) 0 vs).tmps[t]? := by
  by_cases hlt : t < a0.tmps.size
  · by_cases hex : ∃ i, i < n ∧ (l[i]?).bind (·.dst) = some t
    · obtain ⟨i, hi, hit⟩ := hex
      rw [h.done i t hi (hok i hi hit) hit hlt]
      have := fillA_some (l.take n) a0 0 t i vs hlt (by rw [take_dst hi]; exact hit) (fun k hk => by
        by_cases hkn : k < n
        · rw [take_dst hkn] at hk
          exact dsts_inj hd hkn hi hk hit
        · rw [List.getElem?_take, if_neg hkn] at hk; simp at hk)
      rw [this, Nat.zero_add]
    · rw [h.left t (fun i hi _ hit => hex ⟨i, hi, hit⟩), fillA_none]
      intro k hk
      by_cases hkn : k < n
      · rw [take_dst hkn] at hk
        exact hex ⟨k, hkn, hk⟩
      · rw [List.getElem?_take, if_neg hkn] at hk; simp at hk
  · rw [Array.getElem?_eq_none (by rw [h.size]; omega), Array.getElem?_eq_none (by rw [fillA_size]; omega)]

theorem Steps.at_ {G : World → World → Prop} {Φ : Nat → Value → World → Prop} {w0 : World} : ∀ (r : List Oper) (k : Nat), Steps P l n G Φ a0 w0 r k → ∀ i o, r[i]? = some o →
    ∀ (vs : Nat → Value) (w : World), G w0 w → (∀ q, anc l n (k + i) q = true → Φ q (vs q) w) → wpList P l.toArray (QF G (Φ (k + i)) o.dst a0.defers w) [o] (fillA a0 (l.take n) 0 vs) w := by
  intro r
  induction r with
  | nil => intro k _ i o h; simp at h
  | cons x r ih =>
    intro k h i o hi
    cases i with
    | zero => simp at hi; subst hi; exact h.1
    | succ i =>
      have := ih (k + 1) h.2 i o (by simpa using hi)
      rw [show k + (i + 1) = k + 1 + i by omega]
      exact this
end

section
variable {P : Program} {l : List Oper} {n : Nat} {a0 : Act} {Q : Exit → Act → World → Prop}

theorem filter_less (p : Nat → Bool) (j : Nat) : ∀ (L : List Nat), L.Nodup → j ∈ L → p j = true → (L.filter fun i => p i && (i != j)).length + 1 = (L.filter p).length := by
  intro L
  induction L with
  | nil => intro _ h; cases h
  | cons x L ih =>
    intro hn hj hp
    rw [List.nodup_cons] at hn
    by_cases hx : x = j
    · subst hx
      have h2 : (L.filter fun i => p i && (i != x)) = L.filter p := by
        apply List.filter_congr
        intro i hi
        have : i ≠ x := fun e => hn.1 (e ▸ hi)
        simp [this]
      simp [hp, h2]
    · have hj' : j ∈ L := by
        rcases List.mem_cons.1 hj with h | h
        · exact absurd h.symm hx
        · exact h
      have := ih hn.2 hj' hp
      by_cases hpx : p x = true
      · simp [hpx, hx]; simpa using this
      · simp [hpx]; simpa using this

/-- The rest of the region, its order forced. -/
theorem wpAny_tail (hf : ∀ j o, n ≤ j → l[j]? = some o → (∀ i, i < j → anc l l.length j i = true) ∧ ∀ e ∈ o.after, Region.binds .any e = true → e.on < j) :
    ∀ (m k fuel : Nat) (listed : Array Bool) (a : Act) (w : World), n ≤ k → k + m = l.length → m ≤ fuel → listed.size = l.length → Closed l listed → (∀ i, i < k → listed.getD i true = true) → (∀ i, k ≤ i → i < l.length → listed.getD i true = false) →
    wpList P l.toArray Q (l.drop k) a w → wpAny P .any l.toArray Q fuel listed a w := by
  intro m
  induction m with
  | zero =>
    intro k fuel listed a w hnk hk hfu hsz hcl h1 h2 hw
    have hnil : Region.ready .any l.toArray listed = [] := by
      apply List.eq_nil_iff_forall_not_mem.2
      intro j hj
      obtain ⟨hu, o, ho, _⟩ := mem_ready.1 hj
      have hjl : j < l.length := by simpa using (Array.getElem?_eq_some_iff.1 ho).1
      rw [h1 j (by omega)] at hu
      cases hu
    have hQ : Q .normal a w := by
      rw [List.drop_of_length_le (by omega)] at hw
      exact hw
    cases fuel with
    | zero => exact ⟨hnil, hQ⟩
    | succ f => exact ⟨fun _ => hQ, fun i hi => by rw [hnil] at hi; cases hi⟩
  | succ m ih =>
    intro k fuel listed a w hnk hk hfu hsz hcl h1 h2 hw
    have hkl : k < l.length := by omega
    have hok : l[k]? = some l[k] := List.getElem?_eq_getElem hkl
    obtain ⟨hfk1, hfk2⟩ := hf k l[k] hnk hok
    cases fuel with
    | zero => omega
    | succ f =>
      have hmem : k ∈ Region.ready .any l.toArray listed := by
        rw [mem_ready]
        refine ⟨h2 k (Nat.le_refl _) hkl, l[k], by simpa using hok, fun e he hb => ?_⟩
        have hlt := hfk2 e he hb
        have := h1 e.on hlt
        rw [Array.getD, dif_pos (show e.on < listed.size by omega)] at this
        rw [Array.getD, dif_pos (show e.on < listed.size by omega)]
        exact this
      refine ⟨fun hn => (by rw [hn] at hmem; cases hmem), fun i hi => ?_⟩
      obtain ⟨hu, o, ho, hall⟩ := mem_ready.1 hi
      have hil : i < l.length := by simpa using (Array.getElem?_eq_some_iff.1 ho).1
      have hik : k ≤ i := by
        rcases Nat.lt_or_ge i k with hlt | hge
        · rw [h1 i hlt] at hu; cases hu
        · exact hge
      have heq : i = k := by
        rcases Nat.eq_or_lt_of_le hik with e | hlt
        · exact e.symm
        · exfalso
          obtain ⟨hfi1, _⟩ := hf i o (by omega) (by simpa using ho)
          have := anc_listed hcl l.length i k (fun o' ho' e he hb => by
            have : o' = o := by
              have h' : l[i]? = some o := by simpa using ho
              rw [h'] at ho'; exact (Option.some.inj ho').symm
            subst this
            exact hall e he hb) (hfi1 k hlt)
          have h0 := h2 k (Nat.le_refl _) hkl
          rw [Array.getD, dif_pos (show k < listed.size by omega)] at this h0
          rw [this] at h0; cases h0
      subst heq
      have hdrop : l.drop i = l[i] :: l.drop (i + 1) := List.drop_eq_getElem_cons hil
      rw [hdrop] at hw
      have hoi : o = l[i] := by
        have : l[i]? = some o := by simpa using ho
        rw [hok] at this; exact (Option.some.inj this).symm
      have hlst : ∀ q, (listed.setIfInBounds i true).getD q true = if q = i then true else listed.getD q true := by
        intro q
        by_cases hq : q = i
        · subst hq; simp [Array.getD, show q < listed.size by omega]
        · rw [if_neg hq, getD_set_ne true (Ne.symm hq)]
      have hcl' : Closed l (listed.setIfInBounds i true) := by
        intro j o' ho' hj e he hb
        rw [hlst] at hj
        by_cases hji : j = i
        · subst hji
          have : o' = o := by
            have h' : l[j]? = some o := by simpa using ho
            rw [h'] at ho'; exact (Option.some.inj ho').symm
          subst this
          exact getD_set_true (hall e he hb)
        · rw [if_neg hji] at hj
          exact getD_set_true (hcl j o' ho' hj e he hb)
      have next : ∀ a' w', wpList P l.toArray Q (l.drop (i + 1)) a' w' → wpAny P .any l.toArray Q f (listed.setIfInBounds i true) a' w' := fun a' w' h' =>
        ih (i + 1) f (listed.setIfInBounds i true) a' w' (by omega) (by omega) (by omega) (by simpa using hsz) hcl'
          (fun q hq => by rw [hlst]; split; rfl; exact h1 q (by omega)) (fun q hq hql => by rw [hlst, if_neg (by omega)]; exact h2 q (by omega) hql) h'
      unfold wpOp
      rw [ho]
      simp only []
      subst hoi
      unfold wpList at hw
      split
      · rename_i hw'
        rw [if_pos hw'] at hw
        exact hw.imp (Oper.wp_mono next) id
      · rename_i hw'
        rw [if_neg hw'] at hw
        exact next _ _ hw

/-- **The law**: the first n operations in whatever order, one fact each; the others behind them in the text's order. -/
theorem wpAny_facts {G : World → World → Prop} {Φ : Nat → Value → World → Prop} {w0 : World} (hG : ∀ a b c, G a b → G b c → G a c) (hst : ∀ i v w w', Φ i v w → G w w' → Φ i v w')
    (hsel : Region.noSelect l.toArray = true) (hnl : n ≤ l.length) (hd : dstsOk l n = true)
    (hpre : ∀ j o, j < n → l[j]? = some o → looksOk l n j o = true ∧ (∀ e ∈ o.after, Region.binds .any e = true → e.on < j) ∧ ∀ t, o.dst = some t → t < a0.tmps.size)
    (hf : ∀ j o, n ≤ j → l[j]? = some o → (∀ i, i < j → anc l l.length j i = true) ∧ ∀ e ∈ o.after, Region.binds .any e = true → e.on < j)
    (hs : Steps P l n G Φ a0 w0 (l.take n) 0)
    (ht : ∀ vs w, G w0 w → (∀ i, i < n → Φ i (vs i) w) → wpList P l.toArray Q (l.drop n) (fillA a0 (l.take n) 0 vs) w) :
    ∀ (m fuel : Nat) (listed : Array Bool) (vs : Nat → Value) (a : Act) (w : World), m + (l.length - n) ≤ fuel → listed.size = l.length → Closed l listed →
      ((List.range n).filter fun i => !listed.getD i true).length = m → (∀ i, n ≤ i → i < l.length → listed.getD i true = false) → Part l n a0 listed vs a → G w0 w → (∀ i, i < n → listed.getD i true = true → Φ i (vs i) w) →
      wpAny P .any l.toArray Q fuel listed a w := by
  intro m
  induction m with
  | zero =>
    intro fuel listed vs a w hfu hsz hcl hm hun hp hg hF
    have hall : ∀ i, i < n → listed.getD i true = true := by
      intro i hi
      have := List.eq_nil_of_length_eq_zero hm
      rw [List.filter_eq_nil_iff] at this
      simpa using this i (List.mem_range.2 hi)
    have ha := hp.full hd hall
    refine wpAny_tail hf (l.length - n) n fuel listed a w (Nat.le_refl _) (by omega) (by omega) hsz hcl hall hun ?_
    rw [ha]
    exact ht vs w hg fun i hi => hF i hi (hall i hi)
  | succ m ih =>
    intro fuel listed vs a w hfu hsz hcl hm hun hp hg hF
    have hex : ∃ i, i < n ∧ listed.getD i true = false := by
      cases hL : (List.range n).filter fun i => !listed.getD i true with
      | nil => rw [hL] at hm; cases hm
      | cons i r =>
        have : i ∈ (List.range n).filter fun i => !listed.getD i true := by rw [hL]; exact List.mem_cons_self
        rw [List.mem_filter, List.mem_range] at this
        exact ⟨i, this.1, by simpa using this.2⟩
    cases fuel with
    | zero => omega
    | succ f =>
      refine ⟨fun hnil => ?_, fun j hj => ?_⟩
      · -- something is left, so something is ready: the least of what is left
        exfalso
        obtain ⟨i, hi, hiu⟩ := hex
        -- the ready list is empty: no unlisted operation has all it waits for
        have : ∀ k, ∀ i, i < k → i < n → listed.getD i true = true := by
          intro k
          induction k with
          | zero => intro i hi; omega
          | succ k ihk =>
            intro i hi hin
            by_cases hik : i < k
            · exact ihk i hik hin
            · have : i = k := by omega
              subst this
              rcases Bool.eq_false_or_eq_true (listed.getD i true) with h | h
              · exact h
              · exfalso
                have hil : i < l.length := by omega
                have : i ∈ Region.ready .any l.toArray listed := by
                  rw [mem_ready]
                  refine ⟨h, l[i], by simp [hil], fun e he hb => ?_⟩
                  have hlt := (hpre i l[i] hin (List.getElem?_eq_getElem hil)).2.1 e he hb
                  have := ihk e.on hlt (by omega)
                  rw [Array.getD, dif_pos (show e.on < listed.size by omega)] at this ⊢
                  exact this
                rw [hnil] at this
                cases this
        rw [this (i + 1) i (by omega) hi] at hiu
        cases hiu
      · obtain ⟨hu, o, ho, hall⟩ := mem_ready.1 hj
        have ho' : l[j]? = some o := by simpa using ho
        have hjl : j < l.length := by simpa using (Array.getElem?_eq_some_iff.1 ho).1
        have hjn : j < n := by
          rcases Nat.lt_or_ge j n with h | h
          · exact h
          · exfalso
            obtain ⟨i, hi, hiu⟩ := hex
            have := anc_listed hcl l.length j i (fun o' ho'' e he hb => by
              rw [ho'] at ho''; rw [← Option.some.inj ho''] at he; exact hall e he hb) ((hf j o h ho').1 i (by omega))
            rw [Array.getD, dif_pos (show i < listed.size by omega)] at this hiu
            rw [this] at hiu; cases hiu
        obtain ⟨hlook, hedge, hdst⟩ := hpre j o hjn ho'
        -- what the operation looks at is in its slot already
        have hanc : ∀ q, anc l n j q = true → q < n ∧ listed.getD q true = true := by
          intro q hq
          have h1 := anc_listed hcl n j q (fun o' ho'' e he hb => by
            rw [ho'] at ho''; rw [← Option.some.inj ho''] at he; exact hall e he hb) hq
          have hqs : q < listed.size := by
            rcases Nat.lt_or_ge q listed.size with h | h
            · exact h
            · rw [Array.getD, dif_neg (by omega)] at h1; cases h1
          have h2 : listed.getD q true = true := by
            rw [Array.getD, dif_pos hqs] at h1 ⊢; exact h1
          refine ⟨?_, h2⟩
          rcases Nat.lt_or_ge q n with h | h
          · exact h
          · rw [hun q h (by omega)] at h2; cases h2
        have hlooks : ∀ t, t ∈ o.looksAt l.toArray → a.tmps[t]? = (fillA a0 (l.take n) 0 vs).tmps[t]? := by
          intro t htl
          refine eval_part hd hp t fun i hi hit => ?_
          unfold looksOk at hlook
          rw [List.all_eq_true] at hlook
          have := hlook i (List.mem_range.2 hi)
          rw [hit] at this
          simp only [Bool.or_eq_true, Bool.not_eq_true', List.contains_eq_mem, decide_eq_false_iff_not] at this
          rcases this with h | h
          · exact absurd htl h
          · exact (hanc i h).2
        have hexec : execOp a.eval o = execOp (fillA a0 (l.take n) 0 vs).eval o :=
          execOp_congr o (fun cs b => Region.noSelect_spec hsel j o cs b ho) fun x hx => by
            cases x with
            | tmp t =>
              have := hlooks t (List.mem_append_left _ (List.mem_filterMap.2 ⟨.tmp t, by simpa using hx, rfl⟩))
              simp only [Act.eval, Array.getD_eq_getD_getElem?, this]
            | _ => rfl
        have hwant : Region.wanted o (yielded l.toArray a.tmps) = Region.wanted o (yielded l.toArray (fillA a0 (l.take n) 0 vs).tmps) := by
          unfold Region.wanted
          cases hg : o.guard with
          | none => rfl
          | some gw =>
            obtain ⟨g, want⟩ := gw
            have hy : yielded l.toArray a.tmps g = yielded l.toArray (fillA a0 (l.take n) 0 vs).tmps g := by
              unfold yielded
              cases ht' : (l.toArray[g]?).bind (·.dst) with
              | none => rfl
              | some t =>
                have := hlooks t (by unfold Oper.looksAt; rw [hg]; refine List.mem_append_right _ ?_; simp only []; rw [ht']; simp)
                simp only [Option.bind_some, this]
            simp only [hy]
        have hstep := Steps.at_ _ 0 hs j o (by rw [take_dst hjn]; exact ho') vs w hg (fun q hq => by
          rw [Nat.zero_add] at hq
          exact hF q (hanc q hq).1 (hanc q hq).2)
        rw [Nat.zero_add] at hstep
        have hlst : ∀ q, (listed.setIfInBounds j true).getD q true = if q = j then true else listed.getD q true := by
          intro q
          by_cases hq : q = j
          · subst hq; simp [Array.getD, show q < listed.size by omega]
          · rw [if_neg hq, getD_set_ne true (Ne.symm hq)]
        have hcl' : Closed l (listed.setIfInBounds j true) := by
          intro i o' hoi hi e he hb
          rw [hlst] at hi
          by_cases hij : i = j
          · subst hij
            rw [ho'] at hoi
            rw [← Option.some.inj hoi] at he
            exact getD_set_true (hall e he hb)
          · rw [if_neg hij] at hi
            exact getD_set_true (hcl i o' hoi hi e he hb)
        have hcount : ((List.range n).filter fun i => !(listed.setIfInBounds j true).getD i true).length = m := by
          have h1 := filter_less (fun i => !listed.getD i true) j (List.range n) List.nodup_range (List.mem_range.2 hjn) (by simpa using hu)
          have h2 : ((List.range n).filter fun i => !(listed.setIfInBounds j true).getD i true) = ((List.range n).filter fun i => (!listed.getD i true) && (i != j)) := by
            apply List.filter_congr
            intro i _
            rw [hlst]
            by_cases hij : i = j <;> simp [hij]
          rw [h2]
          omega
        -- whatever value the operation yields, the rest holds
        have next : ∀ v w', G w w' → Φ j v w' → wpAny P .any l.toArray Q f (listed.setIfInBounds j true) (a.put o.dst v) w' := by
          intro v w' hgw hφ
          refine ih f (listed.setIfInBounds j true) (fun i => if i = j then v else vs i) (a.put o.dst v) w' (by omega) (by simpa using hsz) hcl' hcount ?_ (hp.step hd hjn (by omega) ho' v hu) (hG _ _ _ hg hgw) ?_
          · intro i hni hil
            rw [hlst, if_neg (by omega)]
            exact hun i hni hil
          · intro i hi hil
            rw [hlst] at hil
            by_cases hij : i = j
            · subst hij; simpa using hφ
            · rw [if_neg hij] at hil ⊢
              exact hst i _ w w' (hF i hi hil) hgw
        have value : ∀ v w', QF G (Φ j) o.dst a0.defers w .normal ((fillA a0 (l.take n) 0 vs).put o.dst v) w' → wpAny P .any l.toArray Q f (listed.setIfInBounds j true) (a.put o.dst v) w' := by
          intro v w' ⟨_, hgw, hφ⟩
          cases hod : o.dst with
          | none =>
            rw [hod] at hφ
            -- no slot: the value is not kept
            have := next undef w' hgw hφ
            rw [hod] at this
            exact this
          | some t =>
            rw [hod] at hφ
            have hv : ((fillA a0 (l.take n) 0 vs).put (some t) v).tmps.getD t undef = v := by
              rw [put_tmps]
              simp only [Array.getD_eq_getD_getElem?]
              rw [Array.getElem?_setIfInBounds_self_of_lt (by rw [fillA_size]; exact hdst t hod)]
              rfl
            simp only [hv] at hφ
            have := next v w' hgw hφ
            rw [hod] at this
            exact this
        unfold wpOp
        rw [ho]
        simp only []
        unfold wpList at hstep
        rw [hwant]
        split
        · rename_i hw'
          rw [if_pos hw'] at hstep
          rcases hstep with hstep | ⟨_, _, _, hout⟩
          case inr => exact hout.elim
          refine .inl ?_
          unfold Oper.wp at hstep ⊢
          rw [hexec]
          generalize (execOp (fillA a0 (l.take n) 0 vs).eval o).run P w = r at hstep ⊢
          cases r with
          | ok x w' =>
            cases x <;> simp only [Oper.upon] at hstep ⊢
            case value u => exact value u w' hstep
            case skip => exact value undef w' hstep
            case defer d =>
              exfalso
              have h1 : ({ (fillA a0 (l.take n) 0 vs) with defers := d :: (fillA a0 (l.take n) 0 vs).defers }.put o.dst undef).defers = a0.defers := hstep.1
              rw [put_defers', fillA_defers] at h1
              have := congrArg List.length h1
              simp at this
            case enter g args =>
              refine Calls.mono hstep fun e w'' he => ?_
              cases e with
              | returned u => exact value u w'' he
              | panicked c => exact he.elim
              | outgrown => obtain ⟨_, _, h⟩ := he; exact h.elim
            case row g args => exact Rows.mono hstep fun u w'' hu' => value u w'' hu'
          | halt x w' => cases x <;> simp only [Oper.upon] at hstep ⊢ <;> exact hstep.elim
        · rename_i hw'
          rw [if_neg hw'] at hstep
          exact value undef w hstep

/-- **The law for a region**: l its operations, n those before the tail. -/
theorem wp_region_facts {id : Nat} {w0 : World} (G : World → World → Prop) (Φ : Nat → Value → World → Prop) (n : Nat) (hm : P.follows .mixedOrders = true) (hB : factsB l n a0.tmps.size = true)
    (hr : ∀ a, G a a) (hG : ∀ a b c, G a b → G b c → G a c) (hst : ∀ i v w w', Φ i v w → G w w' → Φ i v w')
    (hs : Steps P l n G Φ a0 w0.drew (l.take n) 0)
    (ht : ∀ vs w, G w0.drew w → (∀ i, i < n → Φ i (vs i) w) → wpList P l.toArray Q (l.drop n) (fillA a0 (l.take n) 0 vs) w) : (Code.region id l.toArray true).wp P Q a0 w0 := by
  unfold factsB at hB
  simp only [Bool.and_eq_true] at hB
  obtain ⟨⟨⟨⟨h1, h2⟩, h3⟩, h4⟩, h5⟩ := hB
  have h2' : n ≤ l.length := of_decide_eq_true h2
  rw [List.all_eq_true] at h4 h5
  refine wp_region_any hm (wpAny_facts (w0 := w0.drew) hG hst h1 h2' h3 ?_ ?_ hs ht ((List.range n).filter fun i => !(Array.replicate l.toArray.size false).getD i true).length _ _ (fun _ => undef) a0 _ ?_ (by simp) ?_ rfl ?_ ?_ (hr _) ?_)
  · intro j o hj ho
    have := h4 j (List.mem_range.2 hj)
    rw [ho] at this
    simp only [Bool.and_eq_true] at this
    obtain ⟨⟨ha, hb⟩, hc⟩ := this
    refine ⟨ha, fun e he hb' => ?_, fun t ht' => ?_⟩
    · have := Array.all_eq_true_iff_forall_mem.1 hb e he
      simpa [hb'] using this
    · rw [ht'] at hc
      simpa using hc
  · intro j o hj ho
    have hjl : j < l.length := (List.getElem?_eq_some_iff.1 ho).1
    have := h5 j (List.mem_range.2 hjl)
    rw [ho] at this
    simp only [Bool.or_eq_true, decide_eq_true_eq, Bool.and_eq_true] at this
    rcases this with h | ⟨ha, hb⟩
    · omega
    · refine ⟨fun i hi => ?_, fun e he hb' => ?_⟩
      · rw [List.all_eq_true] at ha
        exact ha i (List.mem_range.2 hi)
      · have := Array.all_eq_true_iff_forall_mem.1 hb e he
        simpa [hb'] using this
  · have : ((List.range n).filter fun i => !(Array.replicate l.toArray.size false).getD i true).length ≤ n := by
      refine Nat.le_trans (List.length_filter_le _ _) ?_
      simp
    simp only [List.size_toArray] at this ⊢
    omega
  · intro j o ho hj
    have hjl : j < l.length := (List.getElem?_eq_some_iff.1 ho).1
    simp [Array.getD, hjl] at hj
  · intro i hi hil
    simp [Array.getD, hil]
  · refine ⟨rfl, rfl, fun i t hi hl => ?_, fun t _ => rfl⟩
    simp [Array.getD, show i < l.length by omega] at hl
  · intro i hi hl
    simp [Array.getD, show i < l.length by omega] at hl
end
end Go.Proofs.YtnbgieccindpnaaDoor
