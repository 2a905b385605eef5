/- Regions that draw their order, walked in one order: reads as early as they can come, each in whatever world it may meet; what changes the world in every order that the edges allow. -/
import Derived.Test.YtnbgieccindpnaaDoorLib
import Derived.Test.YtnbgieccindpnaaDoorReg
namespace Go.Proofs.YtnbgieccindpnaaDoor
set_option linter.all false
set_option maxRecDepth 20000
open Go
/-- One order of a region: 'read j' comes up as soon as it can; at 'call' each operation that may come up is an alternative ('free': it waits for all that the plan has taken). -/
inductive Plan where
  | tail : Plan
  | none : Plan
  | read (j : Nat) (next : Plan) : Plan
  | call (free : Bool) (j : Nat) (next other : Plan) : Plan
/-- Behind an operation that leaves the world alone: its value. -/
def Rv (d : Option Tmp) (ds : List Deferred) (v : Value) (w' : World) : Exit → Act → World → Prop
  | .normal, a'', w'' => a''.defers = ds ∧ w'' = w' ∧ (match d with | some t => a''.tmps.getD t undef | none => v) = v
  | _, _, _ => False
/-- Behind an operation that turns the world: what it kept, and the rest. -/
def Nx (G : World → World → Prop) (w : World) (ds : List Deferred) (K : Act → World → Prop) : Exit → Act → World → Prop
  | .normal, a', w' => a'.defers = ds ∧ G w w' ∧ K a' w'
  | _, _, _ => False
def RunP (rd : Nat → Bool) (P : Program) (l : List Oper) (n : Nat) (G : World → World → Prop) (Q : Exit → Act → World → Prop) : Plan → Act → World → Prop
  | .tail, a, w => wpList P l.toArray Q (l.drop n) a w
  | .none, _, _ => True
  | .read j p, a, w => ∃ o v, l[j]? = some o ∧ (∀ w', (rd j = true → G w w') → wpList P l.toArray (Rv o.dst a.defers v w') [o] a w') ∧ RunP rd P l n G Q p (a.put o.dst v) w
  | .call f j p q, a, w => (∃ o, l[j]? = some o ∧ wpList P l.toArray (Nx (fun w w' => f = false → G w w') w a.defers (RunP rd P l n G Q p)) [o] a w) ∧ RunP rd P l n G Q q a w
def readyB (l : List Oper) (D : List Nat) (j : Nat) : Bool := match l[j]? with
  | some o => o.after.all fun e => !Region.binds .any e || D.contains e.on
  | none => false
def looksIn (l : List Oper) (n : Nat) (D : List Nat) (j : Nat) : Bool := match l[j]? with
  | some o => (List.range n).all fun i => match (l[i]?).bind (·.dst) with
    | some t => !(o.looksAt l.toArray).contains t || D.contains i
    | none => true
  | none => false
def mayB (l : List Oper) (n : Nat) (D : List Nat) (j : Nat) : Bool := decide (j < n) && !D.contains j && readyB l D j && looksIn l n D j
def planOk (rd : Nat → Bool) (l : List Oper) (n : Nat) : Plan → List Nat → List Nat → Bool
  | .tail, D, seen => seen.isEmpty && (List.range n).all fun i => D.contains i
  | .none, D, seen => !seen.isEmpty && (List.range n).all fun i => D.contains i || !readyB l D i || seen.contains i
  | .read j p, D, seen => seen.isEmpty && mayB l n D j && planOk rd l n p (j :: D) []
  | .call f j p q, D, seen => mayB l n D j && (!f || D.all fun i => anc l n j i || !rd i) && planOk rd l n p (j :: D) [] && planOk rd l n q D (j :: seen)

/-- The frame at hand a beside the plan's a': they differ at most at the slots of what the plan has taken and the region not yet. -/
structure Beside (l : List Oper) (D : List Nat) (listed : Array Bool) (a a' : Act) : Prop where
  defers : a.defers = a'.defers
  size : a.tmps.size = a'.tmps.size
  slots : ∀ t, (∀ j, j ∈ D → listed.getD j true = false → (l[j]?).bind (·.dst) ≠ some t) → a.tmps[t]? = a'.tmps[t]?
/-- An operation that the plan has taken and the region not yet: it yields what the plan says, whenever it comes. -/
structure Waits (rd : Nat → Bool) (P : Program) (l : List Oper) (n : Nat) (G : World → World → Prop) (D : List Nat) (a' : Act) (w : World) (j : Nat) : Prop where
  out : ∃ o b v, l[j]? = some o ∧ b.tmps.size = a'.tmps.size ∧ (∀ t, t ∈ o.looksAt l.toArray → b.tmps[t]? = a'.tmps[t]?) ∧ (∀ t, o.dst = some t → a'.tmps[t]? = some v) ∧
    (∀ i t, i < n → (l[i]?).bind (·.dst) = some t → t ∈ o.looksAt l.toArray → i ∈ D) ∧ ∀ w', (rd j = true → G w w') → wpList P l.toArray (Rv o.dst b.defers v w') [o] b w'

section
variable {rd : Nat → Bool} {P : Program} {l : List Oper} {n : Nat} {Q : Exit → Act → World → Prop} {G : World → World → Prop}
theorem exec_congr (hsel : Region.noSelect l.toArray = true) {j : Nat} {o : Oper} (ho : l[j]? = some o) {a b : Act} (h : ∀ t, t ∈ o.looksAt l.toArray → a.tmps[t]? = b.tmps[t]?) :
    execOp a.eval o = execOp b.eval o ∧ Region.wanted o (yielded l.toArray a.tmps) = Region.wanted o (yielded l.toArray b.tmps) := by
  constructor
  · refine execOp_congr o (fun cs b => Region.noSelect_spec hsel j o cs b (by simpa using ho)) fun x hx => ?_
    cases x with
    | tmp t =>
      have := h t (List.mem_append_left _ (List.mem_filterMap.2 ⟨.tmp t, by simpa using hx, rfl⟩))
      simp only [Act.eval, Array.getD_eq_getD_getElem?, this]
    | _ => rfl
  · unfold Region.wanted
    cases hg : o.guard with
    | none => rfl
    | some gw =>
      obtain ⟨g, want⟩ := gw
      have hy : yielded l.toArray a.tmps g = yielded l.toArray b.tmps g := by
        unfold yielded
        cases ht' : (l.toArray[g]?).bind (·.dst) with
        | none => rfl
        | some t =>
          have := h t (by unfold Oper.looksAt; rw [hg]; refine List.mem_append_right _ ?_; simp only []; rw [ht']; simp)
          simp only [Option.bind_some, this]
      simp only [hy]
/-- A step of the region, at a frame that looks like the one at which it is known. -/
theorem step_at (hsel : Region.noSelect l.toArray = true) {j : Nat} {o : Oper} (ho : l[j]? = some o) {a b : Act} (h : ∀ t, t ∈ o.looksAt l.toArray → a.tmps[t]? = b.tmps[t]?)
    {w : World} {R : Exit → Act → World → Prop} (hR : ∀ e a w, R e a w → e = .normal) (hdf : ∀ a w, R .normal a w → a.defers = b.defers) (hw : wpList P l.toArray R [o] b w) {K : Act → World → Prop}
    (hK : ∀ v w'', R .normal (b.put o.dst v) w'' → K (a.put o.dst v) w'') : wpOp P l.toArray Q j K a w := by
  obtain ⟨he, hwn⟩ := exec_congr hsel ho h
  have no : ∀ e a w, R e a w → e ≠ .normal → False := fun e a w h hn => hn (hR e a w h)
  unfold wpOp
  have ho' : l.toArray[j]? = some o := by simpa using ho
  rw [ho']
  simp only []
  unfold wpList at hw
  rw [hwn]
  split
  · rename_i hw'
    rw [if_pos hw'] at hw
    rcases hw with hw | ⟨_, _, _, hout⟩
    case inr => exact (no _ _ _ hout (by simp)).elim
    refine .inl ?_
    unfold Oper.wp at hw ⊢
    rw [he]
    generalize (execOp b.eval o).run P w = r at hw ⊢
    cases r with
    | ok x w' =>
      cases x <;> simp only [Oper.upon] at hw ⊢
      case value u => exact hK u w' hw
      case skip => exact hK undef w' hw
      case defer d =>
        exfalso
        have h1 := hdf _ _ hw
        rw [put_defers'] at h1
        have := congrArg List.length h1
        simp at this
      case enter g args =>
        refine Calls.mono hw fun e w'' he => ?_
        cases e with
        | returned u => exact hK u w'' he
        | panicked c => exact (no _ _ _ he (by simp)).elim
        | outgrown => obtain ⟨_, _, h⟩ := he; exact (no _ _ _ h (by simp)).elim
      case row g args => exact Rows.mono hw fun u w'' hu' => hK u w'' hu'
    | halt x w' => cases x <;> simp only [Oper.upon] at hw ⊢ <;> first | exact hw.elim | exact (no _ _ _ hw (by simp)).elim
  · rename_i hw'
    rw [if_neg hw'] at hw
    exact hK undef w hw
theorem rv_value {d : Option Tmp} {ds : List Deferred} {v u : Value} {w w'' : World} {b : Act} (hd : ∀ t, d = some t → t < b.tmps.size) (h : Rv d ds v w .normal (b.put d u) w'') : w'' = w ∧ ∀ t, d = some t → u = v := by
  obtain ⟨_, h2, h3⟩ := h
  refine ⟨h2, ?_⟩
  rintro t rfl
  simp only [Act.put, Array.getD_eq_getD_getElem?] at h3
  rw [Array.getElem?_setIfInBounds_self_of_lt (hd t rfl)] at h3
  exact h3
theorem put_none_eq {a : Act} {d : Option Tmp} {u v : Value} (h : ∀ t, d = some t → u = v) : a.put d u = a.put d v := by
  cases d with
  | none => rfl
  | some t => rw [h t rfl]
theorem put_slot {a : Act} {d : Option Tmp} {v : Value} {t : Nat} (h : d ≠ some t) : (a.put d v).tmps[t]? = a.tmps[t]? := by
  rw [put_tmps]
  cases d with
  | none => rfl
  | some s =>
    have hne : s ≠ t := fun e => h (by rw [e])
    simp only []
    rw [Array.getElem?_setIfInBounds_ne hne]
theorem put_own {a : Act} {v : Value} {t : Nat} (h : t < a.tmps.size) : (a.put (some t) v).tmps[t]? = some v := by
  rw [put_tmps]
  simp only []
  rw [Array.getElem?_setIfInBounds_self_of_lt h]
theorem put_size {a : Act} {d : Option Tmp} {v : Value} : (a.put d v).tmps.size = a.tmps.size := by rw [put_tmps]; cases d <;> simp
/-- The alternatives at a call. -/
theorem alt_at : ∀ (p : Plan) (D seen : List Nat) (a : Act) (w : World), planOk rd l n p D seen = true → RunP rd P l n G Q p a w → (seen ≠ [] ∨ (∃ f j p' q, p = .call f j p' q)) →
    ∀ i, i < n → i ∉ D → readyB l D i = true → i ∈ seen ∨ ∃ f p' o, l[i]? = some o ∧ planOk rd l n p' (i :: D) [] = true ∧ (f = true → ∀ k ∈ D, anc l n i k = true ∨ rd k = false) ∧ looksIn l n D i = true ∧ wpList P l.toArray (Nx (fun w w' => f = false → G w w') w a.defers (RunP rd P l n G Q p')) [o] a w := by
  intro p
  induction p with
  | tail =>
    intro D seen a w h _ hs i hi hD hr
    rcases hs with hs | ⟨_, _, _, _, hs⟩
    · simp [planOk] at h; exact absurd h.1 hs
    · cases hs
  | none =>
    intro D seen a w h _ hs i hi hD hr
    simp only [planOk, Bool.and_eq_true, List.all_eq_true, List.mem_range] at h
    have := h.2 i hi
    simp [hr, hD] at this
    exact .inl this
  | read j p ih =>
    intro D seen a w h _ hs i hi hD hr
    rcases hs with hs | ⟨_, _, _, _, hs⟩
    · simp [planOk] at h; exact absurd h.1.1 hs
    · cases hs
  | call f j p q _ ih =>
    intro D seen a w h hrun hs i hi hD hr
    simp only [planOk, Bool.and_eq_true] at h
    obtain ⟨⟨o, ho, hw⟩, h2⟩ := hrun
    rcases ih D (j :: seen) a w h.2 h2 (.inl (by simp)) i hi hD hr with h3 | h3
    · rcases List.mem_cons.1 h3 with rfl | h3
      · simp only [mayB, Bool.and_eq_true] at h
        refine .inr ⟨f, p, o, ho, h.1.2, ?_, h.1.1.1.2, hw⟩
        intro hf
        have := h.1.1.2
        rw [hf] at this
        simpa using this
      · exact .inl h3
    · exact .inr h3
theorem looksIn_mem {D : List Nat} {j : Nat} {o : Oper} (h : looksIn l n D j = true) (ho : l[j]? = some o) : ∀ i t, i < n → (l[i]?).bind (·.dst) = some t → t ∈ o.looksAt l.toArray → i ∈ D := by
  intro i t hi ht hl
  unfold looksIn at h
  rw [ho] at h
  simp only [List.all_eq_true, List.mem_range] at h
  have := h i hi
  rw [ht] at this
  simpa [hl] using this
theorem Waits.put {D : List Nat} {a' : Act} {w w2 : World} {j i : Nat} {o : Oper} {v : Value} (hG : ∀ a b c, G a b → G b c → G a c) (hd : dstsOk l n = true) (h : Waits rd P l n G D a' w j) (hj : j ∈ D) (hjn : j < n) (hi : i < n) (hiD : i ∉ D) (ho : l[i]? = some o) (hw : rd j = true → G w w2) :
    Waits rd P l n G (i :: D) (a'.put o.dst v) w2 j := by
  obtain ⟨oj, b, u, h1, h2, h3, h4, h5, h6⟩ := h.out
  refine ⟨oj, b, u, h1, by rw [put_size]; exact h2, fun t ht => ?_, fun t ht => ?_, fun k t hk hkt hl => List.mem_cons_of_mem _ (h5 k t hk hkt hl), fun w' hw' => h6 w' (fun hr => hG _ _ _ (hw hr) (hw' hr))⟩
  · rw [put_slot (fun e => hiD (h5 i t hi (by rw [ho]; exact e) ht))]
    exact h3 t ht
  · rw [put_slot (fun e => ?_)]
    · exact h4 t ht
    · exact hiD (dsts_inj hd hjn hi (by rw [h1]; exact ht) (by rw [ho]; exact e) ▸ hj)
/-- The invariant of the simulation. -/
structure Sim (rd : Nat → Bool) (P : Program) (l : List Oper) (n : Nat) (G : World → World → Prop) (Q : Exit → Act → World → Prop) (sz : Nat) (p : Plan) (D : List Nat) (listed : Array Bool) (a a' : Act) (w : World) : Prop where
  ok : planOk rd l n p D [] = true
  inD : ∀ i, i < n → listed.getD i true = true → i ∈ D
  lt : ∀ i, i ∈ D → i < n
  size : a'.tmps.size = sz
  beside : Beside l D listed a a'
  waits : ∀ j, j ∈ D → listed.getD j true = false → Waits rd P l n G D a' w j
  run : RunP rd P l n G Q p a' w
def Plan.isRead : Plan → Bool
  | .read _ _ => true
  | _ => false
/-- The reads that the plan takes at once. -/
theorem Sim.strip (sz : Nat) (hG : ∀ a b c, G a b → G b c → G a c) (hrefl : ∀ a, G a a) (hd : dstsOk l n = true) (hdst : ∀ j o, j < n → l[j]? = some o → ∀ t, o.dst = some t → t < sz) {listed : Array Bool} {a : Act} {w : World} :
    ∀ (p : Plan) (D : List Nat) (a' : Act), Sim rd P l n G Q sz p D listed a a' w → ∃ p' D' a'', p'.isRead = false ∧ Sim rd P l n G Q sz p' D' listed a a'' w := by
  intro p
  induction p with
  | tail => intro D a' h; exact ⟨_, D, a', rfl, h⟩
  | none => intro D a' h; exact ⟨_, D, a', rfl, h⟩
  | call f j p q _ _ => intro D a' h; exact ⟨_, D, a', rfl, h⟩
  | read j p ih =>
    intro D a' h
    obtain ⟨o, v, ho, hrd, hrun⟩ := h.run
    have hok := h.ok
    simp only [planOk, mayB, Bool.and_eq_true, decide_eq_true_eq, Bool.not_eq_true', List.contains_eq_mem, decide_eq_false_iff_not] at hok
    obtain ⟨⟨_, ⟨⟨hjn, hjD⟩, _⟩, hlk⟩, hok2⟩ := hok
    have hjl : listed.getD j true = false := by
      cases hb : listed.getD j true with
      | false => rfl
      | true => exact absurd (h.inD j hjn hb) hjD
    refine ih (j :: D) (a'.put o.dst v) ⟨hok2, fun i hi hl => List.mem_cons_of_mem _ (h.inD i hi hl), fun i hi => ?_, by rw [put_size]; exact h.size, ⟨?_, ?_, ?_⟩, ?_, hrun⟩
    · rcases List.mem_cons.1 hi with rfl | hi
      · exact hjn
      · exact h.lt i hi
    · rw [put_defers']; exact h.beside.defers
    · rw [put_size]; exact h.beside.size
    · intro t ht
      have h0 := ht j List.mem_cons_self hjl
      rw [ho] at h0
      rw [put_slot (by simpa using h0)]
      exact h.beside.slots t fun q hq hl => ht q (List.mem_cons_of_mem _ hq) hl
    · intro q hq hl
      rcases List.mem_cons.1 hq with rfl | hq
      · refine ⟨o, a', v, ho, by rw [put_size], fun t ht => ?_, fun t ht => ?_, fun i t hi hit hl => List.mem_cons_of_mem _ (looksIn_mem hlk ho i t hi hit hl), hrd⟩
        · rw [put_slot]
          intro e
          exact hjD (looksIn_mem hlk ho q t hjn (by rw [ho]; exact e) ht)
        · rw [ht]
          exact put_own (by rw [h.size]; exact hdst q o hjn ho t ht)
      · exact (h.waits q hq hl).put hG hd hq (h.lt q hq) hjn hjD ho (fun _ => hrefl w)
theorem Beside.eq {D : List Nat} {listed : Array Bool} {a a' : Act} (h : Beside l D listed a a') (hall : ∀ i, i ∈ D → listed.getD i true = true) : a = a' := by
  have ht : a.tmps = a'.tmps := by
    apply Array.ext_getElem?
    intro t
    exact h.slots t fun j hj hl => by rw [hall j hj] at hl; cases hl
  have hdf := h.defers
  cases a
  cases a'
  simp only at ht hdf
  rw [ht, hdf]
theorem Sim.all (sz : Nat) {p : Plan} {D : List Nat} {listed : Array Bool} {a a' : Act} {w : World} (h : Sim rd P l n G Q sz p D listed a a' w) (hr : p.isRead = false) (hall : ∀ i, i < n → listed.getD i true = true) :
    wpList P l.toArray Q (l.drop n) a w := by
  have haa := h.beside.eq (fun i hi => hall i (h.lt i hi))
  have hok := h.ok
  have hrun := h.run
  cases p with
  | tail => rw [haa]; exact hrun
  | none => simp [planOk] at hok
  | read j p => cases hr
  | call f j p q =>
    exfalso
    simp only [planOk, mayB, Bool.and_eq_true, decide_eq_true_eq, Bool.not_eq_true', List.contains_eq_mem, decide_eq_false_iff_not] at hok
    exact hok.1.1.1.1.1.2 (h.inD j hok.1.1.1.1.1.1 (hall j hok.1.1.1.1.1.1))
theorem listed_set {listed : Array Bool} {i : Nat} (hi : i < listed.size) (q : Nat) : (listed.setIfInBounds i true).getD q true = if q = i then true else listed.getD q true := by
  by_cases hq : q = i
  · subst hq; simp [Array.getD, hi]
  · rw [if_neg hq, getD_set_ne true (Ne.symm hq)]
theorem Closed.set {listed : Array Bool} (hcl : Closed l listed) {i : Nat} {o : Oper} (hi : i < listed.size) (ho : l[i]? = some o) (hall : ∀ e ∈ o.after, Region.binds .any e = true → listed.getD e.on false = true) : Closed l (listed.setIfInBounds i true) := by
  intro j o' ho' hj e he hb
  rw [listed_set hi] at hj
  by_cases hji : j = i
  · subst hji
    rw [ho] at ho'
    rw [← Option.some.inj ho'] at he
    exact getD_set_true (hall e he hb)
  · rw [if_neg hji] at hj
    exact getD_set_true (hcl j o' ho' hj e he hb)
theorem count_less {listed : Array Bool} {j m : Nat} (hj : j < n) (hjl : j < listed.size) (hu : listed.getD j true = false) (hm : ((List.range n).filter fun i => !listed.getD i true).length ≤ m + 1) :
    ((List.range n).filter fun i => !(listed.setIfInBounds j true).getD i true).length ≤ m := by
  have h1 := filter_less (fun i => !listed.getD i true) j (List.range n) List.nodup_range (List.mem_range.2 hj) (by simpa using hu)
  have h2 : ((List.range n).filter fun i => !(listed.setIfInBounds j true).getD i true) = ((List.range n).filter fun i => (!listed.getD i true) && (i != j)) := by
    apply List.filter_congr
    intro i _
    rw [listed_set hjl]
    by_cases hij : i = j <;> simp [hij]
  rw [h2]
  omega
theorem getD_false {listed : Array Bool} {i : Nat} (h : listed.getD i false = true) : i < listed.size ∧ listed.getD i true = true := by
  rcases Nat.lt_or_ge i listed.size with hl | hl
  · exact ⟨hl, by rw [Array.getD, dif_pos hl] at h ⊢; exact h⟩
  · rw [Array.getD, dif_neg (by omega)] at h; cases h
/-- **The simulation.** -/
theorem wpAny_plan (sz : Nat) (hG : ∀ a b c, G a b → G b c → G a c) (hrefl : ∀ a, G a a)
    (hsel : Region.noSelect l.toArray = true) (hnl : n ≤ l.length) (hd : dstsOk l n = true)
    (hpre : ∀ j o, j < n → l[j]? = some o → looksOk l n j o = true ∧ (∀ e ∈ o.after, Region.binds .any e = true → e.on < j) ∧ ∀ t, o.dst = some t → t < sz)
    (hf : ∀ j o, n ≤ j → l[j]? = some o → (∀ i, i < j → anc l l.length j i = true) ∧ ∀ e ∈ o.after, Region.binds .any e = true → e.on < j) :
    ∀ (fuel : Nat) (p : Plan) (D : List Nat) (listed : Array Bool) (a a' : Act) (w : World), ((List.range n).filter fun i => !listed.getD i true).length + (l.length - n) ≤ fuel → listed.size = l.length → Closed l listed →
      (∀ i, n ≤ i → i < l.length → listed.getD i true = false) → Sim rd P l n G Q sz p D listed a a' w → wpAny P .any l.toArray Q fuel listed a w := by
  have hdst : ∀ j o, j < n → l[j]? = some o → ∀ t, o.dst = some t → t < sz := fun j o hj ho => (hpre j o hj ho).2.2
  intro fuel
  induction fuel with
  | zero =>
    intro p D listed a a' w hfu hsz hcl hun hS
    obtain ⟨p, D, a', hnr, hS⟩ := Sim.strip sz hG hrefl hd hdst p D a' hS
    have hall : ∀ i, i < n → listed.getD i true = true := by
      intro i hi
      have := List.eq_nil_of_length_eq_zero (show ((List.range n).filter fun i => !listed.getD i true).length = 0 by omega)
      rw [List.filter_eq_nil_iff] at this
      simpa using this i (List.mem_range.2 hi)
    exact wpAny_tail hf (l.length - n) n 0 listed a w (Nat.le_refl _) (by omega) (by omega) hsz hcl hall hun (hS.all sz hnr hall)
  | succ fuel ihf =>
    intro p D listed a a' w hfu hsz hcl hun hS
    obtain ⟨p, D, a', hnr, hS⟩ := Sim.strip sz hG hrefl hd hdst p D a' hS
    by_cases hall : ∀ i, i < n → listed.getD i true = true
    · refine wpAny_tail hf (l.length - n) n (fuel + 1) listed a w (Nat.le_refl _) (by omega) ?_ hsz hcl hall hun (hS.all sz hnr hall)
      omega
    have hex : ∃ i, i < n ∧ listed.getD i true = false := by
      by_cases h : ∃ i, i < n ∧ listed.getD i true = false
      · exact h
      · refine absurd (fun i hi => ?_) hall
        cases hb : listed.getD i true with
        | true => rfl
        | false => exact absurd ⟨i, hi, hb⟩ h
    refine ⟨fun hnil => ?_, fun j hj => ?_⟩
    · -- something is left, so something is ready: the least of what is left
      exfalso
      obtain ⟨i, hi, hiu⟩ := hex
      have : ∀ k, ∀ i, i < k → i < n → listed.getD i true = true := by
        intro k
        induction k with
        | zero => intro i hi; omega
        | succ k ihk =>
          intro i hi hin
          by_cases hik : i < k
          · exact ihk i hik hin
          · have : i = k := by omega
            subst this
            rcases Bool.eq_false_or_eq_true (listed.getD i true) with h | h
            · exact h
            · exfalso
              have hil : i < l.length := by omega
              have : i ∈ Region.ready .any l.toArray listed := by
                rw [mem_ready]
                refine ⟨h, l[i], by simp [hil], fun e he hb => ?_⟩
                have hlt := (hpre i l[i] hin (List.getElem?_eq_getElem hil)).2.1 e he hb
                have := ihk e.on hlt (by omega)
                rw [Array.getD, dif_pos (show e.on < listed.size by omega)] at this ⊢
                exact this
              rw [hnil] at this
              cases this
      rw [this (i + 1) i (by omega) hi] at hiu
      cases hiu
    · obtain ⟨hu, o, ho, hpred⟩ := mem_ready.1 hj
      have ho' : l[j]? = some o := by simpa using ho
      have hjl : j < l.length := by simpa using (Array.getElem?_eq_some_iff.1 ho).1
      have hjs : j < listed.size := by omega
      have hjn : j < n := by
        rcases Nat.lt_or_ge j n with h | h
        · exact h
        · exfalso
          obtain ⟨i, hi, hiu⟩ := hex
          have := anc_listed hcl l.length j i (fun o' ho'' e he hb => by
            rw [ho'] at ho''; rw [← Option.some.inj ho''] at he; exact hpred e he hb) ((hf j o h ho').1 i (by omega))
          rw [(getD_false this).2] at hiu; cases hiu
      obtain ⟨hlook, hedge, hdj⟩ := hpre j o hjn ho'
      have hanc : ∀ q, anc l n j q = true → listed.getD q true = true := fun q hq => (getD_false (anc_listed hcl n j q (fun o' ho'' e he hb => by
          rw [ho'] at ho''; rw [← Option.some.inj ho''] at he; exact hpred e he hb) hq)).2
      have hlooks : ∀ t, t ∈ o.looksAt l.toArray → a.tmps[t]? = a'.tmps[t]? := by
        intro t htl
        refine hS.beside.slots t fun i hi hiu hit => ?_
        unfold looksOk at hlook
        rw [List.all_eq_true] at hlook
        have := hlook i (List.mem_range.2 (hS.lt i hi))
        rw [hit] at this
        simp only [Bool.or_eq_true, Bool.not_eq_true', List.contains_eq_mem, decide_eq_false_iff_not] at this
        rcases this with h | h
        · exact absurd htl h
        · rw [hanc i h] at hiu; cases hiu
      have hcnt := count_less (m := fuel - (l.length - n)) hjn hjs hu (by omega)
      have hpos : 0 < ((List.range n).filter fun i => !listed.getD i true).length := by
        refine List.length_pos_of_mem (a := j) ?_
        rw [List.mem_filter]
        exact ⟨List.mem_range.2 hjn, by simpa using hu⟩
      have hcl' := hcl.set hjs ho' hpred
      have hun' : ∀ i, n ≤ i → i < l.length → (listed.setIfInBounds j true).getD i true = false := fun i hi hil => by
        rw [listed_set hjs, if_neg (by omega)]
        exact hun i hi hil
      by_cases hjD : j ∈ D
      · -- the plan has taken it already
        obtain ⟨o2, b, v, h1, h2, h3, h4, h5, h6⟩ := (hS.waits j hjD hu).out
        obtain rfl : o2 = o := by rw [ho'] at h1; exact (Option.some.inj h1).symm
        refine step_at hsel ho' (fun t ht => (hlooks t ht).trans (h3 t ht).symm) (fun e a w h => by cases e <;> first | rfl | exact h.elim) (fun a w h => h.1) (h6 w (fun _ => hrefl w)) fun u w'' hu' => ?_
        obtain ⟨rfl, huv⟩ := rv_value (fun t ht => by rw [h2, hS.size]; exact hdj t ht) hu'
        rw [put_none_eq huv]
        refine ihf p D _ _ a' _ (by omega) (by simpa using hsz) hcl' hun' ⟨hS.ok, fun i hi hl => ?_, hS.lt, hS.size, ⟨?_, ?_, ?_⟩, fun q hq hl => ?_, hS.run⟩
        · rw [listed_set hjs] at hl
          by_cases hij : i = j
          · subst hij; exact hjD
          · rw [if_neg hij] at hl; exact hS.inD i hi hl
        · rw [put_defers']; exact hS.beside.defers
        · rw [put_size]; exact hS.beside.size
        · intro t ht
          by_cases hot : o2.dst = some t
          · rw [h4 t hot, hot]
            exact put_own (by rw [hS.beside.size, hS.size]; exact hdj t hot)
          · rw [put_slot hot]
            refine hS.beside.slots t fun q hq hl => ?_
            by_cases hqj : q = j
            · subst hqj; rw [ho']; exact hot
            · exact ht q hq (by rw [listed_set hjs, if_neg hqj]; exact hl)
        · rw [listed_set hjs] at hl
          by_cases hqj : q = j
          · subst hqj; simp at hl
          · rw [if_neg hqj] at hl; exact hS.waits q hq hl
      · -- it turns the world
        have hready : readyB l D j = true := by
          unfold readyB
          rw [ho']
          simp only
          rw [Array.all_eq_true_iff_forall_mem]
          intro e he
          cases hb : Region.binds .any e with
          | false => rfl
          | true =>
            have := (getD_false (hpred e he hb)).2
            have := hS.inD e.on (Nat.lt_trans (hedge e he hb) hjn) this
            simp [this]
        have halt := alt_at p D [] a' w hS.ok hS.run (by
          have hok := hS.ok
          cases p with
          | tail =>
            exfalso
            simp only [planOk, Bool.and_eq_true, List.all_eq_true, List.mem_range] at hok
            have := hok.2 j hjn
            simp at this
            exact hjD this
          | none => simp [planOk] at hok
          | read j p => cases hnr
          | call f j p q => exact .inr ⟨_, _, _, _, rfl⟩) j hjn hjD hready
        rcases halt with halt | ⟨f, p', o2, h1, hok', hfree, hlk, hw⟩
        · cases halt
        obtain rfl : o2 = o := by rw [ho'] at h1; exact (Option.some.inj h1).symm
        refine step_at hsel ho' hlooks (fun e a w h => by cases e <;> first | rfl | exact h.elim) (fun a w h => h.1) hw fun u w'' hu' => ?_
        obtain ⟨_, hgw, hrun⟩ := hu'
        refine ihf p' (j :: D) _ _ _ _ (by omega) (by simpa using hsz) hcl' hun' ⟨hok', fun i hi hl => ?_, fun i hi => ?_, by rw [put_size]; exact hS.size, ⟨?_, ?_, ?_⟩, fun q hq hl => ?_, hrun⟩
        · rw [listed_set hjs] at hl
          by_cases hij : i = j
          · subst hij; exact List.mem_cons_self
          · rw [if_neg hij] at hl; exact List.mem_cons_of_mem _ (hS.inD i hi hl)
        · rcases List.mem_cons.1 hi with rfl | hi
          · exact hjn
          · exact hS.lt i hi
        · rw [put_defers', put_defers']; exact hS.beside.defers
        · rw [put_size, put_size]; exact hS.beside.size
        · intro t ht
          by_cases hot : o2.dst = some t
          · rw [hot, put_own (by rw [hS.beside.size, hS.size]; exact hdj t hot), put_own (by rw [hS.size]; exact hdj t hot)]
          · rw [put_slot hot, put_slot hot]
            refine hS.beside.slots t fun q hq hl => ?_
            have hqj : q ≠ j := fun e => hjD (e ▸ hq)
            exact ht q (List.mem_cons_of_mem _ hq) (by rw [listed_set hjs, if_neg hqj]; exact hl)
        · rw [listed_set hjs] at hl
          by_cases hqj : q = j
          · subst hqj; simp at hl
          · rw [if_neg hqj] at hl
            rcases List.mem_cons.1 hq with h | hq
            · exact absurd h hqj
            · cases f with
              | true =>
                rcases hfree rfl q hq with hf1 | hf1
                · rw [hanc q hf1] at hl; cases hl
                · exact (hS.waits q hq hl).put hG hd hq (hS.lt q hq) hjn hjD ho' (fun hr => by rw [hf1] at hr; cases hr)
              | false => exact (hS.waits q hq hl).put hG hd hq (hS.lt q hq) hjn hjD ho' (fun _ => hgw rfl)
end
section
variable {P : Program} {l : List Oper} {Q : Exit → Act → World → Prop}
/-- **The law for a region that draws its order**: 'plan' is one order of its first n operations. -/
theorem wp_region_plan {id : Nat} {rd : Nat → Bool} {a0 : Act} {w0 : World} (G : World → World → Prop) (plan : Plan) (n : Nat) (hm : P.follows .mixedOrders = true) (hB : factsB l n a0.tmps.size = true) (hP : planOk rd l n plan [] [] = true)
    (hr : ∀ a, G a a) (hG : ∀ a b c, G a b → G b c → G a c)
    (h : RunP rd P l n G Q plan a0 w0.drew) : (Code.region id l.toArray true).wp P Q a0 w0 := by
  unfold factsB at hB
  simp only [Bool.and_eq_true] at hB
  obtain ⟨⟨⟨⟨h1, h2⟩, h3⟩, h4⟩, h5⟩ := hB
  have h2' : n ≤ l.length := of_decide_eq_true h2
  rw [List.all_eq_true] at h4 h5
  refine wp_region_any hm (wpAny_plan a0.tmps.size hG hr h1 h2' h3 ?_ ?_ _ plan [] _ a0 a0 _ ?_ (by simp) ?_ ?_ ⟨hP, ?_, ?_, rfl, ⟨rfl, rfl, fun _ _ => rfl⟩, ?_, h⟩)
  · intro j o hj ho
    have := h4 j (List.mem_range.2 hj)
    rw [ho] at this
    simp only [Bool.and_eq_true] at this
    obtain ⟨⟨ha, hb⟩, hc⟩ := this
    refine ⟨ha, fun e he hb' => ?_, fun t ht' => ?_⟩
    · have := Array.all_eq_true_iff_forall_mem.1 hb e he
      simpa [hb'] using this
    · rw [ht'] at hc
      simpa using hc
  · intro j o hj ho
    have hjl : j < l.length := (List.getElem?_eq_some_iff.1 ho).1
    have := h5 j (List.mem_range.2 hjl)
    rw [ho] at this
    simp only [Bool.or_eq_true, decide_eq_true_eq, Bool.and_eq_true] at this
    rcases this with h | ⟨ha, hb⟩
    · omega
    · refine ⟨fun i hi => ?_, fun e he hb' => ?_⟩
      · rw [List.all_eq_true] at ha
        exact ha i (List.mem_range.2 hi)
      · have := Array.all_eq_true_iff_forall_mem.1 hb e he
        simpa [hb'] using this
  · have : ((List.range n).filter fun i => !(Array.replicate l.toArray.size false).getD i true).length ≤ n := by
      refine Nat.le_trans (List.length_filter_le _ _) ?_
      simp
    simp only [List.size_toArray] at this ⊢
    omega
  · intro j o ho hj
    have hjl : j < l.length := (List.getElem?_eq_some_iff.1 ho).1
    simp [Array.getD, hjl] at hj
  · intro i hi hil
    simp [Array.getD, hil]
  · intro i hi hl
    simp [Array.getD, show i < l.length by omega] at hl
  · intro i hi; cases hi
  · intro i hi; cases hi
end
section
variable {rd : Nat → Bool} {P : Program} {l : List Oper} {n : Nat} {Q : Exit → Act → World → Prop} {G : World → World → Prop} {p q : Plan} {a : Act} {w : World} {j : Nat} {o : Oper} {v : Value}
theorem run_call1 (ho : l[j]? = some o) (h : wpList P l.toArray (Nx G w a.defers (RunP rd P l n G Q p)) [o] a w) (k : RunP rd P l n G Q q a w) : RunP rd P l n G Q (.call false j p q) a w := by
  have e : (fun w w' : World => false = false → G w w') = G := by funext w w'; simp
  exact ⟨⟨o, ho, by rw [e]; exact h⟩, k⟩
theorem run_free (ho : l[j]? = some o) (h : wpList P l.toArray (Nx (fun _ _ => True) w a.defers (RunP rd P l n G Q p)) [o] a w) (k : RunP rd P l n G Q q a w) : RunP rd P l n G Q (.call true j p q) a w := by
  have e : (fun w w' : World => true = false → G w w') = fun _ _ => True := by funext w w'; simp
  exact ⟨⟨o, ho, by rw [e]; exact h⟩, k⟩
theorem run_none : RunP rd P l n G Q .none a w := trivial
theorem run_tail {r : List Oper} (hr : l.drop n = r) (h : wpList P l.toArray Q r a w) : RunP rd P l n G Q .tail a w := by subst hr; exact h
theorem nx_done {ds : List Deferred} {K : Act → World → Prop} {a' : Act} {w' : World} (h1 : a'.defers = ds) (h2 : G w w') (h3 : K a' w') : Nx G w ds K .normal a' w' := ⟨h1, h2, h3⟩
end
theorem Quiet.trans {a b c : World} (h : Quiet a b) (k : Quiet b c) : Quiet a c := by obtain ⟨q, rfl⟩ := h; obtain ⟨p, rfl⟩ := k; exact ⟨q + p, by rw [World.drewN_drewN]⟩
theorem quiet_drew {w : World} : Quiet w w.drew := ⟨1, rfl⟩
/-- Behind an operation that leaves the world alone: this frame. -/
def Is (a' : Act) (w' : World) (ds : List Deferred) : Exit → Act → World → Prop
  | .normal, a'', w'' => a'' = a' ∧ w'' = w' ∧ a''.defers = ds
  | _, _, _ => False
theorem is_put {P : Program} {ops : Array Oper} {o : Oper} {a a' : Act} {w : World} (h : wpList P ops (Is a' w a.defers) [o] a w) : ∃ u, a' = a.put o.dst u := by
  unfold wpList at h
  split at h
  · rcases h with h | ⟨_, _, _, hout⟩
    case inr => exact hout.elim
    unfold Oper.wp at h
    generalize (execOp a.eval o).run P w = r at h
    cases r with
    | ok x w' =>
      cases x <;> simp only [Oper.upon] at h
      case value u => exact ⟨u, h.1.symm⟩
      case skip => exact ⟨undef, h.1.symm⟩
      case defer d =>
        exfalso
        have h1 := h.2.2
        rw [put_defers'] at h1
        have := congrArg List.length h1
        simp at this
      case enter g args =>
        obtain ⟨e, w', fr, hp, _⟩ := h []
        cases e with
        | returned u => exact ⟨u, hp.1.symm⟩
        | panicked c => exact hp.elim
        | outgrown => obtain ⟨_, _, h⟩ := hp; exact h.elim
      case row g args =>
        obtain ⟨v, w', hp, _⟩ := h (Frame.ofRow P g args .normal) []
        exact ⟨v, hp.1.symm⟩
    | halt x w' => cases x <;> simp only [Oper.upon] at h <;> exact h.elim
  · exact ⟨undef, h.1.symm⟩
theorem put_get (a : Act) (d : Option Tmp) (u : Value) : a.put d (match d with | some t => (a.put d u).tmps.getD t undef | none => undef) = a.put d u := by
  cases d with
  | none => rfl
  | some t =>
    by_cases ht : t < a.tmps.size
    · have : (a.put (some t) u).tmps.getD t undef = u := by
        simp only [Array.getD_eq_getD_getElem?]
        rw [put_own ht]; rfl
      simp only [this]
    · have : ∀ v, a.tmps.setIfInBounds t v = a.tmps := fun v => by
        apply Array.ext_getElem?
        intro i
        by_cases hi : t = i
        · subst hi
          rw [Array.getElem?_eq_none (by simpa using Nat.le_of_not_lt ht), Array.getElem?_eq_none (Nat.le_of_not_lt ht)]
        · rw [Array.getElem?_setIfInBounds_ne hi]
      simp only [Act.put, this]
theorem wpList_one_mono {P : Program} {ops : Array Oper} {o : Oper} {a : Act} {w : World} {R R' : Exit → Act → World → Prop} (hR : ∀ e a w, R e a w → e = .normal) (h : ∀ u w', R .normal (a.put o.dst u) w' → R' .normal (a.put o.dst u) w') (hd : ∀ a' w', R .normal a' w' → a'.defers = a.defers) (hw : wpList P ops R [o] a w) : wpList P ops R' [o] a w := by
  have no : ∀ e a w, R e a w → e ≠ .normal → False := fun e a w h hn => hn (hR e a w h)
  unfold wpList at hw ⊢
  split
  · rename_i hw'
    rw [if_pos hw'] at hw
    rcases hw with hw | ⟨_, _, _, hout⟩
    case inr => exact (no _ _ _ hout (by simp)).elim
    refine .inl ?_
    unfold Oper.wp at hw ⊢
    generalize (execOp a.eval o).run P w = r at hw ⊢
    cases r with
    | ok x w' =>
      cases x <;> simp only [Oper.upon] at hw ⊢
      case value u => exact h u w' hw
      case skip => exact h undef w' hw
      case defer d =>
        exfalso
        have h1 := hd _ _ hw
        rw [put_defers'] at h1
        have := congrArg List.length h1
        simp at this
      case enter g args =>
        refine Calls.mono hw fun e w'' he => ?_
        cases e with
        | returned u => exact h u w'' he
        | panicked c => exact (no _ _ _ he (by simp)).elim
        | outgrown => obtain ⟨_, _, h⟩ := he; exact (no _ _ _ h (by simp)).elim
      case row g args => exact Rows.mono hw fun u w'' hu' => h u w'' hu'
    | halt x w' => cases x <;> simp only [Oper.upon] at hw ⊢ <;> first | exact hw.elim | exact (no _ _ _ hw (by simp)).elim
  · rename_i hw'
    rw [if_neg hw'] at hw
    exact h undef w hw
section
variable {rd : Nat → Bool} {P : Program} {l : List Oper} {n : Nat} {Q : Exit → Act → World → Prop} {G : World → World → Prop} {p q : Plan} {a : Act} {w : World} {j : Nat} {o : Oper}
/-- a read: the frame behind it, as the walk writes it -/
theorem run_readI (ho : l[j]? = some o) (hg : G w w) {a' : Act} (h : ∀ w', G w w' → wpList P l.toArray (Is a' w' a.defers) [o] a w') (k : RunP (fun _ => true) P l n G Q p a' w) : RunP (fun _ => true) P l n G Q (.read j p) a w := by
  obtain ⟨u, rfl⟩ := is_put (h w hg)
  refine ⟨o, match o.dst with | some t => (a.put o.dst u).tmps.getD t undef | none => undef, ho, fun w' hw' => ?_, by rw [put_get]; exact k⟩
  refine wpList_one_mono (fun e a w h => by cases e <;> first | rfl | exact h.elim) (fun v w'' hv => ⟨hv.2.2, hv.2.1, ?_⟩) (fun a' w' h => h.2.2) (h w' (hw' rfl))
  have e : a.put o.dst v = a.put o.dst u := hv.1
  rw [e]
  cases o.dst <;> rfl
theorem is_done {a' : Act} {w' : World} : Is a' w' a'.defers .normal a' w' := ⟨rfl, rfl, rfl⟩
end
section
variable {P : Program} {l : List Oper} {Q : Exit → Act → World → Prop}
theorem wp_region_planG {id : Nat} {a0 : Act} {w0 : World} (G : World → World → Prop) (plan : Plan) (n : Nat) (hm : P.follows .mixedOrders = true) (hB : factsB l n a0.tmps.size = true) (hP : planOk (fun _ => true) l n plan [] [] = true)
    (hr : ∀ a, G a a) (hG : ∀ a b c, G a b → G b c → G a c) (R : World → World → Prop) (hR : R w0 w0.drew)
    (h : ∀ w1, R w0 w1 → RunP (fun _ => true) P l n G Q plan a0 w1) : (Code.region id l.toArray true).wp P Q a0 w0 :=
  wp_region_plan G plan n hm hB hP hr hG (h _ hR)
theorem wp_region_planR {id : Nat} (rd : Nat → Bool) {a0 : Act} {w0 : World} (G : World → World → Prop) (plan : Plan) (n : Nat) (hm : P.follows .mixedOrders = true) (hB : factsB l n a0.tmps.size = true) (hP : planOk rd l n plan [] [] = true)
    (hr : ∀ a, G a a) (hG : ∀ a b c, G a b → G b c → G a c) (R : World → World → Prop) (hR : R w0 w0.drew)
    (h : ∀ w1, R w0 w1 → RunP rd P l n G Q plan a0 w1) : (Code.region id l.toArray true).wp P Q a0 w0 :=
  wp_region_plan G plan n hm hB hP hr hG (h _ hR)
end
end Go.Proofs.YtnbgieccindpnaaDoor
