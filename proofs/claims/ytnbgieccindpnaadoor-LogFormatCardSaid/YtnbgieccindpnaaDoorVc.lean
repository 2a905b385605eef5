/- Walking a function with the slots kept in a list: laws that know the frame only by what its slots hold. -/
import Derived.Test.YtnbgieccindpnaaDoorPlan
import Derived.Test.YtnbgieccindpnaaDoorLib5
namespace Go.Proofs.YtnbgieccindpnaaDoor
set_option linter.all false
set_option maxRecDepth 20000
open Go
abbrev Env := List (Nat × Value)
def look : Env → Nat → Option Value
  | [], _ => none
  | (k, v) :: r, t => bif Nat.beq k t then some v else look r t
def upd (e : Env) : Option Tmp → Value → Env
  | some d, v => (d, v) :: e
  | none, _ => e
def ev (e : Env) : Operand → Option Value
  | .tmp t => look e t
  | .const v => some v
  | .global g => some (.pointer (some ⟨g, 0, none⟩))
  | .func f => some (.func (.func f) #[] #[])
def evs (e : Env) : List Operand → Option (List Value)
  | [] => some []
  | x :: r => match ev e x, evs e r with
    | some v, some vs => some (v :: vs)
    | _, _ => none
/-- The frame: so many slots, no deferred calls, and what the list says. -/
structure Has (n : Nat) (e : Env) (a : Act) : Prop where
  defers : a.defers = []
  size : a.tmps.size = n
  slot : ∀ t v, look e t = some v → a.tmps[t]? = some v
section
variable {n : Nat} {e : Env} {a : Act}
theorem Has.ev (h : Has n e a) {x : Operand} {v : Value} (hx : ev e x = some v) : a.eval x = v := by
  cases x with
  | tmp t => simp only [Act.eval, Array.getD_eq_getD_getElem?, h.slot t v hx, Option.getD_some]
  | const u => simpa [Go.Proofs.YtnbgieccindpnaaDoor.ev, Act.eval] using hx
  | global g => simpa [Go.Proofs.YtnbgieccindpnaaDoor.ev, Act.eval] using hx
  | func f => simpa [Go.Proofs.YtnbgieccindpnaaDoor.ev, Act.eval] using hx
theorem Has.evs (h : Has n e a) : ∀ {xs : List Operand} {vs : List Value}, evs e xs = some vs → xs.map a.eval = vs
  | [], vs, hx => by simpa [Go.Proofs.YtnbgieccindpnaaDoor.evs] using hx
  | x :: r, vs, hx => by
    unfold Go.Proofs.YtnbgieccindpnaaDoor.evs at hx
    cases h1 : Go.Proofs.YtnbgieccindpnaaDoor.ev e x with
    | none => simp [h1] at hx
    | some v =>
      cases h2 : Go.Proofs.YtnbgieccindpnaaDoor.evs e r with
      | none => simp [h1, h2] at hx
      | some us =>
        simp only [h1, h2, Option.some.injEq] at hx
        subst hx
        simp [h.ev h1, h.evs h2]
def dstB (n : Nat) : Option Tmp → Bool
  | some d => Nat.blt d n
  | none => true
theorem Has.put (h : Has n e a) {d : Option Tmp} (hd : dstB n d = true) (v : Value) : Has n (upd e d v) (a.put d v) := by
  cases d with
  | none => exact h
  | some d =>
    have hlt : d < n := Nat.le_of_ble_eq_true hd
    refine ⟨h.defers, by simpa [Act.put] using h.size, fun t u hu => ?_⟩
    simp only [upd, look] at hu
    by_cases hdt : d = t
    · subst hdt
      rw [show Nat.beq d d = true from Nat.beq_refl d] at hu
      simp only [cond_true, Option.some.injEq] at hu
      subst hu
      simp [Act.put, h.size, hlt]
    · rw [show Nat.beq d t = false from by cases hb : Nat.beq d t with | false => rfl | true => exact absurd (Nat.eq_of_beq_eq_true hb) hdt] at hu
      have h2 := h.slot t u hu
      simp only [Act.put]
      rw [Array.getElem?_setIfInBounds_ne hdt]
      exact h2
/-- All that the first list says the second says too. -/
def Sub : Env → Env → Prop
  | [], _ => True
  | (t, v) :: r, e => look e t = some v ∧ Sub r e
theorem Has.sub (h : Has n e a) : ∀ {e' : Env}, Sub e' e → Has n e' a
  | [], _ => ⟨h.defers, h.size, fun t v hv => by cases hv⟩
  | (k, u) :: r, hs => by
    have ih := h.sub hs.2
    refine ⟨h.defers, h.size, fun t v hv => ?_⟩
    simp only [look] at hv
    cases hb : Nat.beq k t with
    | true =>
      rw [hb] at hv
      simp only [cond_true, Option.some.injEq] at hv
      subst hv
      have := Nat.eq_of_beq_eq_true hb
      subst this
      exact h.slot k u hs.1
    | false => rw [hb] at hv; exact ih.slot t v hv
theorem look_slice {t : Nat} {A : Option Addr} {m m' c : Nat} (h : look e t = some (.slice A m c)) (hm : m = m') : look e t = some (.slice A m' c) := by rw [h, hm]
theorem look_int {t : Nat} {k : IntKind} {x y : Int} (h : look e t = some (.int k x)) (hxy : x = y) : look e t = some (.int k y) := by rw [h, hxy]
end
/-- Behind every frame of the kind. -/
def Wk (n : Nat) (K : Act → World → Prop) (e : Env) (w : World) : Prop := ∀ a, Has n e a → K a w
def Wx (n : Nat) (Q : Exit → Act → World → Prop) (x : Exit) (e : Env) (w : World) : Prop := ∀ a, Has n e a → Q x a w
def Wc (P : Program) (n : Nat) (c : Code) (Q : Exit → Act → World → Prop) (e : Env) (w : World) : Prop := ∀ a, Has n e a → c.wp P Q a w
def Wl (P : Program) (n : Nat) (ops : Array Oper) (Q : Exit → Act → World → Prop) (l : List Oper) (e : Env) (w : World) : Prop := ∀ a, Has n e a → wpList P ops Q l a w
/-- One operation: what it hands back, and the world behind it. -/
def Does (P : Program) (n : Nat) (o : Oper) (e : Env) (w : World) (R : Value → World → Prop) : Prop :=
  ∀ a, Has n e a → ∀ (ops : Array Oper) (Q : Exit → Act → World → Prop) (rest : List Oper), Region.wanted o (yielded ops a.tmps) = true → (∀ v w', R v w' → wpList P ops Q rest (a.put o.dst v) w') → wpList P ops Q (o :: rest) a w
section
variable {P : Program} {n : Nat} {Q : Exit → Act → World → Prop} {e e' : Env} {w : World} {ops : Array Oper} {o : Oper} {rest : List Oper} {K : Act → World → Prop}
theorem Wc.keep (e' : Env) {c : Code} (hs : Sub e' e) (h : Wc P n c Q e' w) : Wc P n c Q e w := fun a ha => h a (ha.sub hs)
theorem Wc.skip (h : Wx n Q .normal e w) : Wc P n .skip Q e w := fun a ha => wp_skip (h a ha)
theorem Wc.label {l : Nat} (h : Wx n Q .normal e w) : Wc P n (.label l) Q e w := fun a ha => wp_label (h a ha)
theorem Wc.exit {id : Nat} (h : Wx n Q (.exit id) e w) : Wc P n (.exit id) Q e w := fun a ha => wp_exit (h a ha)
theorem Wc.ret (h : Wx n Q .ret e w) : Wc P n .ret Q e w := fun a ha => wp_ret (h a ha)
theorem Wc.seq {x y : Code} (h : ∀ K : Act → World → Prop, (∀ e w, Wc P n y Q e w → Wk n K e w) → Wc P n x (Exit.then K Q) e w) : Wc P n (.seq x y) Q e w :=
  fun a ha => wp_seq (h _ (fun _ _ h => h) a ha)
theorem Wc.block {id : Nat} {c : Code} (h : Wc P n c (Exit.inBlock id Q) e w) : Wc P n (.block id c) Q e w := fun a ha => wp_block (h a ha)
theorem Wc.cond {c : Operand} {x y : Code} (t : Bool) (hc : ev e c = some (.bool t)) (ht : t = true → Wc P n x Q e w) (hf : t = false → Wc P n y Q e w) : Wc P n (.cond c x y) Q e w :=
  fun a ha => wp_cond_split (ha.ev hc) (fun h => ht h a ha) (fun h => hf h a ha)
theorem Wc.condT {c : Operand} {x y : Code} {t : Bool} (hc : ev e c = some (.bool t)) (h : t = true) (ht : Wc P n x Q e w) : Wc P n (.cond c x y) Q e w := Wc.cond t hc (fun _ => ht) (fun h' => by rw [h] at h'; cases h')
theorem Wc.condF {c : Operand} {x y : Code} {t : Bool} (hc : ev e c = some (.bool t)) (h : t = false) (hf : Wc P n y Q e w) : Wc P n (.cond c x y) Q e w := Wc.cond t hc (fun h' => by rw [h] at h'; cases h') (fun _ => hf)
/-- A loop: the invariant speaks of what the slots hold and of the world. -/
theorem Wc.loop {c : Code} {ι : Type} (E : ι → Env) (J : ι → World → Prop) (μ : ι → Nat) (i0 : ι) (h0 : Sub (E i0) e) (hJ : J i0 w)
    (round : ∀ i w, J i w → ∀ K : Act → World → Prop, (∀ i' e' w', Sub (E i') e' → J i' w' → μ i' < μ i → Wk n K e' w') → Wc P n c (Exit.then K Q) (E i) w) : Wc P n (.loop c) Q e w := by
  intro a ha
  refine wp_loop_ghost (fun m a w => ∃ i, Has n (E i) a ∧ J i w ∧ μ i = m) (μ i0) ⟨i0, ha.sub h0, hJ, rfl⟩ ?_
  rintro m a w ⟨i, ha, hJ, rfl⟩
  exact round i w hJ _ (fun i' e' w' hs hJ' hlt a' ha' => ⟨μ i', hlt, i', ha'.sub hs, hJ', rfl⟩) a ha
/-! What stands behind a piece of code. -/
theorem Wx.thenN (h : Wk n K e w) : Wx n (Exit.then K Q) .normal e w := h
theorem Wx.thenE {id : Nat} (h : Wx n Q (.exit id) e w) : Wx n (Exit.then K Q) (.exit id) e w := h
theorem Wx.thenR (h : Wx n Q .ret e w) : Wx n (Exit.then K Q) .ret e w := h
theorem Wx.blockN {id : Nat} (h : Wx n Q .normal e w) : Wx n (Exit.inBlock id Q) .normal e w := h
theorem Wx.blockR {id : Nat} (h : Wx n Q .ret e w) : Wx n (Exit.inBlock id Q) .ret e w := h
theorem Wx.hit {id : Nat} (h : Wx n Q .normal e w) : Wx n (Exit.inBlock id Q) (.exit id) e w := fun a ha => by simp only [Exit.inBlock, if_true]; exact h a ha
theorem Wx.miss {id id' : Nat} (hne : Nat.beq id' id = false) (h : Wx n Q (.exit id') e w) : Wx n (Exit.inBlock id Q) (.exit id') e w := fun a ha => by
  have hn : ¬ id' = id := fun hh => by subst hh; rw [Nat.beq_refl] at hne; cases hne
  simp only [Exit.inBlock, if_neg hn]; exact h a ha
theorem nd_true {p : Prop} [Decidable p] (h : (!decide p) = true) : ¬ p := by simpa using h
theorem nd_false {p : Prop} [Decidable p] (h : (!decide p) = false) : p := by simpa using h
/-! Operations. -/
def wantedE (ops : Array Oper) (e : Env) (o : Oper) : Option Bool := match o.guard with
  | none => some true
  | some (j, want) => match (ops[j]?).bind (·.dst) with
    | some t => match look e t with
      | some (.bool b) => some (b == want)
      | some _ => some false
      | none => none
    | none => none
theorem wantedE_spec {a : Act} (ha : Has n e a) {b : Bool} (h : wantedE ops e o = some b) : Region.wanted o (yielded ops a.tmps) = b := by
  unfold wantedE at h
  unfold Region.wanted
  cases hg : o.guard with
  | none => rw [hg] at h; simpa using h
  | some jw =>
    obtain ⟨j, want⟩ := jw
    rw [hg] at h
    simp only [] at h ⊢
    cases hd : (ops[j]?).bind (·.dst) with
    | none => rw [hd] at h; cases h
    | some t =>
      rw [hd] at h
      simp only [] at h
      cases hl : look e t with
      | none => rw [hl] at h; cases h
      | some v =>
        rw [hl] at h
        cases v with
        | bool b' =>
          simp only [Option.some.injEq] at h
          have := ha.slot t _ hl
          simp only [yielded, hd, Option.bind_some, this]
          subst h
          cases b' <;> cases want <;> rfl
        | _ =>
          simp only [Option.some.injEq] at h
          have := ha.slot t _ hl
          simp only [yielded, hd, Option.bind_some, this]
          subst h
          cases want <;> rfl
theorem Wl.nil (h : Wx n Q .normal e w) : Wl P n ops Q [] e w := fun a ha => wpList_nil (h a ha)
theorem Wc.region {id : Nat} {l : List Oper} (h : Wl P n l.toArray Q l e w) : Wc P n (.region id l.toArray false) Q e w := fun a ha => wp_region_lit (h a ha)
/-- an operation with a place for its value -/
theorem Wl.does {d : Nat} {R : Value → World → Prop} (hw : wantedE ops e o = some true) (hd : o.dst = some d) (hlt : Nat.blt d n = true) (hdo : Does P n o e w R)
    (h : ∀ v w', R v w' → Wl P n ops Q rest ((d, v) :: e) w') : Wl P n ops Q (o :: rest) e w := fun a ha =>
  hdo a ha ops Q rest (wantedE_spec ha hw) fun v w' hR => by rw [hd]; exact h v w' hR _ (ha.put (d := some d) hlt v)
/-- an operation without one -/
theorem Wl.acts {R : Value → World → Prop} (hw : wantedE ops e o = some true) (hd : o.dst = none) (hdo : Does P n o e w R)
    (h : ∀ v w', R v w' → Wl P n ops Q rest e w') : Wl P n ops Q (o :: rest) e w := fun a ha =>
  hdo a ha ops Q rest (wantedE_spec ha hw) fun v w' hR => by rw [hd]; exact h v w' hR _ ha
theorem Wl.pass {d : Nat} (hw : wantedE ops e o = some false) (hd : o.dst = some d) (hlt : Nat.blt d n = true) (h : Wl P n ops Q rest ((d, undef) :: e) w) : Wl P n ops Q (o :: rest) e w := fun a ha => by
  unfold wpList
  rw [if_neg (by rw [wantedE_spec ha hw]; simp), hd]
  exact h _ (ha.put (d := some d) hlt undef)
end
/-- One operation that hands back v and leaves the world alone. -/
def Gives (P : Program) (n : Nat) (o : Oper) (e : Env) (w : World) (v : Value) : Prop := Does P n o e w (fun v' w' => v' = v ∧ w' = w)
section
variable {P : Program} {n : Nat} {Q : Exit → Act → World → Prop} {e e' : Env} {w : World} {ops : Array Oper} {o : Oper} {rest : List Oper} {K : Act → World → Prop} {v : Value} {x y : Operand}
theorem Wl.val {d : Nat} (hw : wantedE ops e o = some true) (hd : o.dst = some d) (hlt : Nat.blt d n = true) (hg : Gives P n o e w v)
    (h : Wl P n ops Q rest ((d, v) :: e) w) : Wl P n ops Q (o :: rest) e w :=
  Wl.does hw hd hlt hg (by rintro _ _ ⟨rfl, rfl⟩; exact h)
theorem Gives.run (h : ∀ a, Has n e a → (execOp a.eval o).run P w = .ok (.value v) w) : Gives P n o e w v := fun a ha ops Q rest hw hK => BigFrame.wpList_want hw fun K hk => by
  unfold Oper.wp
  rw [h a ha]
  exact hk _ _ (hK v w ⟨rfl, rfl⟩)
theorem Does.mono {R R' : Value → World → Prop} (h : Does P n o e w R) (hR : ∀ v w', R v w' → R' v w') : Does P n o e w R' := fun a ha ops Q rest hw hK => h a ha ops Q rest hw fun v w' hr => hK v w' (hR v w' hr)
theorem Gives.move (ho : o.op = .move x) (hx : ev e x = some v) : Gives P n o e w v := .run fun a ha => by
  unfold execOp; simp only [ho, ha.ev hx]; rfl
theorem Gives.assign (ho : o.op = .assign x) (hx : ev e x = some v) : Gives P n o e w v := .run fun a ha => by
  unfold execOp; simp only [ho, ha.ev hx]; rfl
section
variable {t t' : TypeId} {k k' : IntKind} {a b r : Int}
theorem Gives.add (ho : o.op = .binOp .add t x y t') (hx : ev e x = some (.int k a)) (hy : ev e y = some (.int k b)) (hr : k.wrap (a + b) = r) : Gives P n o e w (.int k r) := .run fun c hc => by
  unfold execOp; simp only [ho, hc.ev hx, hc.ev hy]; simp [binOp, eqGuard, Op.intArith, hr, go_sem]
theorem Gives.sub (ho : o.op = .binOp .sub t x y t') (hx : ev e x = some (.int k a)) (hy : ev e y = some (.int k b)) (hr : k.wrap (a - b) = r) : Gives P n o e w (.int k r) := .run fun c hc => by
  unfold execOp; simp only [ho, hc.ev hx, hc.ev hy]; simp [binOp, eqGuard, Op.intArith, hr, go_sem]
theorem Gives.mul (ho : o.op = .binOp .mul t x y t') (hx : ev e x = some (.int k a)) (hy : ev e y = some (.int k b)) (hr : k.wrap (a * b) = r) : Gives P n o e w (.int k r) := .run fun c hc => by
  unfold execOp; simp only [ho, hc.ev hx, hc.ev hy]; simp [binOp, eqGuard, Op.intArith, hr, go_sem]
theorem Gives.rem (ho : o.op = .binOp .rem t x y t') (hx : ev e x = some (.int k a)) (hy : ev e y = some (.int k b)) (h0 : b ≠ 0) (hr : a.tmod b = r) : Gives P n o e w (.int k r) := .run fun c hc => by
  unfold execOp; simp only [ho, hc.ev hx, hc.ev hy]; simp [binOp, eqGuard, Op.intDiv, h0, hr, go_sem]
theorem Gives.quo (ho : o.op = .binOp .quo t x y t') (hx : ev e x = some (.int k a)) (hy : ev e y = some (.int k b)) (h0 : b ≠ 0) (hr : k.wrap (a.tdiv b) = r) : Gives P n o e w (.int k r) := .run fun c hc => by
  unfold execOp; simp only [ho, hc.ev hx, hc.ev hy]; simp [binOp, eqGuard, Op.intDiv, h0, hr, go_sem]
theorem Gives.shl (ho : o.op = .binOp .shl t x y t') (hx : ev e x = some (.int k a)) (hy : ev e y = some (.int k' b)) (h0 : 0 ≤ b) (hr : k.wrap (a * 2 ^ (min b.toNat k.bits)) = r) : Gives P n o e w (.int k r) := .run fun c hc => by
  have h1 : ¬ b < 0 := by omega
  unfold execOp; simp only [ho, hc.ev hx, hc.ev hy]; simp [binOp, eqGuard, Op.shift, h1, go_sem]; exact hr
theorem Gives.shr (ho : o.op = .binOp .shr t x y t') (hx : ev e x = some (.int k a)) (hy : ev e y = some (.int k' b)) (h0 : 0 ≤ b) (hr : a.fdiv (2 ^ (min b.toNat k.bits)) = r) : Gives P n o e w (.int k r) := .run fun c hc => by
  have h1 : ¬ b < 0 := by omega
  unfold execOp; simp only [ho, hc.ev hx, hc.ev hy]; simp [binOp, eqGuard, Op.shift, h1, go_sem]; exact hr
theorem Gives.lss (ho : o.op = .binOp .lss t x y t') (hx : ev e x = some (.int k a)) (hy : ev e y = some (.int k b)) : Gives P n o e w (.bool (decide (a < b))) := .run fun c hc => by
  unfold execOp; simp only [ho, hc.ev hx, hc.ev hy]; simp [binOp, eqGuard, Op.intCmp, go_sem]
theorem Gives.leq (ho : o.op = .binOp .leq t x y t') (hx : ev e x = some (.int k a)) (hy : ev e y = some (.int k b)) : Gives P n o e w (.bool (decide (a ≤ b))) := .run fun c hc => by
  unfold execOp; simp only [ho, hc.ev hx, hc.ev hy]; simp [binOp, eqGuard, Op.intCmp, go_sem]
theorem Gives.gtr (ho : o.op = .binOp .gtr t x y t') (hx : ev e x = some (.int k a)) (hy : ev e y = some (.int k b)) : Gives P n o e w (.bool (decide (b < a))) := .run fun c hc => by
  unfold execOp; simp only [ho, hc.ev hx, hc.ev hy]; simp [binOp, eqGuard, Op.intCmp, go_sem]
theorem Gives.geq (ho : o.op = .binOp .geq t x y t') (hx : ev e x = some (.int k a)) (hy : ev e y = some (.int k b)) : Gives P n o e w (.bool (decide (b ≤ a))) := .run fun c hc => by
  unfold execOp; simp only [ho, hc.ev hx, hc.ev hy]; simp [binOp, eqGuard, Op.intCmp, go_sem]
theorem Gives.eql (ho : o.op = .binOp .eql t x y t') (hx : ev e x = some (.int k a)) (hy : ev e y = some (.int k b)) : Gives P n o e w (.bool (decide (a = b))) := .run fun c hc => by
  unfold execOp; simp only [ho, hc.ev hx, hc.ev hy]; simp [binOp, eqGuard, Op.intCmp, go_sem]
  by_cases h : a = b <;> simp [h]
theorem Gives.neq (ho : o.op = .binOp .neq t x y t') (hx : ev e x = some (.int k a)) (hy : ev e y = some (.int k b)) : Gives P n o e w (.bool (!decide (a = b))) := .run fun c hc => by
  unfold execOp; simp only [ho, hc.ev hx, hc.ev hy]; simp [binOp, eqGuard, Op.intCmp, go_sem]
  by_cases h : a = b <;> simp [h]
theorem Gives.bits (op : BinOp) (hop : op = .and ∨ op = .or ∨ op = .xor ∨ op = .andNot) (ho : o.op = .binOp op t x y t') (hx : ev e x = some (.int k a)) (hy : ev e y = some (.int k b)) (hr : bits op k a b = r) : Gives P n o e w (.int k r) := .run fun c hc => by
  subst hr
  rcases hop with rfl | rfl | rfl | rfl <;> (unfold execOp; simp only [ho, hc.ev hx, hc.ev hy]; simp [binOp, eqGuard, Op.intBits, bits, go_sem])
theorem Gives.not (ho : o.op = .unOp .not t x) {b : Bool} (hx : ev e x = some (.bool b)) : Gives P n o e w (.bool (!b)) := .run fun c hc => by
  unfold execOp; simp only [ho, hc.ev hx]; simp [Op.unary, go_sem]
theorem Gives.pick {z : Operand} {b : Bool} (ho : o.op = .pick z x y) (hz : ev e z = some (.bool b)) (hx : ev e x = some v) {u : Value} (hy : ev e y = some u) : Gives P n o e w (if b then v else u) := .run fun c hc => by
  unfold execOp; simp only [ho, hc.ev hz, hc.ev hx, hc.ev hy]; cases b <;> simp [asBool, go_sem]
theorem Gives.extract {j : Nat} {vs : Array Value} (ho : o.op = .extract x j) (hx : ev e x = some (.tuple vs)) (hv : vs[j]? = some v) : Gives P n o e w v := .run fun c hc => by
  unfold execOp; simp only [ho, hc.ev hx]; simp [Instr.extract, hv, go_sem]
end
end
end Go.Proofs.YtnbgieccindpnaaDoor
