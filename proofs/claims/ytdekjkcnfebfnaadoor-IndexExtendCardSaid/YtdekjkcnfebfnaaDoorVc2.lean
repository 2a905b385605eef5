/- Laws over slots kept in a list: memory, calls, regions that draw their order, entry and return. -/
import Derived.Test.YtdekjkcnfebfnaaDoorVc
namespace Go.Proofs.YtdekjkcnfebfnaaDoor
set_option linter.all false
open Go.RowKit
section
variable {P : Program} {n : Nat} {Q : Exit → Act → World → Prop} {e e' : Env} {w : World} {ops : Array Oper} {o : Oper} {rest : List Oper} {K : Act → World → Prop} {v : Value} {x y : Operand}
section
variable {t t' : TypeId} {k k' : IntKind} {a b r : Int}
theorem Gives.conv {kd : IntKind} (ho : o.op = .convert t t' x) (hs : P.underlying t = some (.int k)) (ht : P.underlying t' = some (.int kd)) (hx : ev e x = some (.int k' a)) (hr : kd.wrap a = r) : Gives P n o e w (.int kd r) := .run fun c hc => by
  unfold execOp; simp only [ho, hc.ev hx]; simp [convert, run_underlying hs, run_underlying ht, Conv.intToInt, hr, go_sem]
theorem Gives.lenS {ts : Array TypeId} {el : TypeId} {A : Option Addr} {m c : Nat} (ho : o.op = .call { callee := .builtin .len, args := #[x], argTypes := ts }) (ht : (ts[0]?).bind P.underlying = some (.slice el)) (hx : ev e x = some (.slice A m c)) : Gives P n o e w (.int .i64 (m : Int)) := .run fun q hq => by
  cases h0 : ts[0]? with
  | none => simp [h0] at ht
  | some t0 =>
    have ht' : P.underlying t0 = some (.slice el) := by simpa [h0] using ht
    unfold execOp
    simp only [ho, resolve, Sem.run_bind, Sem.run_pure, Result.andThen_ok, List.map_toArray, List.map_cons, List.map_nil, hq.ev hx, invoke, builtin]
    simp [Builtin.len_, h0, run_underlying ht', goInt]
theorem Gives.lenStr {ts : Array TypeId} {s : ByteArray} (ho : o.op = .call { callee := .builtin .len, args := #[x], argTypes := ts }) (ht : (ts[0]?).bind P.underlying = some .string) (hx : ev e x = some (.string s)) : Gives P n o e w (.int .i64 (s.size : Int)) := .run fun q hq => by
  cases h0 : ts[0]? with
  | none => simp [h0] at ht
  | some t0 =>
    have ht' : P.underlying t0 = some .string := by simpa [h0] using ht
    unfold execOp
    simp only [ho, resolve, Sem.run_bind, Sem.run_pure, Result.andThen_ok, List.map_toArray, List.map_cons, List.map_nil, hq.ev hx, invoke, builtin]
    simp [Builtin.len_, h0, run_underlying ht', goInt]
/-- an element's address: a slice -/
theorem Gives.ixS {el : TypeId} {b off m c i : Nat} {z : Int} (ho : o.op = .indexAddr t x y) (ht : P.underlying t = some (.slice el)) (hsz : (P.info? el).map (·.size) = some 1) (hx : ev e x = some (.slice (some ⟨b, off, none⟩) m c)) (hy : ev e y = some (.int k z)) (hz : z = (i : Int)) (hlt : i < m) :
    Gives P n o e w (.pointer (some ⟨b, off + i, none⟩)) := .run fun q hq => by
  subst hz
  cases hq' : P.info? el with
  | none => simp [hq'] at hsz
  | some f =>
    have hf : f.size = 1 := by simpa [hq'] using hsz
    have h1 : (i : Int) < m := by omega
    unfold execOp
    simp only [ho, hq.ev hx, hq.ev hy]
    simp [Instr.indexAt, asIntOf, run_underlying ht, h1, hlt, sizeOf, typeInfo, hq', hf, Addr.add_lit, go_sem]
    try (intro h; omega)
/-- an element's address: an array behind its address -/
theorem Gives.ixA {el : TypeId} {g off len i : Nat} {z : Int} (ho : o.op = .indexAddr t x y) (ht : P.underlying t = some (.array len el)) (hsz : (P.info? el).map (·.size) = some 1) (hx : ev e x = some (.pointer (some ⟨g, off, none⟩))) (hy : ev e y = some (.int k z)) (hz : z = (i : Int)) (hlt : i < len) :
    Gives P n o e w (.pointer (some ⟨g, off + i, none⟩)) := .run fun q hq => by
  subst hz
  cases hq' : P.info? el with
  | none => simp [hq'] at hsz
  | some f =>
    have hf : f.size = 1 := by simpa [hq'] using hsz
    have h1 : (i : Int) < len := by omega
    unfold execOp
    simp only [ho, hq.ev hx, hq.ev hy]
    simp [Instr.indexAt, asIntOf, run_underlying ht, h1, hlt, sizeOf, typeInfo, hq', hf, Addr.add_lit, Instr.sureAddr, go_sem]
    try (intro h; omega)
/-- one cell read -/
theorem Gives.ldC {p : Addr} (ho : o.op = .load t x) (hd : (match P.underlying t with | some (.struct _) | some (.array _ _) => false | some _ => true | none => false) = true) (hx : ev e x = some (.pointer (some p))) (hc : w.cell? p = some v) : Gives P n o e w v :=
  fun a ha ops Q rest hw hK => wpList_ldC hw t x ho p (ha.ev hx) v hc hd (hK v w ⟨rfl, rfl⟩)
/-- a whole struct or array read -/
theorem Gives.ldB {g : Nat} {tt : TypeId} {cs : Array Value} (ho : o.op = .load t x) (hd : (match P.underlying t with | some (.struct _) | some (.array _ _) => true | _ => false) = true) (hx : ev e x = some (.pointer (some ⟨g, 0, none⟩))) (hi : (P.info? t).map (·.size) = some cs.size) (hg : Blk w g tt cs) : Gives P n o e w (.agg cs) :=
  fun a ha ops Q rest hw hK => wpList_ldB hw t x ho g (ha.ev hx) hg hd hi (hK _ w ⟨rfl, rfl⟩)
end
section
variable {t t' : TypeId} {g : Nat} {cs : Array Value}
/-- a box written whole -/
theorem Does.stB {cells : Array Value} (ho : o.op = .store t x y) (hx : ev e x = some (.pointer (some ⟨g, 0, none⟩))) (hy : ev e y = some (.agg cells)) (hg : Blk w g t' cs) (hi : (P.info? t).map (·.size) = some cells.size) (hold : cs.size = cells.size) (h1 : cells.all (·.oneCell') = true) :
    Does P n o e w (fun _ w' => Blk w' g t' cells ∧ Fr (fun k => k ≠ g) w w') :=
  fun a ha ops Q rest hw hK => wpList_stB hw t x y ho cells (ha.ev hx) (ha.ev hy) hg hi hold h1 fun w' hb hf => hK _ w' ⟨hb, hf⟩
/-- one cell of a box written -/
theorem Does.stC {i : Nat} (ho : o.op = .store t x y) (hx : ev e x = some (.pointer (some ⟨g, i, none⟩))) (hy : ev e y = some v) (hg : Blk w g t' cs) (hi : (P.info? t).map (·.size) = some 1) (hlt : i < cs.size) (h1 : v.oneCell' = true) :
    Does P n o e w (fun _ w' => Blk w' g t' (cs.setIfInBounds i v) ∧ Fr (fun k => k ≠ g) w w') :=
  fun a ha ops Q rest hw hK => wpList_stC hw t x y ho i v (ha.ev hx) (ha.ev hy) hg hi hlt h1 fun w' hb hf => hK _ w' ⟨hb, hf⟩
/-- a new box -/
theorem Does.alB (z : Value) (ho : o.op = .alloc t) (hz : (P.info? t).bind (·.zero) = some z) (hzc : z.cells = cs) :
    Does P n o e w (fun v w' => ∃ g, v = .pointer (some ⟨g, 0, none⟩) ∧ w.heap.size ≤ g ∧ Blk w' g t cs ∧ Ext w w') :=
  fun a ha ops Q rest hw hK => wpList_alB z hw t ho hz hzc fun g w' hg hb hE => hK _ w' ⟨g, rfl, hg, hb, hE⟩
end
theorem Gives.compl {t : TypeId} {k : IntKind} {a r : Int} (ho : o.op = .unOp .xor t x) (hx : ev e x = some (.int k a)) (hr : Go.bits .xor k (if k.signed then -1 else k.max) a = r) : Gives P n o e w (.int k r) := .run fun q hq => by
  subst hr
  unfold execOp; simp only [ho, hq.ev hx]; simp [Op.unary, Op.intBits, Go.bits, go_sem]
theorem Sub.nil {e : Env} : Sub [] e := trivial
theorem Sub.cons {t : Nat} {v : Value} {r e : Env} (h : look e t = some v) (hr : Sub r e) : Sub ((t, v) :: r) e := ⟨h, hr⟩
theorem Wc.loopC {c : Code} {ι : Type} (C : Env) (E : ι → Env) (J : ι → World → Prop) (μ : ι → Nat) (i0 : ι) (h0 : Sub (E i0 ++ C) e) (hJ : J i0 w)
    (round : ∀ i w, J i w → ∀ K : Act → World → Prop, (∀ i' e' w', Sub (E i' ++ C) e' → J i' w' → μ i' < μ i → Wk n K e' w') → Wc P n c (Exit.then K Q) (E i ++ C) w) : Wc P n (.loop c) Q e w :=
  Wc.loop (fun i => E i ++ C) J μ i0 h0 hJ round
theorem Wc.joinC {c d : Code} {ι : Type} (C : Env) (E : ι → Env) (J : ι → World → Prop) (h : ∀ K : Act → World → Prop, (∀ i e' w', Sub (E i ++ C) e' → J i w' → Wk n K e' w') → Wc P n c (Exit.then K Q) e w)
    (h2 : ∀ i w', J i w' → Wc P n d Q (E i ++ C) w') (hC : Sub C e) : Wc P n (.seq c d) Q e w :=
  fun a ha => wp_seq (h _ (fun i e' w' hs hJ a' ha' => h2 i w' hJ a' (ha'.sub hs)) a ha)
theorem Has.put_same {t : Nat} {v : Value} {a : Act} (ha : Has n e a) (hl : look e t = some v) : Has n ((t, v) :: e) a := by
  refine ⟨ha.defers, ha.size, fun s u hs => ?_⟩
  simp only [look] at hs
  cases hb : Nat.beq t s with
  | true =>
    rw [hb] at hs
    simp only [cond_true, Option.some.injEq] at hs
    subst hs
    have := Nat.eq_of_beq_eq_true hb
    subst this
    exact ha.slot t v hl
  | false => rw [hb] at hs; exact ha.slot s u hs
theorem Wl.guard {j t : Nat} {want b : Bool} (hg : o.guard = some (j, want)) (hd : (ops[j]?).bind (·.dst) = some t) (hl : look e t = some (.bool b)) (h1 : b = want → Wl P n ops Q (o :: rest) ((t, .bool want) :: e) w) (h2 : b = (!want) → Wl P n ops Q (o :: rest) ((t, .bool (!want)) :: e) w) : Wl P n ops Q (o :: rest) e w := fun a ha => by
  by_cases hb : b = want
  · exact h1 hb a (ha.put_same (by rw [hl, hb]))
  · have hb2 : b = (!want) := by cases b <;> cases want <;> simp at hb ⊢
    exact h2 hb2 a (ha.put_same (by rw [hl, hb2]))
theorem Wl.guardT {j t : Nat} {want b : Bool} (hg : o.guard = some (j, want)) (hd : (ops[j]?).bind (·.dst) = some t) (hl : look e t = some (.bool b)) (hb : b = want) (h1 : Wl P n ops Q (o :: rest) ((t, .bool want) :: e) w) : Wl P n ops Q (o :: rest) e w :=
  fun a ha => h1 a (ha.put_same (by rw [hl, hb]))
theorem Wl.guardF {j t : Nat} {want b : Bool} (hg : o.guard = some (j, want)) (hd : (ops[j]?).bind (·.dst) = some t) (hl : look e t = some (.bool b)) (hb : b = (!want)) (h1 : Wl P n ops Q (o :: rest) ((t, .bool (!want)) :: e) w) : Wl P n ops Q (o :: rest) e w :=
  fun a ha => h1 a (ha.put_same (by rw [hl, hb]))
theorem u64_in (x : Int) (h : 0 ≤ x ∧ x < 18446744073709551616) : IntKind.u64.wrap x = x := by simp [IntKind.wrap, IntKind.bits, IntKind.signed]; omega
theorem u32_in (x : Int) (h : 0 ≤ x ∧ x < 4294967296) : IntKind.u32.wrap x = x := by simp [IntKind.wrap, IntKind.bits, IntKind.signed]; omega
theorem u8_in (x : Int) (h : 0 ≤ x ∧ x < 256) : IntKind.u8.wrap x = x := by simp [IntKind.wrap, IntKind.bits, IntKind.signed]; omega
theorem u16_in (x : Int) (h : 0 ≤ x ∧ x < 65536) : IntKind.u16.wrap x = x := by simp [IntKind.wrap, IntKind.bits, IntKind.signed]; omega
theorem Gives.shrN {t t' : TypeId} {k k' : IntKind} {a r : Int} (m : Nat) (ho : o.op = .binOp .shr t x y t') (hx : ev e x = some (.int k a)) (hy : ev e y = some (.int k' (m : Int))) (hlt : Nat.ble m k.bits = true) (hr : a / 2 ^ m = r) : Gives P n o e w (.int k r) := by
  have h := Nat.le_of_ble_eq_true hlt
  refine Gives.shr ho hx hy (by omega) ?_
  rw [← hr, Int.toNat_natCast, Nat.min_eq_left h, Int.fdiv_eq_ediv_of_nonneg _ (Int.pow_nonneg (by omega))]
theorem Gives.shlN {t t' : TypeId} {k k' : IntKind} {a r : Int} (m : Nat) (ho : o.op = .binOp .shl t x y t') (hx : ev e x = some (.int k a)) (hy : ev e y = some (.int k' (m : Int))) (hlt : Nat.ble m k.bits = true) (hr : k.wrap (a * 2 ^ m) = r) : Gives P n o e w (.int k r) := by
  have h := Nat.le_of_ble_eq_true hlt
  refine Gives.shl ho hx hy (by omega) ?_
  rw [← hr, Int.toNat_natCast, Nat.min_eq_left h]
/-! Calls. -/
theorem Does.call {f : FuncId} {fn : Func} {xs : Array Operand} {ts : Array TypeId} {vs : List Value} {R : Ending → World → Prop} (ho : o.op = .call { callee := .value (.func f), args := xs, argTypes := ts }) (hf : P.funcs[f]? = some fn) (hb : fn.body.isNone = false) (hn : (fn.name == "runtime.NumGoroutine") = false)
    (hx : evs e xs.toList = some vs) (hc : Calls P f vs.toArray w R) (hret : ∀ x w', R x w' → ∃ v, x = .returned v) : Does P n o e w (fun v w' => R (.returned v) w') :=
  fun a ha ops Q rest hw hK => BigFrame.wpList_want hw fun K hk => by
    have hxs : xs.map a.eval = vs.toArray := by
      apply Array.ext'
      rw [Array.toList_map]
      exact ha.evs hx
    have hfx : a.eval (.func f) = .func (.func f) #[] #[] := rfl
    have hrun : (execOp a.eval o).run P w = .ok (.enter f vs.toArray) w := by
      unfold execOp
      simp only [ho, resolve, hxs, hfx, Sem.run_bind, Deferred.ofValue, Sem.run_pure, Result.andThen_ok, invoke, Array.append_empty, callFunc]
      rw [run_program]
      simp only [Result.andThen_ok, hf, hn, hb, Array.empty_append, Array.append_empty]
      simp
    unfold Oper.wp
    rw [hrun]
    refine Calls.mono hc fun x w' hR => ?_
    obtain ⟨v, rfl⟩ := hret x w' hR
    exact hk _ _ (hK v w' hR)
/-- A call in a list of operations: what follows is asked of each way in which it may end. -/
theorem Wl.call {d : Nat} {f : FuncId} {fn : Func} {xs : Array Operand} {ts : Array TypeId} {vs : List Value} {R : Ending → World → Prop} (hw : wantedE ops e o = some true) (hd : o.dst = some d) (hlt : Nat.blt d n = true) (ho : o.op = .call { callee := .value (.func f), args := xs, argTypes := ts }) (hf : P.funcs[f]? = some fn) (hb : fn.body.isNone = false) (hn : (fn.name == "runtime.NumGoroutine") = false)
    (hx : evs e xs.toList = some vs) (hc : Calls P f vs.toArray w R) (h : ∀ x w', R x w' → ∃ v, x = .returned v ∧ Wl P n ops Q rest ((d, v) :: e) w') : Wl P n ops Q (o :: rest) e w :=
  Wl.does hw hd hlt (Does.call (R := R) ho hf hb hn hx hc fun x w' hR => ⟨_, (h x w' hR).choose_spec.1⟩) fun v w' hR => by
    obtain ⟨u, hu, hk⟩ := h _ w' hR
    cases hu
    exact hk
/-- A call that leaves the world alone. -/
theorem Gives.call {f : FuncId} {fn : Func} {xs : Array Operand} {ts : Array TypeId} {vs : List Value} (ho : o.op = .call { callee := .value (.func f), args := xs, argTypes := ts }) (hf : P.funcs[f]? = some fn) (hb : fn.body.isNone = false) (hn : (fn.name == "runtime.NumGoroutine") = false)
    (hx : evs e xs.toList = some vs) (hc : Calls P f vs.toArray w (fun x w' => x = .returned v ∧ w = w')) : Gives P n o e w v :=
  (Does.call ho hf hb hn hx hc fun x w' hR => ⟨v, hR.1⟩).mono fun u w' ⟨h1, h2⟩ => ⟨by cases h1; rfl, h2.symm⟩
/-! Regions that draw their order. -/
def RunE (rd : Nat → Bool) (P : Program) (n0 : Nat) (l : List Oper) (n : Nat) (G : World → World → Prop) (Q : Exit → Act → World → Prop) (p : Plan) (e : Env) (w : World) : Prop := ∀ a, Has n0 e a → RunP rd P l n G Q p a w
section
variable {rd : Nat → Bool} {l : List Oper} {m : Nat} {G : World → World → Prop} {p q : Plan} {j : Nat}
theorem Wc.regionD {id : Nat} (rd : Nat → Bool) (G : World → World → Prop) (plan : Plan) (m : Nat) (hm : P.follows .mixedOrders = true) (hB : factsB l m n = true) (hP : planOk rd l m plan [] [] = true) (hr : ∀ a, G a a) (hG : ∀ a b c, G a b → G b c → G a c) (R : World → World → Prop) (hR : R w w.drew)
    (h : ∀ w1, R w w1 → RunE rd P n l m G Q plan e w1) : Wc P n (.region id l.toArray true) Q e w :=
  fun a ha => wp_region_planR rd G plan m hm (by rw [ha.size]; exact hB) hP hr hG R hR fun w1 hR1 => h w1 hR1 a ha
theorem RunE.read {d : Nat} (ho : l[j]? = some o) (hd : o.dst = some d) (hlt : Nat.blt d n = true) (hw : wantedE l.toArray e o = some true) (hg : ∀ w', (rd j = true → G w w') → Gives P n o e w' v) (k : RunE rd P n l m G Q p ((d, v) :: e) w) : RunE rd P n l m G Q (.read j p) e w := fun a ha => by
  refine ⟨o, v, ho, fun w' hG => hg w' hG a ha _ _ _ (wantedE_spec ha hw) ?_, by rw [hd]; exact k _ (ha.put (d := some d) hlt v)⟩
  rintro u w'' ⟨rfl, rfl⟩
  refine wpList_nil ⟨?_, rfl, ?_⟩
  · rw [hd]; rfl
  · have hp := ha.put (d := some d) hlt u
    have := hp.slot d u (by simp [upd, look, Nat.beq_refl])
    rw [hd]
    simp only [Array.getD_eq_getD_getElem?, this, Option.getD_some]
theorem RunE.readE {d : Nat} (ho : l[j]? = some o) (hd : o.dst = some d) (hlt : Nat.blt d n = true) (hw : wantedE l.toArray e o = some true) (hg : Gives P n o e w v) (k : RunE (fun _ => true) P n l m Eq Q p ((d, v) :: e) w) : RunE (fun _ => true) P n l m Eq Q (.read j p) e w :=
  RunE.read ho hd hlt hw (fun w' hG => by cases hG rfl; exact hg) k
/-- an operation that looks at the memory -/
theorem RunE.readM {d : Nat} (ho : l[j]? = some o) (hd : o.dst = some d) (hlt : Nat.blt d n = true) (hr : rd j = true) (hw : wantedE l.toArray e o = some true) (hg : ∀ w', G w w' → Gives P n o e w' v) (k : RunE rd P n l m G Q p ((d, v) :: e) w) : RunE rd P n l m G Q (.read j p) e w :=
  RunE.read ho hd hlt hw (fun w' hG => hg w' (hG hr)) k
theorem RunE.pass {d : Nat} (ho : l[j]? = some o) (hd : o.dst = some d) (hlt : Nat.blt d n = true) (hw : wantedE l.toArray e o = some false) (k : RunE rd P n l m G Q p ((d, undef) :: e) w) : RunE rd P n l m G Q (.read j p) e w := fun a ha => by
  refine ⟨o, undef, ho, fun w' hG => ?_, by rw [hd]; exact k _ (ha.put (d := some d) hlt undef)⟩
  unfold wpList
  rw [if_neg (by rw [wantedE_spec ha hw]; simp)]
  refine wpList_nil ⟨?_, rfl, ?_⟩
  · rw [hd]; rfl
  · have hp := ha.put (d := some d) hlt undef
    have := hp.slot d undef (by simp [upd, look, Nat.beq_refl])
    rw [hd]
    simp only [Array.getD_eq_getD_getElem?, this, Option.getD_some]
theorem put_df (a : Act) (d : Option Tmp) (v : Value) : (a.put d v).defers = a.defers := by cases d <;> rfl
/-- an operation that turns the world; it may come up here, or what 'q' says -/
theorem RunE.turn {d : Nat} {R : Value → World → Prop} (ho : l[j]? = some o) (hd : o.dst = some d) (hlt : Nat.blt d n = true) (hw : wantedE l.toArray e o = some true) (hdo : Does P n o e w R) (h : ∀ v w', R v w' → G w w' ∧ RunE rd P n l m G Q p ((d, v) :: e) w') (k : RunE rd P n l m G Q q e w) :
    RunE rd P n l m G Q (.call false j p q) e w := fun a ha => by
  refine run_call1 ho (hdo a ha _ _ _ (wantedE_spec ha hw) fun v w' hR => wpList_nil ⟨put_df _ _ _, (h v w' hR).1, ?_⟩) (k a ha)
  rw [hd]; exact (h v w' hR).2 _ (ha.put (d := some d) hlt v)
theorem RunE.free {d : Nat} {R : Value → World → Prop} (ho : l[j]? = some o) (hd : o.dst = some d) (hlt : Nat.blt d n = true) (hw : wantedE l.toArray e o = some true) (hdo : Does P n o e w R) (h : ∀ v w', R v w' → RunE rd P n l m G Q p ((d, v) :: e) w') (k : RunE rd P n l m G Q q e w) :
    RunE rd P n l m G Q (.call true j p q) e w := fun a ha => by
  refine run_free ho (hdo a ha _ _ _ (wantedE_spec ha hw) fun v w' hR => wpList_nil ⟨put_df _ _ _, trivial, ?_⟩) (k a ha)
  rw [hd]; exact h v w' hR _ (ha.put (d := some d) hlt v)
theorem RunE.turnN {R : Value → World → Prop} (ho : l[j]? = some o) (hd : o.dst = none) (hw : wantedE l.toArray e o = some true) (hdo : Does P n o e w R) (h : ∀ v w', R v w' → G w w' ∧ RunE rd P n l m G Q p e w') (k : RunE rd P n l m G Q q e w) :
    RunE rd P n l m G Q (.call false j p q) e w := fun a ha => by
  refine run_call1 ho (hdo a ha _ _ _ (wantedE_spec ha hw) fun v w' hR => wpList_nil ⟨put_df _ _ _, (h v w' hR).1, ?_⟩) (k a ha)
  rw [hd]; exact (h v w' hR).2 _ ha
theorem RunE.freeN {R : Value → World → Prop} (ho : l[j]? = some o) (hd : o.dst = none) (hw : wantedE l.toArray e o = some true) (hdo : Does P n o e w R) (h : ∀ v w', R v w' → RunE rd P n l m G Q p e w') (k : RunE rd P n l m G Q q e w) :
    RunE rd P n l m G Q (.call true j p q) e w := fun a ha => by
  refine run_free ho (hdo a ha _ _ _ (wantedE_spec ha hw) fun v w' hR => wpList_nil ⟨put_df _ _ _, trivial, ?_⟩) (k a ha)
  rw [hd]; exact h v w' hR _ ha
theorem RunE.turnC {d : Nat} {f : FuncId} {fn : Func} {xs : Array Operand} {ts : Array TypeId} {vs : List Value} {R : Ending → World → Prop} (hl : l[j]? = some o) (hd : o.dst = some d) (hlt : Nat.blt d n = true) (hw : wantedE l.toArray e o = some true) (ho : o.op = .call { callee := .value (.func f), args := xs, argTypes := ts }) (hf : P.funcs[f]? = some fn) (hb : fn.body.isNone = false) (hn : (fn.name == "runtime.NumGoroutine") = false)
    (hx : evs e xs.toList = some vs) (hc : Calls P f vs.toArray w R) (h : ∀ x w', R x w' → ∃ v, x = .returned v ∧ G w w' ∧ RunE rd P n l m G Q p ((d, v) :: e) w') (k : RunE rd P n l m G Q q e w) : RunE rd P n l m G Q (.call false j p q) e w :=
  RunE.turn hl hd hlt hw (Does.call (R := R) ho hf hb hn hx hc fun x w' hR => ⟨_, (h x w' hR).choose_spec.1⟩) (fun v w' hR => by
    obtain ⟨u, hu, hk⟩ := h _ w' hR
    cases hu
    exact hk) k
theorem RunE.freeC {d : Nat} {f : FuncId} {fn : Func} {xs : Array Operand} {ts : Array TypeId} {vs : List Value} {R : Ending → World → Prop} (hl : l[j]? = some o) (hd : o.dst = some d) (hlt : Nat.blt d n = true) (hw : wantedE l.toArray e o = some true) (ho : o.op = .call { callee := .value (.func f), args := xs, argTypes := ts }) (hf : P.funcs[f]? = some fn) (hb : fn.body.isNone = false) (hn : (fn.name == "runtime.NumGoroutine") = false)
    (hx : evs e xs.toList = some vs) (hc : Calls P f vs.toArray w R) (h : ∀ x w', R x w' → ∃ v, x = .returned v ∧ RunE rd P n l m G Q p ((d, v) :: e) w') (k : RunE rd P n l m G Q q e w) : RunE rd P n l m G Q (.call true j p q) e w :=
  RunE.free hl hd hlt hw (Does.call (R := R) ho hf hb hn hx hc fun x w' hR => ⟨_, (h x w' hR).choose_spec.1⟩) (fun v w' hR => by
    obtain ⟨u, hu, hk⟩ := h _ w' hR
    cases hu
    exact hk) k
theorem RunE.none : RunE rd P n l m G Q .none e w := fun a ha => run_none
theorem RunE.tail {r : List Oper} (hr : l.drop m = r) (h : Wl P n l.toArray Q r e w) : RunE rd P n l m G Q .tail e w := fun a ha => run_tail hr (h a ha)
theorem RunE.keep (e' : Env) (hs : Sub e' e) (h : RunE rd P n l m G Q p e' w) : RunE rd P n l m G Q p e w := fun a ha => h a (ha.sub hs)
end
end
/-! Entry and return. -/
def argsE : Nat → List Value → Env
  | _, [] => []
  | k, v :: r => (k, v) :: argsE (k + 1) r
theorem argsE_look : ∀ (vs : List Value) (k t : Nat) (v : Value), look (argsE k vs) t = some v → k ≤ t ∧ vs[t - k]? = some v
  | [], _, _, _, h => by cases h
  | u :: r, k, t, v, h => by
    simp only [argsE, look] at h
    cases hb : Nat.beq k t with
    | true =>
      rw [hb] at h
      have := Nat.eq_of_beq_eq_true hb
      subst this
      simp only [cond_true] at h
      exact ⟨Nat.le_refl _, by simpa using h⟩
    | false =>
      rw [hb] at h
      obtain ⟨h1, h2⟩ := argsE_look r (k + 1) t v h
      refine ⟨by omega, ?_⟩
      rw [show t - k = (t - (k + 1)) + 1 by omega]
      simpa using h2
theorem calls_enter {P : Program} {f : FuncId} {fn : Func} {c : Code} {n : Nat} {vs : List Value} {w : World} {R : Ending → World → Prop} (hf : P.funcs[f]? = some fn) (hb : fn.body = some c) (hn : fn.ntmps = n) (hle : Nat.ble vs.length n = true)
    (h : Wc P n c (bodyPost P fn R) (argsE 0 vs) w) : Calls P f vs.toArray w R := by
  have hle' := Nat.le_of_ble_eq_true hle
  refine calls_of_wp hf hb (h _ ⟨rfl, ?_, fun t v ht => ?_⟩)
  · rw [hn]; simp; omega
  · obtain ⟨_, h2⟩ := argsE_look vs 0 t v ht
    simp only [Nat.sub_zero] at h2
    have hlt := (List.getElem?_eq_some_iff.1 h2).1
    rw [Array.getElem?_append_left (by simpa using hlt)]
    simpa using h2
/-- What a function hands back, part for part. -/
def ResE (P : Program) (w : World) (e : Env) : List ResultVar → List Value → Prop
  | [], [] => True
  | .tmp t :: r, v :: vs => look e t = some v ∧ ResE P w e r vs
  | .cell a ty :: r, v :: vs => (∃ p, look e a = some (.pointer (some p)) ∧ (loadVar ty p).run P w = .ok v w) ∧ ResE P w e r vs
  | _, _ => False
def resV : List Value → Value
  | [v] => v
  | vs => .tuple vs.toArray
theorem res_run {P : Program} {w : World} {e : Env} {n : Nat} {a : Act} (ha : Has n e a) : ∀ (l : List ResultVar) (vs : List Value), ResE P w e l vs →
    (l.mapM (fun r => match r with | .tmp t => pure (a.tmps.getD t undef) | .cell x ty => do loadVar ty (← asAddr (a.tmps.getD x undef)) : ResultVar → Sem Value)).run P w = .ok vs w
  | [], [], _ => rfl
  | [], _ :: _, h => h.elim
  | .tmp t :: r, v :: vs, h => by
    have ih := res_run ha r vs h.2
    have hs := ha.slot t v h.1
    simp only [List.mapM_cons, Sem.run_bind, Sem.run_pure, Result.andThen_ok, Array.getD_eq_getD_getElem?, hs, Option.getD_some] at ih ⊢
    rw [ih]
    rfl
  | .tmp t :: r, [], h => h.elim
  | .cell x ty :: r, v :: vs, h => by
    have ih := res_run ha r vs h.2
    obtain ⟨p, h1, h2⟩ := h.1
    have hs := ha.slot x _ h1
    simp only [List.mapM_cons, Sem.run_bind, Sem.run_pure, Result.andThen_ok, Array.getD_eq_getD_getElem?, hs, Option.getD_some, asAddr, h2] at ih ⊢
    rw [ih]
    rfl
  | .cell x ty :: r, [], h => h.elim
theorem results_run {P : Program} {fn : Func} {w : World} {e : Env} {n : Nat} {a : Act} {vs : List Value} (ha : Has n e a) (h : ResE P w e fn.results.toList vs) : (results fn a.tmps).run P w = .ok (resV vs) w := by
  have h1 := res_run ha fn.results.toList vs h
  unfold results
  rw [Sem.run_bind, Array.mapM_eq_mapM_toList]
  have h2 : ∀ m : Sem (List Value), (Functor.map List.toArray m).run P w = (m.run P w).andThen fun x w' => .ok x.toArray w' := fun m => by
    rw [← bind_pure_comp, Sem.run_bind]; rfl
  rw [h2]
  erw [h1]
  simp only [Result.andThen_ok, Sem.run_pure]
  congr 1
  match vs with
  | [] => rfl
  | [v] => rfl
  | _ :: _ :: _ => rfl
theorem Wx.ret {P : Program} {fn : Func} {R : Ending → World → Prop} {n : Nat} {e : Env} {w : World} (vs : List Value) (hr : ResE P w e fn.results.toList vs) (hR : R (.returned (resV vs)) w) : Wx n (bodyPost P fn R) .ret e w :=
  fun a ha => ⟨ha.defers, _, results_run ha hr, hR⟩
theorem Wx.end_ {P : Program} {fn : Func} {R : Ending → World → Prop} {n : Nat} {e : Env} {w : World} (vs : List Value) (hr : ResE P w e fn.results.toList vs) (hR : R (.returned (resV vs)) w) : Wx n (bodyPost P fn R) .normal e w :=
  fun a ha => ⟨ha.defers, _, results_run ha hr, hR⟩
end Go.Proofs.YtdekjkcnfebfnaaDoor
