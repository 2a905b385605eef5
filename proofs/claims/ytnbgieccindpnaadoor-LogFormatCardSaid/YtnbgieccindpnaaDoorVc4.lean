/- Laws over slots kept in a list: boxes, fields, results; texts. -/
import Derived.Test.YtnbgieccindpnaaDoorVc3
namespace Go.Proofs.YtnbgieccindpnaaDoor
set_option linter.all false
set_option maxRecDepth 20000
open Go.RowKit
section
variable {P : Program} {n : Nat} {Q : Exit → Act → World → Prop} {e e' : Env} {w : World} {ops : Array Oper} {o : Oper} {rest : List Oper} {K : Act → World → Prop} {v : Value} {x y z : Operand} {S : Nat → Prop}
variable {t el : TypeId} {g : Nat} {cs : Array Value}
/-- a box made with its value -/
theorem Does.box {u : Value} (ho : o.op = .box t x) (hx : ev e x = some u) : Does P n o e w (fun v w' => ∃ g, v = .pointer (some ⟨g, 0, none⟩) ∧ w.heap.size ≤ g ∧ Blk w' g t u.cells ∧ Ext w w') :=
  fun a ha ops Q rest hw hK => BigFrame.wpList_want hw fun K hk => by
    have hrun : (execOp a.eval o).run P w = .ok (.value (.pointer (some ⟨w.heap.size, 0, none⟩))) (w.alloc (.cells u.cells t)) := by
      unfold execOp
      simp only [ho, ha.ev hx, Instr.box]
      simp [newVar, newRow, go_sem]
    unfold Oper.wp
    rw [hrun]
    exact hk _ _ (hK _ _ ⟨_, rfl, Nat.le_refl _, Blk.new _ _ _, (Ext.refl _).alloc _⟩)
theorem Does.boxA {cs : Array Value} (ho : o.op = .box t x) (hx : ev e x = some (.agg cs)) : Does P n o e w (fun v w' => ∃ g, v = .pointer (some ⟨g, 0, none⟩) ∧ w.heap.size ≤ g ∧ Blk w' g t cs ∧ Ext w w') := Does.box ho hx
/-- a field's address -/
theorem Gives.fieldAt {fields : Array Field} {j off : Nat} {f : Field} (off' : Nat) (ho : o.op = .fieldAddr t x j) (ht : P.underlying t = some (.struct fields)) (hf : fields[j]? = some f) (hsz : (P.info? f.type).map (fun i => Nat.beq i.size 0) = some false) (hoff : f.offset = off') (hx : ev e x = some (.pointer (some ⟨g, off, none⟩))) : Gives P n o e w (.pointer (some ⟨g, off + off', none⟩)) := .run fun a ha => by
  subst hoff
  cases hi : P.info? f.type with
  | none => simp [hi] at hsz
  | some i =>
    have hs : ¬ i.size = 0 := by
      intro h0
      simp only [hi, Option.map_some, Option.some.injEq] at hsz
      rw [h0] at hsz; cases hsz
    have hadd : ∀ k, (⟨g, off, none⟩ : Addr).add k = ⟨g, off + k, none⟩ := fun k => Addr.add_lit ..
    unfold execOp
    simp only [ho, ha.ev hx, Instr.fieldAt, Sem.run_bind, run_underlying ht, Result.andThen_ok, hf]
    simp [Instr.sureAddr, fieldPlace, sizeOf, typeInfo, hi, hs, hadd]
/-- a field of a struct by value: one cell -/
theorem Gives.fld1 {fields : Array Field} {j : Nat} {cs : Array Value} {f : Field} (ho : o.op = .field t x j) (ht : P.underlying t = some (.struct fields)) (hf : fields[j]? = some f) (hd : (match P.underlying f.type with | some (.struct _) | some (.array _ _) => false | some _ => true | none => false) = true) (hx : ev e x = some (.agg cs)) (hv : cs[f.offset]? = some v) : Gives P n o e w v := .run fun a ha => by
  have hagg : (isAgg f.type).run P w = .ok false w := by
    unfold isAgg
    cases hu : P.underlying f.type with
    | none => simp [hu] at hd
    | some d =>
      rw [Sem.run_bind, run_underlying hu w]
      simp only [hu] at hd
      cases d <;> simp_all
  unfold execOp
  simp only [ho, ha.ev hx, Instr.field, Sem.run_bind, run_underlying ht, Result.andThen_ok, hf]
  simp [asAgg, part, hagg, hv]
/-- a whole struct or array read -/
theorem Gives.ldW {t' : TypeId} (ho : o.op = .load t x) (hd : (match P.underlying t with | some (.struct _) | some (.array _ _) => true | _ => false) = true) (hx : ev e x = some (.pointer (some ⟨g, 0, none⟩))) (hg : Blk w g t' cs) (hi : (P.info? t).map (·.size) = some cs.size) : Gives P n o e w (.agg cs) := Gives.ldB ho hd hx hi hg
/-- one cell of a box read -/
theorem Gives.ldK {t' : TypeId} {j : Nat} (ho : o.op = .load t x) (hd : (match P.underlying t with | some (.struct _) | some (.array _ _) => false | some _ => true | none => false) = true) (hx : ev e x = some (.pointer (some ⟨g, j, none⟩))) (hg : Blk w g t' cs) (hv : cs[j]? = some v) : Gives P n o e w v := Gives.ldC ho hd hx ((hg.cell j).trans hv)
theorem res_blk {t' : TypeId} (hg : Blk w g t' cs) {d : TypeDesc} (hu : P.underlying t = some d) (hd : (match d with | .struct _ | .array _ _ => true | _ => false) = true) (hi : (P.info? t).map (·.size) = some cs.size) : (loadVar t ⟨g, 0, none⟩).run P w = .ok (.agg cs) w := run_loadVar_row w g t' t cs (0, 0) d hg hu hd hi
/-- A variable of the program and what it holds. -/
def GV (w : World) (g : Nat) (vs : List Value) : Prop := g < w.heap.size ∧ ∀ i v, vs[i]? = some v → w.cell? ⟨g, i, none⟩ = some v
theorem GV.fr {P : Nat → Prop} {w w' : World} {g : Nat} {vs : List Value} (h : GV w g vs) (e : Fr P w w') (hp : P g) : GV w' g vs :=
  ⟨Nat.lt_of_lt_of_le h.1 e.size, fun i v hv => (World.cell?_of_block (w := w) (a := ⟨g, i, none⟩) (e.block g h.1 hp)).trans (h.2 i v hv)⟩
theorem GV.ext {w w' : World} {g : Nat} {vs : List Value} (h : GV w g vs) (e : Ext w w') : GV w' g vs := h.fr (P := fun _ => True) e.fr trivial
theorem GV.cell0 {w : World} {g i : Nat} {vs : List Value} {v : Value} (h : GV w g vs) (hv : vs[i]? = some v) : w.cell? ⟨g, 0 + i, none⟩ = some v := by rw [Nat.zero_add]; exact h.2 i v hv
/-- Not one of these blocks. -/
def NB : List Nat → Nat → Prop
  | [], _ => True
  | g :: l, k => k ≠ g ∧ NB l k
/-- Blocks that were there, but for these. -/
def Old (N : Nat) (l : List Nat) (k : Nat) : Prop := k < N ∧ NB l k
theorem below_old {base N : Nat} {l : List Nat} {a b : World} (h : Below base a b) (hle : N ≤ base) : Fr (Old N l) a b := ⟨h.os, h.tape, h.output, h.size, fun k _ hP => h.block k (Nat.lt_of_lt_of_le hP.1 hle)⟩
/-- A region that draws its order; what was there when it began stays as it was, but for some blocks. -/
theorem Wc.regionB {P : Program} {n : Nat} {Q : Exit → Act → World → Prop} {e : Env} {w : World} {id : Nat} {l : List Oper} (rd : Nat → Bool) (L : List Nat) (plan : Plan) (m : Nat) (hm : P.follows .mixedOrders = true) (hB : factsB l m n = true) (hP : planOk rd l m plan [] [] = true)
    (h : ∀ w1, Quiet w w1 → RunE rd P n l m (Fr (Old w1.heap.size L)) Q plan e w1) : Wc P n (.region id l.toArray true) Q e w :=
  Wc.regionD rd (Fr (Old w.drew.heap.size L)) plan m hm hB hP (fun a => Fr.refl _ _) (fun _ _ _ h k => Fr.trans h k) (fun a b => b = a.drew) rfl (fun w1 h1 => by subst h1; exact h w.drew quiet_drew)
section
variable {P : Program} {n : Nat} {Q : Exit → Act → World → Prop} {e : Env} {w : World} {rd : Nat → Bool} {l : List Oper} {m j t : Nat} {G : World → World → Prop} {p q : Plan} {o : Oper} {b c : Bool}
theorem RunE.split (hl : look e t = some (.bool b)) (h1 : b = true → RunE rd P n l m G Q p ((t, .bool true) :: e) w) (h2 : b = false → RunE rd P n l m G Q p ((t, .bool false) :: e) w) : RunE rd P n l m G Q p e w := fun a ha => by
  cases b with
  | true => exact h1 rfl a (ha.put_same hl)
  | false => exact h2 rfl a (ha.put_same hl)
theorem RunE.fix (c : Bool) (hl : look e t = some (.bool b)) (hb : b = c) (h : RunE rd P n l m G Q p ((t, .bool c) :: e) w) : RunE rd P n l m G Q p e w := fun a ha => h a (ha.put_same (by rw [hl, hb]))
end
theorem ret_bool {b : Bool} (h : b = true) : Ending.returned (resV [.bool b]) = .returned (.bool true) := by rw [h]; rfl
theorem BV.nb0 {w : World} {P : Nat → Prop} {n c : Nat} {A : Option Addr} {l : List UInt8} (h : BV w P A n c l) : BV w (NB []) A n c l := h.mono fun _ _ => trivial
theorem BL.nb0 {w : World} {P : Nat → Prop} {n c : Nat} {A : Option Addr} {l : List (List UInt8)} (h : BL w P A n c l) : BL w (NB []) A n c l := h.mono fun _ _ => trivial
theorem Row.nbCons {w : World} {g : Nat} {ls : List Nat} {size n c : Nat} {A : Option Addr} {xs : List Value} (h : Row w (NB ls) size A n c xs) (hg : w.heap.size ≤ g) : Row w (NB (g :: ls)) size A n c xs :=
  ⟨h.1, h.2.1, h.2.2.1, fun hn => let ⟨b, off, hA, hb, hP, hc⟩ := h.2.2.2 hn; ⟨b, off, hA, hb, ⟨by omega, hP⟩, hc⟩⟩
theorem BV.nbCons {w : World} {g : Nat} {ls : List Nat} {n c : Nat} {A : Option Addr} {l : List UInt8} (h : BV w (NB ls) A n c l) (hg : w.heap.size ≤ g) : BV w (NB (g :: ls)) A n c l := Row.nbCons h hg
theorem BL.nbCons {w : World} {g : Nat} {ls : List Nat} {n c : Nat} {A : Option Addr} {l : List (List UInt8)} (h : BL w (NB ls) A n c l) (hg : w.heap.size ≤ g) : BL w (NB (g :: ls)) A n c l :=
  let ⟨vs, hr, he⟩ := h; ⟨vs, hr.nbCons hg, he.1, fun i l hl => let ⟨A, n, c, hv, hb⟩ := he.2 i l hl; ⟨A, n, c, hv, hb.nbCons hg⟩⟩
theorem Blk.ne {w : World} {a b : Nat} {t : TypeId} {cs : Array Value} (h : Blk w a t cs) (hb : w.heap.size ≤ b) : a ≠ b := by have := h.lt; omega
theorem Gives.pickT (ho : o.op = .pick z x y) (hz : ev e z = some (.bool true)) (hx : ev e x = some v) {u : Value} (hy : ev e y = some u) : Gives P n o e w v := Gives.pick ho hz hx hy
theorem Gives.pickF (ho : o.op = .pick z x y) (hz : ev e z = some (.bool false)) {u : Value} (hx : ev e x = some u) (hy : ev e y = some v) : Gives P n o e w v := Gives.pick ho hz hx hy
theorem Gives.min {ts : Array TypeId} {k : IntKind} {a b r : Int} (ho : o.op = .call { callee := .builtin .min, args := #[x, y], argTypes := ts }) (hx : ev e x = some (.int k a)) (hy : ev e y = some (.int k b)) (hr : iMin a b = r) : Gives P n o e w (.int k r) := .run fun q hq => by
  unfold execOp
  simp only [ho, resolve, Sem.run_bind, Sem.run_pure, Result.andThen_ok, List.map_toArray, List.map_cons, List.map_nil, hq.ev hx, hq.ev hy, invoke, builtin]
  rw [run_min_nm, hr]; rfl
end
/-! short forms: what 'rfl' finds is looked for by itself -/
section
variable {P : Program} {n : Nat} {Q : Exit → Act → World → Prop} {e e' : Env} {w w' : World} {ops : Array Oper} {o : Oper} {rest : List Oper} {v u : Value} {x y z : Operand} {t t2 : TypeId} {d : Nat} {a b r : Int} {k : IntKind}
theorem vl (hg : Gives P n o e w v) (h : Wl P n ops Q rest ((d, v) :: e) w) (hw : wantedE ops e o = some true := by exact rfl) (hd : o.dst = some d := by exact rfl) (hlt : Nat.blt d n = true := by exact rfl) : Wl P n ops Q (o :: rest) e w := Wl.val hw hd hlt hg h
theorem vM (h : Wl P n ops Q rest ((d, v) :: e) w) (ho : o.op = .move x := by exact rfl) (hx : ev e x = some v := by exact rfl) (hw : wantedE ops e o = some true := by exact rfl) (hd : o.dst = some d := by exact rfl) (hlt : Nat.blt d n = true := by exact rfl) : Wl P n ops Q (o :: rest) e w := Wl.val hw hd hlt (Gives.move ho hx) h
theorem vA (h : Wl P n ops Q rest ((d, v) :: e) w) (ho : o.op = .assign x := by exact rfl) (hx : ev e x = some v := by exact rfl) (hw : wantedE ops e o = some true := by exact rfl) (hd : o.dst = some d := by exact rfl) (hlt : Nat.blt d n = true := by exact rfl) : Wl P n ops Q (o :: rest) e w := Wl.val hw hd hlt (Gives.assign ho hx) h
theorem vT (h : Wl P n ops Q rest ((d, v) :: e) w) (ho : o.op = .pick z x y := by exact rfl) (hz : ev e z = some (.bool true) := by exact rfl) (hx : ev e x = some v := by exact rfl) (hy : ev e y = some u := by exact rfl) (hw : wantedE ops e o = some true := by exact rfl) (hd : o.dst = some d := by exact rfl) (hlt : Nat.blt d n = true := by exact rfl) : Wl P n ops Q (o :: rest) e w := Wl.val hw hd hlt (Gives.pickT ho hz hx hy) h
theorem vU (h : Wl P n ops Q rest ((d, v) :: e) w) (ho : o.op = .pick z x y := by exact rfl) (hz : ev e z = some (.bool false) := by exact rfl) (hx : ev e x = some u := by exact rfl) (hy : ev e y = some v := by exact rfl) (hw : wantedE ops e o = some true := by exact rfl) (hd : o.dst = some d := by exact rfl) (hlt : Nat.blt d n = true := by exact rfl) : Wl P n ops Q (o :: rest) e w := Wl.val hw hd hlt (Gives.pickF ho hz hx hy) h
theorem vAdd (h : Wl P n ops Q rest ((d, .int k r) :: e) w) (ho : o.op = .binOp .add t x y t2 := by exact rfl) (hx : ev e x = some (.int k a) := by exact rfl) (hy : ev e y = some (.int k b) := by exact rfl) (hr : k.wrap (a + b) = r := by first | exact IntWalk.i64_in _ (by omega) | exact u64_in _ (by omega) | exact u32_in _ (by omega) | exact u8_in _ (by omega) | exact rfl) (hw : wantedE ops e o = some true := by exact rfl) (hd : o.dst = some d := by exact rfl) (hlt : Nat.blt d n = true := by exact rfl) : Wl P n ops Q (o :: rest) e w := Wl.val hw hd hlt (Gives.add ho hx hy hr) h
theorem vSub (h : Wl P n ops Q rest ((d, .int k r) :: e) w) (ho : o.op = .binOp .sub t x y t2 := by exact rfl) (hx : ev e x = some (.int k a) := by exact rfl) (hy : ev e y = some (.int k b) := by exact rfl) (hr : k.wrap (a - b) = r := by first | exact IntWalk.i64_in _ (by omega) | exact u64_in _ (by omega) | exact u32_in _ (by omega) | exact u8_in _ (by omega) | exact rfl) (hw : wantedE ops e o = some true := by exact rfl) (hd : o.dst = some d := by exact rfl) (hlt : Nat.blt d n = true := by exact rfl) : Wl P n ops Q (o :: rest) e w := Wl.val hw hd hlt (Gives.sub ho hx hy hr) h
theorem vF {fields : Array Field} {j off g : Nat} {f : Field} (off' : Nat) (ht : P.underlying t = some (.struct fields)) (h : Wl P n ops Q rest ((d, .pointer (some ⟨g, off + off', none⟩)) :: e) w) (ho : o.op = .fieldAddr t x j := by exact rfl) (hf : fields[j]? = some f := by exact rfl) (hsz : (P.info? f.type).map (fun i => Nat.beq i.size 0) = some false := by kernel_rfl) (hoff : f.offset = off' := by exact rfl) (hx : ev e x = some (.pointer (some ⟨g, off, none⟩)) := by exact rfl) (hw : wantedE ops e o = some true := by exact rfl) (hd : o.dst = some d := by exact rfl) (hlt : Nat.blt d n = true := by exact rfl) : Wl P n ops Q (o :: rest) e w := Wl.val hw hd hlt (Gives.fieldAt off' ho ht hf hsz hoff hx) h
theorem vL {t' : TypeId} {j g : Nat} {cs : Array Value} (hg : Blk w g t' cs) (h : Wl P n ops Q rest ((d, v) :: e) w) (ho : o.op = .load t x := by exact rfl) (hd' : (match P.underlying t with | some (.struct _) | some (.array _ _) => false | some _ => true | none => false) = true := by kernel_rfl) (hx : ev e x = some (.pointer (some ⟨g, j, none⟩)) := by exact rfl) (hv : cs[j]? = some v := by exact rfl) (hw : wantedE ops e o = some true := by exact rfl) (hd : o.dst = some d := by exact rfl) (hlt : Nat.blt d n = true := by exact rfl) : Wl P n ops Q (o :: rest) e w := Wl.val hw hd hlt (Gives.ldK ho hd' hx hg hv) h
theorem vP (h : Wl P n ops Q rest ((d, undef) :: e) w) (hw : wantedE ops e o = some false := by exact rfl) (hd : o.dst = some d := by exact rfl) (hlt : Nat.blt d n = true := by exact rfl) : Wl P n ops Q (o :: rest) e w := Wl.pass hw hd hlt h
theorem Sub.co {t : Nat} {v : Value} {r e : Env} (hr : Sub r e) (h : look e t = some v := by first | exact rfl | exact look_int rfl (by omega) | exact look_slice rfl (by omega)) : Sub ((t, v) :: r) e := ⟨h, hr⟩
theorem vK (e' : Env) {c : Code} (h : Wc P n c Q e' w) (hs : Sub e' e := by repeat (first | exact Sub.nil | refine Sub.cons rfl ?_)) : Wc P n c Q e w := Wc.keep e' hs h
theorem vR (e' : Env) {id : Nat} {l : List Oper} (h : Wl P n l.toArray Q l e' w) (hs : Sub e' e := by repeat (first | exact Sub.nil | refine Sub.cons rfl ?_)) : Wc P n (.region id l.toArray false) Q e w := Wc.keep e' hs (Wc.region h)
theorem dT {p : Prop} [Decidable p] (h : decide p = true) : p := of_decide_eq_true h
theorem dF {p : Prop} [Decidable p] (h : decide p = false) : ¬ p := of_decide_eq_false h
theorem nT {p : Prop} [Decidable p] (h : (!decide p) = true) : ¬ p := nd_true h
theorem nF {p : Prop} [Decidable p] (h : (!decide p) = false) : p := nd_false h
theorem vn {K : Act → World → Prop} (h : Wk n K e w) : Wl P n ops (Exit.then K Q) [] e w := Wl.nil (Wx.thenN h)
theorem vs {c c' : Code} (h : ∀ K : Act → World → Prop, (∀ e w, Wc P n c' Q e w → Wk n K e w) → Wc P n c (Exit.then K Q) e w) : Wc P n (.seq c c') Q e w := Wc.seq h
theorem rE {l : List Oper} {m j : Nat} {p : Plan} (ho : l[j]? = some o) (hg : Gives P n o e w v) (k : RunE (fun _ => true) P n l m Eq Q p ((d, v) :: e) w) (hd : o.dst = some d := by exact rfl) (hlt : Nat.blt d n = true := by exact rfl) (hw : wantedE l.toArray e o = some true := by exact rfl) : RunE (fun _ => true) P n l m Eq Q (.read j p) e w := RunE.readE ho hd hlt hw hg k
theorem gAdd (ho : o.op = .binOp .add t x y t2) (hx : ev e x = some (.int k a)) (hy : ev e y = some (.int k b)) (hr : k.wrap (a + b) = r := by first | exact IntWalk.i64_in _ (by omega) | exact u64_in _ (by omega) | exact u32_in _ (by omega) | exact u8_in _ (by omega) | exact rfl) : Gives P n o e w (.int k r) := Gives.add ho hx hy hr
theorem gSub (ho : o.op = .binOp .sub t x y t2) (hx : ev e x = some (.int k a)) (hy : ev e y = some (.int k b)) (hr : k.wrap (a - b) = r := by first | exact IntWalk.i64_in _ (by omega) | exact u64_in _ (by omega) | exact u32_in _ (by omega) | exact u8_in _ (by omega) | exact rfl) : Gives P n o e w (.int k r) := Gives.sub ho hx hy hr
theorem Blk.frA {g b : Nat} {t : TypeId} {cs : Array Value} (h : Blk w g t cs) (f : Fr (fun k => k ≠ b) w w') (hne : g ≠ b := by first | assumption | exact Ne.symm (by assumption)) : Blk w' g t cs := h.fr f hne
end
end Go.Proofs.YtnbgieccindpnaaDoor
