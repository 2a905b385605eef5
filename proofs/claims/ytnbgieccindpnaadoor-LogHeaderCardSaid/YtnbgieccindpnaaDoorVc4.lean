/- Laws over slots kept in a list: boxes, fields, results; texts. -/
import Derived.Test.YtnbgieccindpnaaDoorVc3
namespace Go.Proofs.YtnbgieccindpnaaDoor
set_option linter.all false
set_option maxRecDepth 20000
open Go.RowKit
section
variable {P : Program} {n : Nat} {Q : Exit → Act → World → Prop} {e e' : Env} {w : World} {ops : Array Oper} {o : Oper} {rest : List Oper} {K : Act → World → Prop} {v : Value} {x y z : Operand} {S : Nat → Prop}
variable {t el : TypeId} {g : Nat} {cs : Array Value}
/-- a box made with its value -/
theorem Does.box {u : Value} (ho : o.op = .box t x) (hx : ev e x = some u) : Does P n o e w (fun v w' => ∃ g, v = .pointer (some ⟨g, 0, none⟩) ∧ w.heap.size ≤ g ∧ Blk w' g t u.cells ∧ Ext w w') :=
  fun a ha ops Q rest hw hK => BigFrame.wpList_want hw fun K hk => by
    have hrun : (execOp a.eval o).run P w = .ok (.value (.pointer (some ⟨w.heap.size, 0, none⟩))) (w.alloc (.cells u.cells t)) := by
      unfold execOp
      simp only [ho, ha.ev hx, Instr.box]
      simp [newVar, newRow, go_sem]
    unfold Oper.wp
    rw [hrun]
    exact hk _ _ (hK _ _ ⟨_, rfl, Nat.le_refl _, Blk.new _ _ _, (Ext.refl _).alloc _⟩)
theorem Does.boxA {cs : Array Value} (ho : o.op = .box t x) (hx : ev e x = some (.agg cs)) : Does P n o e w (fun v w' => ∃ g, v = .pointer (some ⟨g, 0, none⟩) ∧ w.heap.size ≤ g ∧ Blk w' g t cs ∧ Ext w w') := Does.box ho hx
/-- a field's address -/
theorem Gives.fieldAt {fields : Array Field} {j off : Nat} {f : Field} (off' : Nat) (ho : o.op = .fieldAddr t x j) (ht : P.underlying t = some (.struct fields)) (hf : fields[j]? = some f) (hsz : (P.info? f.type).map (fun i => Nat.beq i.size 0) = some false) (hoff : f.offset = off') (hx : ev e x = some (.pointer (some ⟨g, off, none⟩))) : Gives P n o e w (.pointer (some ⟨g, off + off', none⟩)) := .run fun a ha => by
  subst hoff
  cases hi : P.info? f.type with
  | none => simp [hi] at hsz
  | some i =>
    have hs : ¬ i.size = 0 := by
      intro h0
      simp only [hi, Option.map_some, Option.some.injEq] at hsz
      rw [h0] at hsz; cases hsz
    have hadd : ∀ k, (⟨g, off, none⟩ : Addr).add k = ⟨g, off + k, none⟩ := fun k => Addr.add_lit ..
    unfold execOp
    simp only [ho, ha.ev hx, Instr.fieldAt, Sem.run_bind, run_underlying ht, Result.andThen_ok, hf]
    simp [Instr.sureAddr, fieldPlace, sizeOf, typeInfo, hi, hs, hadd]
/-- a field of a struct by value: one cell -/
theorem Gives.fld1 {fields : Array Field} {j : Nat} {cs : Array Value} {f : Field} (ho : o.op = .field t x j) (ht : P.underlying t = some (.struct fields)) (hf : fields[j]? = some f) (hd : (match P.underlying f.type with | some (.struct _) | some (.array _ _) => false | some _ => true | none => false) = true) (hx : ev e x = some (.agg cs)) (hv : cs[f.offset]? = some v) : Gives P n o e w v := .run fun a ha => by
  have hagg : (isAgg f.type).run P w = .ok false w := by
    unfold isAgg
    cases hu : P.underlying f.type with
    | none => simp [hu] at hd
    | some d =>
      rw [Sem.run_bind, run_underlying hu w]
      simp only [hu] at hd
      cases d <;> simp_all
  unfold execOp
  simp only [ho, ha.ev hx, Instr.field, Sem.run_bind, run_underlying ht, Result.andThen_ok, hf]
  simp [asAgg, part, hagg, hv]
/-- a whole struct or array read -/
theorem Gives.ldW {t' : TypeId} (ho : o.op = .load t x) (hd : (match P.underlying t with | some (.struct _) | some (.array _ _) => true | _ => false) = true) (hx : ev e x = some (.pointer (some ⟨g, 0, none⟩))) (hg : Blk w g t' cs) (hi : (P.info? t).map (·.size) = some cs.size) : Gives P n o e w (.agg cs) := Gives.ldB ho hd hx hi hg
/-- one cell of a box read -/
theorem Gives.ldK {t' : TypeId} {j : Nat} (ho : o.op = .load t x) (hd : (match P.underlying t with | some (.struct _) | some (.array _ _) => false | some _ => true | none => false) = true) (hx : ev e x = some (.pointer (some ⟨g, j, none⟩))) (hg : Blk w g t' cs) (hv : cs[j]? = some v) : Gives P n o e w v := Gives.ldC ho hd hx ((hg.cell j).trans hv)
theorem res_blk {t' : TypeId} (hg : Blk w g t' cs) {d : TypeDesc} (hu : P.underlying t = some d) (hd : (match d with | .struct _ | .array _ _ => true | _ => false) = true) (hi : (P.info? t).map (·.size) = some cs.size) : (loadVar t ⟨g, 0, none⟩).run P w = .ok (.agg cs) w := run_loadVar_row w g t' t cs (0, 0) d hg hu hd hi
theorem res_cell {p : Addr} (hd : (match P.underlying t with | some (.struct _) | some (.array _ _) => false | some _ => true | none => false) = true) (hc : w.cell? p = some v) : (loadVar t p).run P w = .ok v w := by
  cases hu : P.underlying t with
  | none => simp [hu] at hd
  | some d =>
    have hagg : (isAgg t).run P w = .ok false w := by
      unfold isAgg
      rw [Sem.run_bind, run_underlying hu w]
      simp only [hu] at hd
      cases d <;> simp_all
    simp [loadVar, Sem.run_bind, hagg, hc, go_sem]
/-- A variable of the program and what it holds. -/
def GV (w : World) (g : Nat) (vs : List Value) : Prop := g < w.heap.size ∧ ∀ i v, vs[i]? = some v → w.cell? ⟨g, i, none⟩ = some v
theorem GV.fr {P : Nat → Prop} {w w' : World} {g : Nat} {vs : List Value} (h : GV w g vs) (e : Fr P w w') (hp : P g) : GV w' g vs :=
  ⟨Nat.lt_of_lt_of_le h.1 e.size, fun i v hv => (World.cell?_of_block (w := w) (a := ⟨g, i, none⟩) (e.block g h.1 hp)).trans (h.2 i v hv)⟩
theorem GV.ext {w w' : World} {g : Nat} {vs : List Value} (h : GV w g vs) (e : Ext w w') : GV w' g vs := h.fr (P := fun _ => True) e.fr trivial
theorem GV.cell0 {w : World} {g i : Nat} {vs : List Value} {v : Value} (h : GV w g vs) (hv : vs[i]? = some v) : w.cell? ⟨g, 0 + i, none⟩ = some v := by rw [Nat.zero_add]; exact h.2 i v hv
/-- Not one of these blocks. -/
def NB : List Nat → Nat → Prop
  | [], _ => True
  | g :: l, k => k ≠ g ∧ NB l k
def LtAll : List Nat → Nat → Prop
  | [], _ => True
  | g :: l, b => g < b ∧ LtAll l b
theorem NB.of {l : List Nat} {b q : Nat} (h : LtAll l b) (hq : b ≤ q) : NB l q := by
  induction l with
  | nil => trivial
  | cons g l ih => exact ⟨by have := h.1; omega, ih h.2⟩
/-- Blocks that were there, but for these. -/
def Old (N : Nat) (l : List Nat) (k : Nat) : Prop := k < N ∧ NB l k
theorem below_old {base N : Nat} {l : List Nat} {a b : World} (h : Below base a b) (hle : N ≤ base) : Fr (Old N l) a b := ⟨h.os, h.tape, h.output, h.size, fun k _ hP => h.block k (Nat.lt_of_lt_of_le hP.1 hle)⟩
theorem new_old {g N : Nat} {l : List Nat} {a b : World} (h : Fr (fun k => k ≠ g) a b) (hle : N ≤ g) : Fr (Old N l) a b := h.mono fun k hk => by have := hk.1; omega
/-- A region that draws its order; what was there when it began stays as it was, but for some blocks. -/
theorem Wc.regionB {P : Program} {n : Nat} {Q : Exit → Act → World → Prop} {e : Env} {w : World} {id : Nat} {l : List Oper} (rd : Nat → Bool) (L : List Nat) (plan : Plan) (m : Nat) (hm : P.follows .mixedOrders = true) (hB : factsB l m n = true) (hP : planOk rd l m plan [] [] = true)
    (h : ∀ w1, Quiet w w1 → RunE rd P n l m (Fr (Old w1.heap.size L)) Q plan e w1) : Wc P n (.region id l.toArray true) Q e w :=
  Wc.regionD rd (Fr (Old w.drew.heap.size L)) plan m hm hB hP (fun a => Fr.refl _ _) (fun _ _ _ h k => Fr.trans h k) (fun a b => b = a.drew) rfl (fun w1 h1 => by subst h1; exact h w.drew quiet_drew)
section
variable {P : Program} {n : Nat} {Q : Exit → Act → World → Prop} {e : Env} {w : World} {rd : Nat → Bool} {l : List Oper} {m j t : Nat} {G : World → World → Prop} {p q : Plan} {o : Oper} {b c : Bool}
theorem RunE.split (hl : look e t = some (.bool b)) (h1 : b = true → RunE rd P n l m G Q p ((t, .bool true) :: e) w) (h2 : b = false → RunE rd P n l m G Q p ((t, .bool false) :: e) w) : RunE rd P n l m G Q p e w := fun a ha => by
  cases b with
  | true => exact h1 rfl a (ha.put_same hl)
  | false => exact h2 rfl a (ha.put_same hl)
theorem RunE.fix (c : Bool) (hl : look e t = some (.bool b)) (hb : b = c) (h : RunE rd P n l m G Q p ((t, .bool c) :: e) w) : RunE rd P n l m G Q p e w := fun a ha => h a (ha.put_same (by rw [hl, hb]))
/-- a turning operation whose guard says no -/
theorem RunE.passC {f : Bool} {d : Nat} (hrefl : ∀ a, G a a) (ho : l[j]? = some o) (hd : o.dst = some d) (hlt : Nat.blt d n = true) (hw : wantedE l.toArray e o = some false) (h : RunE rd P n l m G Q p ((d, undef) :: e) w) (k : RunE rd P n l m G Q q e w) : RunE rd P n l m G Q (.call f j p q) e w := fun a ha => by
  refine run_call ho ?_ (k a ha)
  unfold wpList
  rw [if_neg (by rw [wantedE_spec ha hw]; simp)]
  refine wpList_nil ⟨put_df _ _ _, fun _ => hrefl w, ?_⟩
  rw [hd]; exact h _ (ha.put (d := some d) hlt undef)
end
theorem ret_bool {b : Bool} (h : b = true) : Ending.returned (resV [.bool b]) = .returned (.bool true) := by rw [h]; rfl
theorem Row.nb0 {w : World} {P : Nat → Prop} {size n c : Nat} {A : Option Addr} {xs : List Value} (h : Row w P size A n c xs) : Row w (NB []) size A n c xs := h.mono fun _ _ => trivial
theorem BV.nb0 {w : World} {P : Nat → Prop} {n c : Nat} {A : Option Addr} {l : List UInt8} (h : BV w P A n c l) : BV w (NB []) A n c l := h.mono fun _ _ => trivial
theorem BL.nb0 {w : World} {P : Nat → Prop} {n c : Nat} {A : Option Addr} {l : List (List UInt8)} (h : BL w P A n c l) : BL w (NB []) A n c l := h.mono fun _ _ => trivial
theorem Row.nbCons {w : World} {g : Nat} {ls : List Nat} {size n c : Nat} {A : Option Addr} {xs : List Value} (h : Row w (NB ls) size A n c xs) (hg : w.heap.size ≤ g) : Row w (NB (g :: ls)) size A n c xs :=
  ⟨h.1, h.2.1, h.2.2.1, fun hn => let ⟨b, off, hA, hb, hP, hc⟩ := h.2.2.2 hn; ⟨b, off, hA, hb, ⟨by omega, hP⟩, hc⟩⟩
theorem BV.nbCons {w : World} {g : Nat} {ls : List Nat} {n c : Nat} {A : Option Addr} {l : List UInt8} (h : BV w (NB ls) A n c l) (hg : w.heap.size ≤ g) : BV w (NB (g :: ls)) A n c l := Row.nbCons h hg
theorem BL.nbCons {w : World} {g : Nat} {ls : List Nat} {n c : Nat} {A : Option Addr} {l : List (List UInt8)} (h : BL w (NB ls) A n c l) (hg : w.heap.size ≤ g) : BL w (NB (g :: ls)) A n c l :=
  let ⟨vs, hr, he⟩ := h; ⟨vs, hr.nbCons hg, he.1, fun i l hl => let ⟨A, n, c, hv, hb⟩ := he.2 i l hl; ⟨A, n, c, hv, hb.nbCons hg⟩⟩
def noU8 : List Value → Bool
  | [] => true
  | .int .u8 _ :: _ => false
  | _ :: r => noU8 r
theorem noU8_spec : ∀ {l : List Value} (_ : noU8 l = true) (i : Nat) (z : Int), l[i]? ≠ some (.int .u8 z)
  | [], _, i, z => by simp
  | v :: r, h, i, z => by
    have hr : noU8 r = true := by
      unfold noU8 at h
      split at h <;> first | (rename_i heq; cases heq; done) | skip
      · cases h
      · rename_i heq; cases heq; exact h
    cases i with
    | zero =>
      intro hc
      simp only [List.getElem?_cons_zero, Option.some.injEq] at hc
      subst hc
      simp [noU8] at h
    | succ i => simpa using noU8_spec hr i z
/-- Bytes do not lie in a box that holds none. -/
theorem BV.nbBox {w : World} {ls : List Nat} {n c g : Nat} {A : Option Addr} {l : List UInt8} {t : TypeId} {cs : List Value} (h : BV w (NB ls) A n c l) (hg : Blk w g t cs.toArray) (hc : noU8 cs = true) : BV w (NB (g :: ls)) A n c l :=
  ⟨h.1, h.2.1, h.2.2.1, fun hn => by
    obtain ⟨b, off, hA, hb, hP, hcell⟩ := h.2.2.2 hn
    refine ⟨b, off, hA, hb, ⟨fun hbg => ?_, hP⟩, hcell⟩
    subst hbg
    have hl : 0 < l.length := by rw [BV.len h]; exact hn
    have h0 := hcell 0 (.int .u8 (l[0].toNat : Int)) (by simp [u8s, hl])
    rw [Nat.add_zero, hg.cell off] at h0
    exact noU8_spec hc off _ (by simpa using h0)⟩
theorem OB.nb {w : World} {base e n c : Nat} {A : Option Addr} {l : List UInt8} {ls : List Nat} (h : OB w base e A n c l) (hl : LtAll ls base) : BV w (NB ls) A n c l := h.bv fun _ hq => NB.of hl hq
theorem own_nb {w : World} {base e n c size : Nat} {A : Option Addr} {xs : List Value} {ls : List Nat} (h : w.ownsRow base e size (.slice A n c) n xs) (hl : LtAll ls base) : Row w (NB ls) size A n c xs := Row.of_own h fun _ hq => NB.of hl hq
theorem Blk.ne {w : World} {a b : Nat} {t : TypeId} {cs : Array Value} (h : Blk w a t cs) (hb : w.heap.size ≤ b) : a ≠ b := by have := h.lt; omega
theorem Gives.pickT (ho : o.op = .pick z x y) (hz : ev e z = some (.bool true)) (hx : ev e x = some v) {u : Value} (hy : ev e y = some u) : Gives P n o e w v := Gives.pick ho hz hx hy
theorem Gives.pickF (ho : o.op = .pick z x y) (hz : ev e z = some (.bool false)) {u : Value} (hx : ev e x = some u) (hy : ev e y = some v) : Gives P n o e w v := Gives.pick ho hz hx hy
theorem Gives.max {ts : Array TypeId} {k : IntKind} {a b r : Int} (ho : o.op = .call { callee := .builtin .max, args := #[x, y], argTypes := ts }) (hx : ev e x = some (.int k a)) (hy : ev e y = some (.int k b)) (hr : iMax a b = r) : Gives P n o e w (.int k r) := .run fun q hq => by
  unfold execOp
  simp only [ho, resolve, Sem.run_bind, Sem.run_pure, Result.andThen_ok, List.map_toArray, List.map_cons, List.map_nil, hq.ev hx, hq.ev hy, invoke, builtin]
  rw [run_max_nm, hr]; rfl
theorem Gives.min {ts : Array TypeId} {k : IntKind} {a b r : Int} (ho : o.op = .call { callee := .builtin .min, args := #[x, y], argTypes := ts }) (hx : ev e x = some (.int k a)) (hy : ev e y = some (.int k b)) (hr : iMin a b = r) : Gives P n o e w (.int k r) := .run fun q hq => by
  unfold execOp
  simp only [ho, resolve, Sem.run_bind, Sem.run_pure, Result.andThen_ok, List.map_toArray, List.map_cons, List.map_nil, hq.ev hx, hq.ev hy, invoke, builtin]
  rw [run_min_nm, hr]; rfl
end
end Go.Proofs.YtnbgieccindpnaaDoor
