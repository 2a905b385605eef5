/- Laws over slots kept in a list: slices made, cut, appended to, copied; literals. -/
import Derived.Test.YtdekjkcnfebfnaaDoorVc2
namespace Go.Proofs.YtdekjkcnfebfnaaDoor
set_option linter.all false
open Go.RowKit
theorem Blk.own {w : World} {g base t size n c : Nat} {xs : List Value} (h : Blk w g t xs.toArray) (hb : base ≤ g) (hn : xs.length = n * size) (hc : c = n) (hm : c ≤ 9223372036854775807) : w.ownsRow base t size (.slice (some ⟨g, 0, none⟩) n c) n xs := by
  subst hc
  exact ⟨hn, .inr ⟨g, c, xs.toArray, rfl, hb, h, Nat.le_refl _, by simpa [maxLen] using hm, by simpa using hn, by rw [List.take_of_length_le (by simp [hn])]⟩⟩
theorem own_blk {w : World} {g base t size n c : Nat} {xs : List Value} (h : w.ownsRow base t size (.slice (some ⟨g, 0, none⟩) n c) n xs) (hn : 0 < n) : base ≤ g ∧ g < w.heap.size := by
  obtain ⟨g', cap, hv, hbg, hlt⟩ := h.form hn
  simp only [Value.slice.injEq, Option.some.injEq, Addr.mk.injEq, and_true, true_and] at hv
  obtain ⟨rfl, _⟩ := hv
  exact ⟨hbg, hlt⟩
section
variable {P : Program} {n : Nat} {Q : Exit → Act → World → Prop} {e e' : Env} {w : World} {ops : Array Oper} {o : Oper} {rest : List Oper} {K : Act → World → Prop} {v : Value} {x y z : Operand} {S : Nat → Prop}
variable {t el : TypeId} {A : Option Addr} {m c k : Nat} {kd kd' : IntKind} {l r : List UInt8}
/-- 's[lo:]' -/
theorem Gives.cutLo (ho : o.op = .slice t x (some y) none none) (ht : P.underlying t = some (.slice el)) (hsz : (P.info? el).map (·.size) = some 1) (hx : ev e x = some (.slice A m c)) (k : Nat) {q : Int} (hy : ev e y = some (.int kd q)) (hq : q = (k : Int)) (hk : k ≤ m) : Gives P n o e w (.slice (cutAddr A c k 1) (m - k) (c - k)) := .run fun a ha => by
  subst hq
  cases hi : P.info? el with
  | none => simp [hi] at hsz
  | some f =>
    have hf : f.size = 1 := by simpa [hi] using hsz
    have hel : P.elem t = el := by simp [Program.elem, ht]
    have hat := fun (x : Value) (lo hi mx : Option Value) => run_sliceAt_slice (P := P) w t x lo hi mx (by rw [hel]; exact ht)
    have hrun := run_cut_l (P := P) w t A m c (by rw [hel]; exact ht) kd k (by omega) (by omega)
    have hs : (sizeOf (P.elem t)).run P w = .ok 1 w := by simp [sizeOf, typeInfo, hel, hi, hf]
    unfold execOp
    simp only [ho, ha.ev hx, ha.ev hy, Option.map_some, Option.map_none, Sem.run_bind, hat, hrun, hs, Result.andThen_ok, Sem.run_pure, Int.toNat_natCast]
/-- 's[lo:hi]', hi within the capacity -/
theorem Gives.cut (ho : o.op = .slice t x (some y) (some z) none) (ht : P.underlying t = some (.slice el)) (hsz : (P.info? el).map (·.size) = some 1) (hx : ev e x = some (.slice A m c)) (k d : Nat) {q q' : Int} (hy : ev e y = some (.int kd q)) (hq : q = (k : Int)) (hz : ev e z = some (.int kd' q')) (hq' : q' = ((k + d : Nat) : Int)) (hh : k + d ≤ c) : Gives P n o e w (.slice (cutAddr A c k 1) d (c - k)) := .run fun a ha => by
  subst hq hq'
  cases hi : P.info? el with
  | none => simp [hi] at hsz
  | some f =>
    have hf : f.size = 1 := by simpa [hi] using hsz
    have hel : P.elem t = el := by simp [Program.elem, ht]
    have hat := fun (x : Value) (lo hi mx : Option Value) => run_sliceAt_slice (P := P) w t x lo hi mx (by rw [hel]; exact ht)
    have hrun := run_cut_lh (P := P) w t A m c (by rw [hel]; exact ht) kd kd' k ((k + d : Nat) : Int) (by omega) (by omega) (by omega)
    have hs : (sizeOf (P.elem t)).run P w = .ok 1 w := by simp [sizeOf, typeInfo, hel, hi, hf]
    unfold execOp
    simp only [ho, ha.ev hx, ha.ev hy, ha.ev hz, Option.map_some, Option.map_none, Sem.run_bind, hat, hrun, hs, Result.andThen_ok, Sem.run_pure, Int.toNat_natCast, Nat.add_sub_cancel_left]
/-- 's[:hi]' -/
theorem Gives.cutHi (ho : o.op = .slice t x none (some z) none) (ht : P.underlying t = some (.slice el)) (hsz : (P.info? el).map (·.size) = some 1) (hx : ev e x = some (.slice A m c)) (h : Nat) {q' : Int} (hz : ev e z = some (.int kd' q')) (hq' : q' = (h : Int)) (hh : h ≤ c) : Gives P n o e w (.slice A h c) := .run fun a ha => by
  subst hq'
  cases hi : P.info? el with
  | none => simp [hi] at hsz
  | some f =>
    have hf : f.size = 1 := by simpa [hi] using hsz
    have hel : P.elem t = el := by simp [Program.elem, ht]
    have hat := fun (x : Value) (lo hi mx : Option Value) => run_sliceAt_slice (P := P) w t x lo hi mx (by rw [hel]; exact ht)
    have hrun := run_cut_h (P := P) w t A m c (by rw [hel]; exact ht) kd' h (by omega) (by omega)
    have hs : (sizeOf (P.elem t)).run P w = .ok 1 w := by simp [sizeOf, typeInfo, hel, hi, hf]
    unfold execOp
    simp only [ho, ha.ev hx, ha.ev hz, Option.map_some, Option.map_none, Sem.run_bind, hat, hrun, hs, Result.andThen_ok, Sem.run_pure, Int.toNat_natCast]
/-- 'append' onto a row of the call's own (from block base on), any elements -/
theorem Does.appG {zv : Value} {size bytes base : Nat} {B : Option Addr} {p sc : Nat} {xs ys : List Value} (ho : o.op = .call { callee := .builtin .append, args := #[x, y], argTypes := #[t, t] }) (ht : P.underlying t = some (.slice el)) (hinf : (P.info? el).map (fun i => (i.zero, i.size, i.bytes)) = some (some zv, size, bytes)) (hzs : zv.cells.size = size) (hsz : 0 < size)
    (hx : ev e x = some (.slice B p sc)) (hy : ev e y = some (.slice A m c)) (hown : w.ownsRow base el size (.slice B p sc) p xs) (hr : Row w S size A m c ys) (h1 : ∀ u ∈ ys, u.oneCell' = true) (hbytes : (p + m) * bytes ≤ 140737488355328) (hpos : 0 < bytes) (hb : base ≤ w.heap.size) :
    Does P n o e w (fun v w' => ∃ B' sc', v = .slice B' (p + m) sc' ∧ w'.ownsRow base el size (.slice B' (p + m) sc') (p + m) (xs ++ ys) ∧ Below base w w') :=
  fun a ha ops Q rest hw hK => wpList_appG hw x y t ho el zv size bytes hinf ht hzs hsz base B p sc xs (ha.ev hx) hown A m c ys (ha.ev hy) hr h1 hbytes hpos hb fun B' sc' w' h1 h2 => hK _ w' ⟨B', sc', rfl, h1, h2⟩
/-- bytes onto a row of the call's own -/
theorem Does.appO {base : Nat} {B : Option Addr} {p sc : Nat} (ho : o.op = .call { callee := .builtin .append, args := #[x, y], argTypes := #[t, t] }) (ht : P.underlying t = some (.slice el)) (hinf : (P.info? el).map (fun i => (i.zero, i.size, i.bytes)) = some (some (.int .u8 0), 1, 1))
    (hx : ev e x = some (.slice B p sc)) (hy : ev e y = some (.slice A m c)) (hown : OB w base el B p sc l) (hr : BV w S A m c r) (hbytes : p + m ≤ 140737488355328) (hb : base ≤ w.heap.size) :
    Does P n o e w (fun v w' => ∃ B' sc', v = .slice B' (p + m) sc' ∧ OB w' base el B' (p + m) sc' (l ++ r) ∧ Below base w w') :=
  fun a ha ops Q rest hw hK => wpList_appO hw x y t ho el hinf ht base B p sc l (ha.ev hx) hown A m c r (ha.ev hy) hr hbytes hb fun B' sc' w' h1 h2 => hK _ w' ⟨B', sc', rfl, h1, h2⟩
/-- bytes onto nothing (nil, or an empty literal) -/
theorem Does.app0 {base : Nat} {B : Option Addr} (ho : o.op = .call { callee := .builtin .append, args := #[x, y], argTypes := #[t, t] }) (ht : P.underlying t = some (.slice el)) (hinf : (P.info? el).map (fun i => (i.zero, i.size, i.bytes)) = some (some (.int .u8 0), 1, 1))
    (hx : ev e x = some (.slice B 0 0)) (hy : ev e y = some (.slice A m c)) (hown : OB w base el B 0 0 []) (hr : BV w S A m c r) (hbytes : m ≤ 140737488355328) (hb : base ≤ w.heap.size) :
    Does P n o e w (fun v w' => ∃ B' sc', v = .slice B' m sc' ∧ OB w' base el B' m sc' r ∧ Ext w w') :=
  fun a ha ops Q rest hw hK => wpList_app0 hw x y t ho el hinf ht (ha.ev hx) hown hb (ha.ev hy) hr hbytes fun B' sc' w' h1 h2 => hK _ w' ⟨B', sc', rfl, h1, h2⟩
/-- 'make([]byte, n)', its block known whole -/
theorem Does.mkM (k : Nat) {q : Int} (hg : o.guard = none) (ho : o.op = .makeSlice t x y) (ht : P.underlying t = some (.slice el)) (hinf : (P.info? el).map (fun i => (i.zero, i.size, i.bytes)) = some (some (.int .u8 0), 1, 1)) (hx : ev e x = some (.int kd q)) (hq : q = (k : Int)) (hy : ev e y = some (.int kd' q)) (hb : k ≤ 140737488355328) :
    Does P n o e w (fun v w' => ∃ g, v = .slice (some ⟨g, 0, none⟩) k k ∧ w.heap.size ≤ g ∧ MB w' g el (List.replicate k 0) ∧ Ext w w') := by
  subst hq
  exact fun a ha ops Q rest hw hK => wpList_mkM hg x y t ho el hinf ht kd kd' k (ha.ev hx) (ha.ev hy) hb fun g w' h1 h2 h3 => hK _ w' ⟨g, rfl, h1, h2, h3⟩
/-- 'copy' into a part of a block known whole -/
theorem Does.cpM {dT sT : TypeId} {dp : Option Addr} {dLen dCap g off : Nat} {tt : TypeId} (hgd : o.guard = none) (ho : o.op = .call { callee := .builtin .copy, args := #[x, y], argTypes := #[dT, sT] }) (ht : P.underlying dT = some (.slice el)) (hinf : (P.info? el).map (fun i => (i.zero, i.size, i.bytes)) = some (some (.int .u8 0), 1, 1)) (hx : ev e x = some (.slice dp dLen dCap)) (hy : ev e y = some (.slice A m c)) (hr : BV w S A m c r)
    (hdp : 0 < dLen → dp = some ⟨g, off, none⟩) (hg : MB w g tt l) (hfit : off + dLen ≤ l.length) :
    Does P n o e w (fun v w' => v = .int .i64 ((min m dLen : Nat) : Int) ∧ MB w' g tt (spliceB l off (r.take dLen)) ∧ Fr (fun k => k ≠ g) w w') :=
  fun a ha ops Q rest hw hK => wpList_cpM hgd x y dT sT ho el ht hinf (ha.ev hx) (ha.ev hy) hr g off hdp hg hfit fun w' h1 h2 => hK _ w' ⟨rfl, h1, h2⟩
theorem Gives.nilCheck {p : Addr} (ho : o.op = .nilCheck x) (hx : ev e x = some (.pointer (some p))) : Gives P n o e w (.pointer (some p)) := .run fun a ha => by
  unfold execOp; simp only [ho, ha.ev hx]; rfl
/-- 'make([]T, 0, cap)' -/
theorem Does.mk0 {zv : Value} {size bytes : Nat} (q : Nat) {z' : Int} (hg : o.guard = none) (ho : o.op = .makeSlice t x y) (ht : P.underlying t = some (.slice el)) (hinf : (P.info? el).map (fun i => (i.zero, i.size, i.bytes)) = some (some zv, size, bytes)) (hx : ev e x = some (.int kd 0)) (hy : ev e y = some (.int kd' z')) (hz' : z' = (q : Int)) (hb : bytes * q ≤ 281474976710656) (hq : q ≤ 9223372036854775807) :
    Does P n o e w (fun v w' => ∃ g, v = .slice (some ⟨g, 0, none⟩) 0 q ∧ w'.ownsRow w.heap.size el size (.slice (some ⟨g, 0, none⟩) 0 q) 0 [] ∧ Ext w w') := by
  subst hz'
  intro a ha ops Q rest hw hK
  obtain ⟨i, hi, hz0, hz1, hz2⟩ := info_parts hinf
  subst hz2
  exact wpList_make_own w hg x y t ho w.heap.size el i zv size ht hi hz0 hz1 kd kd' q q (ha.ev hx) (ha.ev hy) rfl hb (by simpa [maxLen] using hq) (Nat.le_refl _) fun w' h1 h2 => hK _ w' ⟨_, rfl, h1, (Ext.refl w).grown h2 (fun k hk => by cases hk)⟩
/-- an array, all of it, as a slice -/
theorem Gives.cutAll {len g : Nat} (ho : o.op = .slice t x none none none) (ht : P.underlying t = some (.array len el)) (hsz : (P.info? el).map (·.size) = some 1) (hx : ev e x = some (.pointer (some ⟨g, 0, none⟩))) : Gives P n o e w (.slice (some ⟨g, 0, none⟩) len len) := .run fun a ha => by
  cases hi : P.info? el with
  | none => simp [hi] at hsz
  | some f =>
    have hf : f.size = 1 := by simpa [hi] using hsz
    unfold execOp
    simp only [ho, ha.ev hx]
    simp [Instr.sliceAt, run_underlying ht, Instr.sureAddr, Instr.sliceBounds, sizeOf, typeInfo, hi, hf, Addr.add, go_sem]
theorem cells_one {u : Value} (h : u.oneCell' = true) : u.cells = #[u] := by cases u <;> first | rfl | simp [Value.oneCell'] at h
theorem fill_range : ∀ (vs : List Value) (k : Nat) (cells : Array Value), (∀ v ∈ vs, v.oneCell' = true) → cells.size = k + vs.length →
    Instr.fill (fun i => some (i * 1, 1)) cells ((List.range' k vs.length).zip vs) = some (cells.toList.take k ++ vs).toArray
  | [], k, cells, _, hs => by
    simp only [List.length_nil, List.range'_zero, List.zip_nil_right, Instr.fill, List.append_nil]
    rw [List.take_of_length_le (by simp at hs ⊢; omega)]
  | u :: r, k, cells, h1, hs => by
    have hu := cells_one (h1 u List.mem_cons_self)
    have ih := fill_range r (k + 1) (cells.setIfInBounds k u) (fun v hv => h1 v (List.mem_cons_of_mem _ hv)) (by simp at hs ⊢; omega)
    simp only [List.length_cons, List.range'_succ, List.zip_cons_cons, Instr.fill, hu, Nat.mul_one]
    have hlt : k < cells.size := by simp at hs; omega
    rw [if_neg (by simp; omega)]
    have hz : ∀ (q : Array (Value × Nat)), q = #[(u, 0)] → q.foldl (fun cs x => match x with | (c, j) => cs.setIfInBounds (k + j) c) cells = cells.setIfInBounds k u := by
      rintro _ rfl; simp
    have hz2 := hz (#[u].zipIdx) (by simp)
    refine Eq.trans ?_ (ih.trans ?_)
    · congr 1
      funext i; rw [Nat.mul_one]
    · congr 1
      simp only [Array.toList_setIfInBounds]
      rw [List.take_add_one, List.take_set_of_le (Nat.le_refl _)]
      simp [hlt]
theorem Gives.buildA {len sz : Nat} {parts : Array (Nat × Operand)} {vs : List Value} {zv : Value} {cs : Array Value} (ho : o.op = .build t parts) (ht : P.underlying t = some (.array len el)) (hsz : (P.info? el).map (·.size) = some sz) (hz : (P.info? t).bind (·.zero) = some zv)
    (hx : evs e (parts.toList.map (·.2)) = some vs) (hf : Instr.fill (fun i => some (i * sz, sz)) zv.cells ((parts.toList.map (·.1)).zip vs) = some cs) : Gives P n o e w (.agg cs) := .run fun a ha => by
  have hvs := ha.evs hx
  have hparts : (parts.map fun (i, x) => (i, a.eval x)).toList = (parts.toList.map (·.1)).zip vs := by
    rw [← hvs, Array.toList_map]
    apply List.ext_getElem
    · simp
    · intro j h1 h2; simp
  cases hi : P.info? el with
  | none => simp [hi] at hsz
  | some f =>
    have hf' : f.size = sz := by simpa [hi] using hsz
    cases hti : P.info? t with
    | none => simp [hti] at hz
    | some f2 =>
      have hz2 : f2.zero = some zv := by simpa [hti] using hz
      have hzero : (zeroValue t).run P w = .ok zv w := by simp [zeroValue, typeInfo, hti, hz2, go_sem]
      have hs : (sizeOf el).run P w = .ok sz w := by simp [sizeOf, typeInfo, hi, hf']
      unfold execOp
      simp only [ho, Instr.build, Sem.run_bind, hzero, run_underlying ht, Result.andThen_ok, hs, Sem.run_pure]
      rw [hparts, hf]
      rfl
theorem Gives.buildA1 {len : Nat} {parts : Array (Nat × Operand)} {vs : List Value} (ho : o.op = .build t parts) (ht : P.underlying t = some (.array len el)) (hsz : (P.info? el).map (·.size) = some 1) (hz : ((P.info? t).bind (·.zero)).map (fun z => z.cells.size) = some len)
    (hi : parts.toList.map (·.1) = List.range' 0 len) (hx : evs e (parts.toList.map (·.2)) = some vs) (h1 : vs.all (·.oneCell') = true) : Gives P n o e w (.agg vs.toArray) := by
  cases hq : (P.info? t).bind (·.zero) with
  | none => simp [hq] at hz
  | some zv =>
    have hzs : zv.cells.size = len := by simpa [hq] using hz
    have hvl : vs.length = len := by
      have h2 : ∀ (xs : List Operand) (vs : List Value), evs e xs = some vs → vs.length = xs.length := by
        intro xs
        induction xs with
        | nil => intro vs h; simp [evs] at h; subst h; rfl
        | cons x r ih =>
          intro vs h
          unfold evs at h
          cases h3 : ev e x <;> cases h4 : evs e r <;> simp [h3, h4] at h
          subst h
          simp [ih _ h4]
      rw [h2 _ _ hx]
      have := congrArg List.length hi
      simpa using this
    refine Gives.buildA ho ht hsz hq hx ?_
    rw [hi, ← hvl, fill_range vs 0 zv.cells (by simpa [List.all_eq_true] using h1) (by rw [hzs, hvl]; omega)]
    simp
theorem Gives.buildS {fields : Array Field} {parts : Array (Nat × Operand)} {vs : List Value} {zv : Value} {cs : Array Value} {pl : List (Nat × Nat)} (ho : o.op = .build t parts) (ht : P.underlying t = some (.struct fields)) (hpl : fields.toList.mapM (fun f => (P.info? f.type).map (fun i => (f.offset, i.size))) = some pl) (hz : (P.info? t).bind (·.zero) = some zv)
    (hx : evs e (parts.toList.map (·.2)) = some vs) (hf : Instr.fill (fun i => pl.toArray[i]?) zv.cells ((parts.toList.map (·.1)).zip vs) = some cs) : Gives P n o e w (.agg cs) := .run fun a ha => by
  have hvs := ha.evs hx
  have hparts : (parts.map fun (i, x) => (i, a.eval x)).toList = (parts.toList.map (·.1)).zip vs := by
    rw [← hvs, Array.toList_map]
    apply List.ext_getElem
    · simp
    · intro j h1 h2; simp
  cases hti : P.info? t with
  | none => simp [hti] at hz
  | some f2 =>
    have hz2 : f2.zero = some zv := by simpa [hti] using hz
    have hzero : (zeroValue t).run P w = .ok zv w := by simp [zeroValue, typeInfo, hti, hz2, go_sem]
    have hmap : ∀ (l : List Field) (pl : List (Nat × Nat)), l.mapM (fun f => (P.info? f.type).map (fun i => (f.offset, i.size))) = some pl → (l.mapM (fun f => do pure (f.offset, ← sizeOf f.type) : Field → Sem (Nat × Nat))).run P w = .ok pl w := by
      intro l
      induction l with
      | nil => intro pl h; simp at h; subst h; rfl
      | cons f r ih =>
        intro pl h
        simp only [List.mapM_cons, Option.bind_eq_bind, Option.bind_eq_some_iff, Option.map_eq_some_iff] at h
        obtain ⟨_, ⟨i, hi, rfl⟩, ps, hps, h⟩ := h
        simp only [Option.pure_def, Option.some.injEq] at h
        subst h
        have := ih ps hps
        have hs : ∀ w, (sizeOf f.type).run P w = .ok i.size w := fun w => by simp [sizeOf, typeInfo, hi]
        simp only [List.mapM_cons, Sem.run_bind, Sem.run_pure, Result.andThen_ok, hs]
        rw [this]
        rfl
    have hm : (fields.mapM (fun f => do pure (f.offset, ← sizeOf f.type) : Field → Sem (Nat × Nat))).run P w = .ok pl.toArray w := by
      rw [Array.mapM_eq_mapM_toList]
      have h2 : ∀ m : Sem (List (Nat × Nat)), (Functor.map List.toArray m).run P w = (m.run P w).andThen fun x w' => .ok x.toArray w' := fun m => by
        rw [← bind_pure_comp, Sem.run_bind]; rfl
      rw [h2, hmap _ _ hpl]
      rfl
    unfold execOp
    simp only [ho, Instr.build, Sem.run_bind, hzero, run_underlying ht, Result.andThen_ok, hm, Sem.run_pure]
    rw [hparts, hf]
    rfl
/-- a box written whole, its parts listed -/
theorem Does.stL {t' : TypeId} {g : Nat} {cs : Array Value} {vs : List Value} (k : Nat) (ho : o.op = .store t x y) (hx : ev e x = some (.pointer (some ⟨g, 0, none⟩))) (hy : ev e y = some (.agg vs.toArray)) (hg : Blk w g t' cs) (hi : (P.info? t).map (·.size) = some k) (hk : vs.length = k) (hold : cs.size = k) (h1 : vs.all (·.oneCell') = true) :
    Does P n o e w (fun _ w' => Blk w' g t' vs.toArray ∧ Fr (fun k => k ≠ g) w w') :=
  Does.stB ho hx hy hg (by rw [hi]; simp [hk]) (by rw [hold]; simp [hk]) (by simpa using h1)
/-! Literals. -/
/-- a slice literal, all its elements given -/
theorem Does.lit {len : Nat} {parts : Array (Nat × Operand)} {vs : List Value} {zv : Value} (ho : o.op = .buildSlice t len parts) (ht : P.underlying t = some (.slice el)) (hinf : (P.info? el).map (fun i => (i.zero, i.size)) = some (some zv, 1)) (hzv : zv.cells.size = 1)
    (hi : parts.toList.map (·.1) = List.range' 0 len) (hx : evs e (parts.toList.map (·.2)) = some vs) (h1 : vs.all (·.oneCell') = true) (hlen : Nat.ble len 16777216 = true) :
    Does P n o e w (fun v w' => ∃ g, v = .slice (some ⟨g, 0, none⟩) len len ∧ w.heap.size ≤ g ∧ Blk w' g el vs.toArray ∧ Ext w w') := by
  intro a ha ops Q rest hw hK
  have hlen := Nat.le_of_ble_eq_true hlen
  refine BigFrame.wpList_want hw fun K hk => ?_
  have hvs := ha.evs hx
  have hvl : vs.length = len := by
    rw [← hvs]; simp
    have := congrArg List.length hi
    simpa using this
  have hparts : (parts.map fun (i, x) => (i, a.eval x)).toList = (List.range' 0 vs.length).zip vs := by
    rw [hvl, ← hi, ← hvs, Array.toList_map]
    apply List.ext_getElem
    · simp
    · intro j h1 h2; simp
  cases hie : P.info? el with
  | none => simp [hie] at hinf
  | some f =>
    have hf : f.zero = some zv ∧ f.size = 1 := by simpa [hie] using hinf
    have hzero : ∀ w, (zeroValue el).run P w = .ok zv w := fun w => by simp [zeroValue, typeInfo, hie, hf.1, go_sem]
    have hsz : ∀ w, (sizeOf el).run P w = .ok 1 w := fun w => by simp [sizeOf, typeInfo, hie, hf.2]
    have hfill : ∀ cs0 : Array Value, cs0.size = len → Instr.fill (fun i => some (i * 1, 1)) cs0 (parts.map fun (i, x) => (i, a.eval x)).toList = some vs.toArray := fun cs0 h0 => by
      rw [hparts, fill_range vs 0 cs0 (by simpa [List.all_eq_true] using h1) (by rw [h0, hvl]; omega)]
      simp
    have hfill' : ∀ cs0 : Array Value, cs0.size = len → Instr.fill (fun i => some (i, 1)) cs0 (parts.map fun x => (x.fst, a.eval x.snd)).toList = some vs.toArray := fun cs0 h0 => by
      have := hfill cs0 h0
      simp only [Nat.mul_one] at this
      exact this
    have hrun : (execOp a.eval o).run P w = .ok (.value (.slice (some ⟨w.heap.size, 0, none⟩) len len)) (w.alloc (.cells vs.toArray el)) := by
      unfold execOp
      simp only [ho, Instr.buildSlice, Sem.run_bind, run_underlying ht, Result.andThen_ok, hsz, Nat.mul_one]
      rw [if_neg (by omega)]
      by_cases h0 : len = 0
      · rw [if_pos h0]
        simp only [Sem.run_pure, Sem.run_bind, Result.andThen_ok]
        rw [hfill' _ (by simp [h0])]
        simp [newRow, go_sem]
      · rw [if_neg h0]
        simp only [Sem.run_pure, Sem.run_bind, Result.andThen_ok, hzero]
        rw [hfill' _ (by simp)]
        simp [newRow, go_sem]
    unfold Oper.wp
    rw [hrun]
    exact hk _ _ (hK _ _ ⟨_, rfl, Nat.le_refl _, Blk.new _ _ _, (Ext.refl _).alloc _⟩)
end
end Go.Proofs.YtdekjkcnfebfnaaDoor
