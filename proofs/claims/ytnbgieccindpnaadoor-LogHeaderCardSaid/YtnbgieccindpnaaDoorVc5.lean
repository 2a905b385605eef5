/- Laws over slots kept in a list: structs in the middle of a row, arrays by value, literals of structs, rows of ints. -/
import Derived.Test.YtnbgieccindpnaaDoorVc4
import Derived.Deep.MidRow
import Derived.DeepKeys
namespace Go.Proofs.YtnbgieccindpnaaDoor
set_option linter.all false
set_option maxRecDepth 20000
open Go.RowKit
section
variable {P : Program} {n : Nat} {e : Env} {w : World} {o : Oper} {x y z : Operand} {t el : TypeId} {v : Value} {k : IntKind}
/-- a struct or an array read, wherever it lies -/
theorem Gives.ldM {b off : Nat} {cs : List Value} (ho : o.op = .load t x) (hd : (match P.underlying t with | some (.struct _) | some (.array _ _) => true | _ => false) = true) (hx : ev e x = some (.pointer (some ⟨b, off, none⟩))) (hc : w.rangeAt b off cs) (hi : (P.info? t).map (·.size) = some cs.length) : Gives P n o e w (.agg cs.toArray) := .run fun a ha => by
  cases hu : P.underlying t with
  | none => simp [hu] at hd
  | some d =>
    have hr : d.isRow = true := by simp only [hu] at hd; cases d <;> simp_all [TypeDesc.isRow]
    have h := run_loadAt_mid (P := P) w b off t cs d hc hu hr hi
    unfold execOp
    simp only [ho, ha.ev hx, Sem.run_bind, h, Result.andThen_ok]
    rfl
theorem GV.range {g : Nat} {vs : List Value} (h : GV w g vs) : w.rangeAt g 0 vs := fun j v hv => by rw [Nat.zero_add]; exact h.2 j v hv
/-- an element of an array by value, itself an array or a struct -/
theorem Gives.idxA {len sz i : Nat} {zi : Int} {cs : Array Value} (ho : o.op = .index t x y) (ht : P.underlying t = some (.array len el)) (hd : (match P.underlying el with | some (.struct _) | some (.array _ _) => true | _ => false) = true) (hsz : (P.info? el).map (·.size) = some sz) (hx : ev e x = some (.agg cs)) (hy : ev e y = some (.int k zi)) (hz : zi = (i : Int)) (hlt : i < len) {r : Array Value} (hr : cs.extract (i * sz) (i * sz + sz) = r) : Gives P n o e w (.agg r) := .run fun q hq => by
  subst hz hr
  cases hu : P.underlying el with
  | none => simp [hu] at hd
  | some d =>
    cases hq' : P.info? el with
    | none => simp [hq'] at hsz
    | some f =>
      have hf : f.size = sz := by simpa [hq'] using hsz
      have hagg : (isAgg el).run P w = .ok true w := by
        unfold isAgg
        rw [Sem.run_bind, run_underlying hu w]
        simp only [hu] at hd
        cases d <;> simp_all
      have h1 : (0 : Int) ≤ (i : Int) ∧ (i : Int) < (len : Int) := ⟨by omega, by omega⟩
      unfold execOp
      simp only [ho, hq.ev hx, hq.ev hy]
      simp [Instr.index, asIntOf, run_underlying ht, part, hagg, sizeOf, typeInfo, hq', hf, go_sem, hlt]
/-- an element's address: a slice, elements of any size -/
theorem Gives.ixSZ {b off m c i sz : Nat} {zi : Int} (ho : o.op = .indexAddr t x y) (ht : P.underlying t = some (.slice el)) (hsz : (P.info? el).map (·.size) = some sz) (hx : ev e x = some (.slice (some ⟨b, off, none⟩) m c)) (hy : ev e y = some (.int k zi)) (hz : zi = (i : Int)) (hlt : i < m) :
    Gives P n o e w (.pointer (some ⟨b, off + i * sz, none⟩)) := .run fun q hq => by
  subst hz
  cases hq' : P.info? el with
  | none => simp [hq'] at hsz
  | some f =>
    have hf : f.size = sz := by simpa [hq'] using hsz
    have h1 : (i : Int) < m := by omega
    unfold execOp
    simp only [ho, hq.ev hx, hq.ev hy]
    simp [Instr.indexAt, asIntOf, run_underlying ht, h1, hlt, sizeOf, typeInfo, hq', hf, Addr.add_lit, go_sem]
    try (intro h; omega)
theorem Gives.ixAZ {len g off i sz : Nat} {zi : Int} (ho : o.op = .indexAddr t x y) (ht : P.underlying t = some (.array len el)) (hsz : (P.info? el).map (·.size) = some sz) (hx : ev e x = some (.pointer (some ⟨g, off, none⟩))) (hy : ev e y = some (.int k zi)) (hz : zi = (i : Int)) (hlt : i < len) (h0 : 0 < sz) :
    Gives P n o e w (.pointer (some ⟨g, off + i * sz, none⟩)) := .run fun q hq => by
  subst hz
  cases hq' : P.info? el with
  | none => simp [hq'] at hsz
  | some f =>
    have hf : f.size = sz := by simpa [hq'] using hsz
    have h1 : (i : Int) < len := by omega
    unfold execOp
    simp only [ho, hq.ev hx, hq.ev hy]
    simp [Instr.indexAt, asIntOf, run_underlying ht, h1, hlt, sizeOf, typeInfo, hq', hf, Addr.add_lit, Instr.sureAddr, go_sem]
    try (intro h; omega)
theorem fold_set : ∀ (vs : List Value) (k : Nat) (cells : Array Value), cells.size = k + vs.length →
    (vs.zipIdx k).foldl (fun (cs : Array Value) (q : Value × Nat) => cs.setIfInBounds (0 + q.2) q.1) cells = (cells.toList.take k ++ vs).toArray
  | [], k, cells, h => by
    apply Array.ext'
    simp only [List.zipIdx_nil, List.foldl_nil, List.append_nil]
    rw [List.take_of_length_le (by simp at h ⊢; omega)]
  | v :: r, k, cells, h => by
    rw [List.zipIdx_cons, List.foldl_cons, fold_set r (k + 1) _ (by simp at h ⊢; omega)]
    apply Array.ext'
    have hk : k < cells.toList.length := by simp at h ⊢; omega
    simp only [Nat.zero_add, Array.toList_setIfInBounds]
    rw [List.take_add_one, List.take_set_of_le (Nat.le_refl _)]
    simp at hk
    simp [hk]
theorem fill_one {sz : Nat} {cs cells : Array Value} (h1 : cs.size = sz) (h2 : cells.size = sz) : Instr.fill (fun i => some (i * sz, sz)) cells [(0, .agg cs)] = some cs := by
  unfold Instr.fill
  have hc : (Value.agg cs).cells = cs := rfl
  simp only [Nat.zero_mul, hc, h1, h2]
  rw [if_neg (by simp)]
  unfold Instr.fill
  congr 1
  have h := fold_set cs.toList 0 cells (by simp [h1, h2])
  simp only [List.take_zero, List.nil_append] at h
  rw [← Array.foldl_toList, Array.toList_zipIdx]
  exact h
/-- a slice literal of one struct -/
theorem Does.lit1 {cs : Array Value} {zv : Value} (sz : Nat) (ho : o.op = .buildSlice t 1 #[(0, x)]) (ht : P.underlying t = some (.slice el)) (hinf : (P.info? el).map (fun i => (i.zero, i.size)) = some (some zv, sz)) (hx : ev e x = some (.agg cs)) (hcs : cs.size = sz) (hsz : (Nat.ble sz 16777216 && Nat.ble 1 sz) = true) :
    Does P n o e w (fun v w' => ∃ g, v = .slice (some ⟨g, 0, none⟩) 1 1 ∧ w.heap.size ≤ g ∧ Blk w' g el cs ∧ Ext w w') := by
  intro a ha ops Q rest hw hK
  refine BigFrame.wpList_want hw fun K hk => ?_
  simp only [Bool.and_eq_true] at hsz
  have hsz' := Nat.le_of_ble_eq_true hsz.1
  have hsz0 := Nat.le_of_ble_eq_true hsz.2
  cases hie : P.info? el with
  | none => simp [hie] at hinf
  | some f =>
    have hf : f.zero = some zv ∧ f.size = sz := by simpa [hie] using hinf
    have hzero : ∀ w, (zeroValue el).run P w = .ok zv w := fun w => by simp [zeroValue, typeInfo, hie, hf.1, go_sem]
    have hs : ∀ w, (sizeOf el).run P w = .ok sz w := fun w => by simp [sizeOf, typeInfo, hie, hf.2]
    have hrun : (execOp a.eval o).run P w = .ok (.value (.slice (some ⟨w.heap.size, 0, none⟩) 1 1)) (w.alloc (.cells cs el)) := by
      unfold execOp
      simp only [ho, Instr.buildSlice, Sem.run_bind, run_underlying ht, Result.andThen_ok, hs, Nat.one_mul]
      rw [if_neg (by omega)]
      rw [if_neg (by omega)]
      simp only [Sem.run_pure, Sem.run_bind, Result.andThen_ok, hzero, List.map_toArray, List.map_cons, List.map_nil, ha.ev hx]
      rw [fill_one hcs (by simp)]
      simp [newRow, go_sem]
    unfold Oper.wp
    rw [hrun]
    exact hk _ _ (hK _ _ ⟨_, rfl, Nat.le_refl _, Blk.new _ _ _, (Ext.refl _).alloc _⟩)
end
section
variable {P : Program} {n : Nat} {e : Env} {w : World} {o : Oper} {x y : Operand} {t el : TypeId}
/-- one byte of a row of the call's own written -/
theorem Does.stO {g i m c base : Nat} {l : List UInt8} (v : UInt8) {z : Int} (ho : o.op = .store t x y) (hx : ev e x = some (.pointer (some ⟨g, 0 + i, none⟩))) (hy : ev e y = some (.int .u8 z)) (hz : z = (v.toNat : Int)) (hown : OB w base el (some ⟨g, 0, none⟩) m c l) (hi : (P.info? t).map (·.size) = some 1) (hlt : i < m) :
    Does P n o e w (fun _ w' => OB w' base el (some ⟨g, 0, none⟩) m c (l.set i v) ∧ Fr (fun k => k ≠ g) w w') := by
  subst hz
  have hl := hown.len
  rcases hown.2 with ⟨hv, h0⟩ | ⟨g', cap, cur, hv, hb, hg, hnc, hcm, hcs, ht⟩
  · omega
  · simp only [Value.slice.injEq, Option.some.injEq, Addr.mk.injEq, and_true, true_and] at hv
    obtain ⟨rfl, rfl⟩ := hv
    have hsz : i < cur.size := by omega
    refine (Does.stC (i := 0 + i) ho hx hy (show Blk w g el cur from hg) hi (by omega) rfl).mono fun _ w' ⟨h1, h2⟩ => ⟨⟨by simp [u8s, hl], .inr ⟨g, c, cur.setIfInBounds i (.int .u8 (v.toNat : Int)), rfl, hb, by rw [Nat.zero_add] at h1; exact h1, hnc, hcm, by simpa using hcs, ?_⟩⟩, h2⟩
    simp only [Nat.mul_one] at ht ⊢
    rw [Array.toList_setIfInBounds, List.take_set, ht]
    simp [u8s, List.map_set]
theorem Does.stM {g i : Nat} {tt : TypeId} {l : List UInt8} (v : UInt8) {z : Int} (ho : o.op = .store t x y) (hx : ev e x = some (.pointer (some ⟨g, 0 + i, none⟩))) (hy : ev e y = some (.int .u8 z)) (hz : z = (v.toNat : Int)) (hm : MB w g tt l) (hi : (P.info? t).map (·.size) = some 1) (hlt : i < l.length) :
    Does P n o e w (fun _ w' => MB w' g tt (l.set i v) ∧ Fr (fun k => k ≠ g) w w') := by
  subst hz
  refine (Does.stC (i := 0 + i) ho hx hy hm hi (by simp [u8s]; exact hlt) rfl).mono fun _ w' ⟨h1, h2⟩ => ⟨?_, h2⟩
  unfold MB
  have e : (u8s (l.set i v)).toArray = (u8s l).toArray.setIfInBounds i (.int .u8 (v.toNat : Int)) := by
    apply Array.ext'
    simp [u8s, List.map_set]
  rw [e]
  rw [Nat.zero_add] at h1
  exact h1
end
theorem OB.head {w : World} {base e n c : Nat} {A : Option Addr} {l : List UInt8} (h : OB w base e A n c l) (hn : 0 < n) : ∃ g, A = some ⟨g, 0, none⟩ ∧ base ≤ g := by
  obtain ⟨g, cap, hv, hbg, hlt⟩ := h.form hn
  simp only [Value.slice.injEq] at hv
  exact ⟨g, hv.1, hbg⟩
theorem BV.cellAt {w : World} {P : Nat → Prop} {g off n c i : Nat} {l : List UInt8} {x : UInt8} (h : BV w P (some ⟨g, off, none⟩) n c l) (hx : l[i]? = some x) : w.cell? ⟨g, off + i, none⟩ = some (.int .u8 (x.toNat : Int)) := by
  have hl := h.len
  have hi := (List.getElem?_eq_some_iff.1 hx).1
  obtain ⟨b, o, hA, _, _, hc⟩ := h.2.2.2 (by omega)
  cases hA
  exact hc i _ (by simp [u8s, hx])
theorem BV.cell0 {w : World} {P : Nat → Prop} {g n c i : Nat} {l : List UInt8} {x : UInt8} (h : BV w P (some ⟨g, 0, none⟩) n c l) (hx : l[i]? = some x) : w.cell? ⟨g, 0 + i, none⟩ = some (.int .u8 (x.toNat : Int)) := by
  have hl := h.len
  have hi := (List.getElem?_eq_some_iff.1 hx).1
  obtain ⟨b, off, hA, _, _, hc⟩ := h.2.2.2 (by omega)
  cases hA
  exact hc i _ (by simp [u8s, hx])
theorem BV.only {w : World} {P : Nat → Prop} {g off n c : Nat} {l : List UInt8} (h : BV w P (some ⟨g, off, none⟩) n c l) : BV w (fun q => q = g) (some ⟨g, off, none⟩) n c l :=
  ⟨h.1, h.2.1, h.2.2.1, fun hn => by obtain ⟨b, o, hA, hb, _, hc⟩ := h.2.2.2 hn; cases hA; exact ⟨_, _, rfl, hb, rfl, hc⟩⟩
def gb1 (l : List UInt8) (i : Nat) : UInt8 := l.getD i 0
theorem gb1_some (l : List UInt8) (i : Nat) (h : i < l.length) : l[i]? = some (gb1 l i) := by unfold gb1; simp [h]
section
variable {P : Program} {ops : Array Oper} {rest : List Oper} {o : Oper} {a : Act} {Q : Exit → Act → World → Prop} {S : Nat → Prop} {w : World}
/-- 'copy(s[k:k+q], src)', s a row of the call's own -/
theorem wpList_cpD (hgd : o.guard = none) (d s : Operand) (dT sT : TypeId)
    (ho : o.op = .call { callee := .builtin .copy, args := #[d, s], argTypes := #[dT, sT] }) (elem : TypeId) (hu : P.underlying dT = some (.slice elem)) (hsz : (P.info? elem).map (fun i => (i.zero, i.size, i.bytes)) = some (some (.int .u8 0), 1, 1))
    {A : Option Addr} {m c : Nat} (hs : a.eval s = .slice A m c) {r : List UInt8} (hr : BV w S A m c r)
    {base : Nat} {e : TypeId} {B : Option Addr} {n cap : Nat} {l : List UInt8} (hown : OB w base e B n cap l) (k q : Nat) (hk : k + q ≤ n) (hd : a.eval d = .slice (cutAddr B cap k 1) q (cap - k))
    (h : ∀ w', OB w' base e B n cap (spliceB l k (r.take q)) → Below base w w' → wpList P ops Q rest (a.put o.dst (goInt ((min m q : Nat) : Int))) w') :
    wpList P ops Q (o :: rest) a w := by
  have hm := hr.len
  have hln := hown.len
  have hsz1 : (P.info? elem).map (·.size) = some 1 := by
    obtain ⟨i, hi, _, hz1, _⟩ := info_parts hsz
    simp [hi, hz1]
  by_cases h0 : min m q = 0
  · refine wpList_copy_nothing hgd d s dT sT ho elem hu hsz1 _ A q (cap - k) m c hd hs (by simpa using h0) ?_
    have e' : r.take q = [] := by
      rcases Nat.eq_zero_or_pos q with h1 | h1
      · rw [h1]; rfl
      · have : m = 0 := by omega
        rw [List.eq_nil_of_length_eq_zero (hm.trans this)]; simp
    have hk' := h w (by rw [e']; simpa [spliceB] using hown) (Below.refl _ _)
    rwa [h0] at hk'
  · rcases hown.2 with ⟨hv, hn0⟩ | ⟨g, cap', cur, hv, hb, hg, hnc, hcm, hcs, ht⟩
    · omega
    · simp only [Value.slice.injEq] at hv
      obtain ⟨rfl, _, rfl⟩ := hv
      obtain ⟨b, ob, rfl, _, _, hc⟩ := hr.2.2.2 (by omega)
      have hl : (r.take q).length = min m q := by rw [List.length_take]; omega
      have hca : cutAddr (some ⟨g, 0, none⟩) cap k 1 = some ⟨g, k, none⟩ := by
        unfold cutAddr
        rw [if_neg (by omega)]
        simp [Addr.add_lit]
      rw [hca] at hd
      have hcs' : n ≤ cur.size := by
        have h1 := congrArg List.length ht
        simp [u8s, hln] at h1
        omega
      have hnews : (u8s (r.take q)).length = min m q := by rw [u8s_length, hl]
      refine wpList_copy_own hgd d s dT sT ho elem hu hsz1 g k q (cap - k) ⟨b, ob, none⟩ m c hd hs cur e hg (u8s (r.take q)) (by rw [hnews]) (fun j v hv => ?_) (by rw [hnews]; omega) (u8s_one _) ?_
      · rw [Addr.add_lit]
        refine hc j v ?_
        rw [← u8s_take, List.getElem?_take] at hv
        split at hv
        · exact hv
        · cases hv
      · have hrow := setRow_heap w g cur (cur.toList.take k ++ (u8s (r.take q) ++ cur.toList.drop (k + (u8s (r.take q)).length))).toArray e (0, 0) hg
        have hk' := h (w.setRow g (cur.toList.take k ++ (u8s (r.take q) ++ cur.toList.drop (k + (u8s (r.take q)).length))).toArray) ?_ ⟨rfl, rfl, rfl, by simp, fun q hq => setRow_other w g q _ (by omega)⟩
        · have e2 : ((u8s (r.take q)).length : Int) = ((min m q : Nat) : Int) := by rw [hnews]
          rw [e2]; exact hk'
        · have hsp : (spliceB l k (r.take q)).length = n := by rw [spliceB_len _ _ _ (by rw [hl]; omega)]; exact hln
          refine ⟨by rw [u8s_length, hsp]; simp, .inr ⟨g, cap, _, rfl, hb, hrow, hnc, hcm, ?_, ?_⟩⟩
          · have hz : (cur.toList.take k ++ (u8s (r.take q) ++ cur.toList.drop (k + (u8s (r.take q)).length))).toArray.size = cur.size := by
              simp [hnews]; omega
            rw [hz]; exact hcs
          · simp only [Nat.mul_one] at ht ⊢
            have hcur : cur.toList = u8s l ++ cur.toList.drop n := by rw [← ht, List.take_append_drop]
            have hul : (u8s l).length = n := by rw [u8s_length, hln]
            rw [hcur]
            have e1 : (u8s l ++ cur.toList.drop n).take k = u8s (l.take k) := by
              rw [List.take_append_of_le_length (by omega), u8s_take]
            have e2 : (u8s l ++ cur.toList.drop n).drop (k + (u8s (r.take q)).length) = u8s (l.drop (k + (r.take q).length)) ++ cur.toList.drop n := by
              rw [List.drop_append_of_le_length (by rw [hul, hnews]; omega), u8s_drop, u8s_length]
            rw [e1, e2]
            have e3 : u8s (l.take k) ++ (u8s (r.take q) ++ (u8s (l.drop (k + (r.take q).length)) ++ cur.toList.drop n)) = u8s (spliceB l k (r.take q)) ++ cur.toList.drop n := by
              unfold spliceB
              rw [← u8s_append, ← u8s_append]; simp
            rw [e3]
            show List.take n (u8s (spliceB l k (r.take q)) ++ cur.toList.drop n) = _
            rw [List.take_append_of_le_length (by rw [u8s_length, hsp]; omega), List.take_of_length_le (by rw [u8s_length, hsp]; omega)]
end
section
variable {P : Program} {n : Nat} {e : Env} {w : World} {o : Oper} {x y : Operand} {el : TypeId} {S : Nat → Prop}
theorem Does.cpO {dT sT : TypeId} {A B : Option Addr} {m c p cap base : Nat} {ee : TypeId} {l r : List UInt8} (k q : Nat) (hgd : o.guard = none) (ho : o.op = .call { callee := .builtin .copy, args := #[x, y], argTypes := #[dT, sT] }) (ht : P.underlying dT = some (.slice el)) (hinf : (P.info? el).map (fun i => (i.zero, i.size, i.bytes)) = some (some (.int .u8 0), 1, 1))
    (hx : ev e x = some (.slice (cutAddr B cap k 1) q (cap - k))) (hy : ev e y = some (.slice A m c)) (hr : BV w S A m c r) (hown : OB w base ee B p cap l) (hk : k + q ≤ p) :
    Does P n o e w (fun v w' => v = .int .i64 ((min m q : Nat) : Int) ∧ OB w' base ee B p cap (spliceB l k (r.take q)) ∧ Below base w w') :=
  fun a ha ops Q rest hw hK => wpList_cpD hgd x y dT sT ho el ht hinf (ha.ev hy) hr hown k q hk (ha.ev hx) fun w' h1 h2 => hK _ w' ⟨rfl, h1, h2⟩
end
end Go.Proofs.YtnbgieccindpnaaDoor
