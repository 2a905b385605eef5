/- ImgP: merged. -/
import Derived.Test.YteppchoeiflnhaaDoorWireI
import Derived.Test.YteppchoeiflnhaaDoorGenA
import Derived.Laws.RangeAny
import Derived.Lib.BytesEntry
import Derived.Lib.IndexLaws
import Derived.Laws.Externs
/- Images: what is checked, written and read, in plain words. No program. -/
namespace Go.Proofs.YteppchoeiflnhaaDoor
set_option linter.all false
set_option maxRecDepth 20000
open Go.RowKit
structure Im where
  role : Int
  name : List UInt8
  ver : Int
  pay : List UInt8
def noIm : Im := ⟨0, [], 0, []⟩
def nameC (c : UInt8) : Bool := decide ((97 ≤ c.toNat ∧ c.toNat ≤ 122) ∨ (48 ≤ c.toNat ∧ c.toNat ≤ 57) ∨ c.toNat = 45)
def nameS (l : List UInt8) : Bool := decide (1 ≤ l.length ∧ l.length ≤ 12) && l.all nameC
def printC (c : UInt8) : Bool := decide (32 ≤ c.toNat ∧ c.toNat ≤ 126)
/-- lines, byte by byte: the lines so far, the line so far -/
def linesG : List UInt8 → List (List UInt8) → List UInt8 → List (List UInt8)
  | [], out, line => if line = [] then out else []
  | c :: r, out, line => if c.toNat = 10 then (if line = [] ∨ 4 ≤ out.length then [] else linesG r (out ++ [line]) []) else if printC c = true then linesG r out (line ++ [c]) else []
def linesS (l : List UInt8) : List (List UInt8) := linesG l [] []
def imgE (x : Im) : Int := if ¬ (1 ≤ x.role ∧ x.role ≤ 4 ∧ 0 ≤ x.ver ∧ x.ver ≤ 1000000) then 1 else if nameS x.name = false then 43 else if 64 < x.pay.length then 4 else if x.role = 4 ∧ linesS x.pay = [] then 40 else 0
def imgB (x : Im) : List UInt8 := if imgE x = 0 then blobS (blobS (uintS (uintS [] 1 x.role) 4 x.ver) x.name) x.pay else []
def id1 (b : List UInt8) : Rd × Int := rdUint ⟨b, 0, 0⟩ 1
def id2 (b : List UInt8) : Rd × Int := rdUint (id1 b).1 4
def id3 (b : List UInt8) : Rd × List UInt8 := rdBlob (id2 b).1 12
def id4 (b : List UInt8) : Rd × List UInt8 := rdBlob (id3 b).1 64
def imD (b : List UInt8) : Im := ⟨(id1 b).2, (id3 b).2, (id2 b).2, (id4 b).2⟩
def decOk (b : List UInt8) : Bool := decide (rdEnd (id4 b).1 = 0) && decide (imgE (imD b) = 0)
def decI (b : List UInt8) : Im := if decOk b = true then imD b else noIm
def decE (b : List UInt8) : Int := if decOk b = true then 0 else 30
def regS (r : Int) : Int := if r = 1 then 0 else if r = 2 then 4 else if r = 3 then 8 else if r = 4 then 9 else -1
/-! names -/
theorem name_no {l : List UInt8} {i : Nat} {c : UInt8} (h : l[i]? = some c) (hc : nameC c = false) : nameS l = false := by
  unfold nameS
  rw [Bool.and_eq_false_iff]
  right
  rw [Bool.eq_false_iff]
  intro hh
  have := List.all_eq_true.1 hh c (List.mem_of_getElem? h)
  rw [hc] at this; cases this
theorem name_len {l : List UInt8} (h : ¬ (1 ≤ l.length ∧ l.length ≤ 12)) : nameS l = false := by unfold nameS; rw [decide_eq_false h]; rfl
theorem name_yes {l : List UInt8} (h : 1 ≤ l.length ∧ l.length ≤ 12) (ha : ∀ i < l.length, ∀ c, l[i]? = some c → nameC c = true) : nameS l = true := by
  unfold nameS
  rw [decide_eq_true h, Bool.true_and, List.all_eq_true]
  intro c hc
  obtain ⟨i, hi⟩ := List.getElem?_of_mem hc
  exact ha i (List.getElem?_eq_some_iff.1 hi).1 c hi
/-! lines -/
theorem linesG_cons (c : UInt8) (r : List UInt8) (out : List (List UInt8)) (line : List UInt8) : linesG (c :: r) out line = if c.toNat = 10 then (if line = [] ∨ 4 ≤ out.length then [] else linesG r (out ++ [line]) []) else if printC c = true then linesG r out (line ++ [c]) else [] := rfl
theorem linesG_nl (pre post : List UInt8) (out : List (List UInt8)) : ∀ line : List UInt8, (∀ c ∈ pre, c.toNat ≠ 10) → linesG (pre ++ 10 :: post) out line = if (line ++ pre = [] ∨ 4 ≤ out.length ∨ pre.all printC = false) then [] else linesG post (out ++ [line ++ pre]) [] := by
  induction pre with
  | nil =>
    intro line _
    show (if (10 : UInt8).toNat = 10 then _ else _) = _
    rw [if_pos (show UInt8.toNat 10 = 10 from rfl), List.append_nil]
    have e : ([] : List UInt8).all printC = true := rfl
    rw [e]
    by_cases h : line = [] ∨ 4 ≤ out.length
    · rw [if_pos h, if_pos (by rcases h with h | h; exact .inl h; exact .inr (.inl h))]
    · rw [if_neg h, if_neg (by rintro (h1 | h1 | h1); exact h (.inl h1); exact h (.inr h1); cases h1)]
  | cons c r ih =>
    intro line hc
    have h1 := ih (line ++ [c]) (fun x hx => hc x (List.mem_cons_of_mem _ hx))
    rw [List.cons_append, linesG_cons, if_neg (hc c (List.mem_cons_self ..))]
    by_cases hp : printC c = true
    · rw [if_pos hp, h1]
      have e1 : line ++ [c] ++ r = line ++ c :: r := by simp
      have e2 : (c :: r).all printC = r.all printC := by rw [List.all_cons, hp, Bool.true_and]
      rw [e1, e2]
    · rw [if_neg hp, if_pos]
      right; right
      rw [List.all_cons, Bool.eq_false_iff.2 hp, Bool.false_and]
theorem linesG_no : ∀ (l : List UInt8) (out : List (List UInt8)) (line : List UInt8), (∀ c ∈ l, c.toNat ≠ 10) → line ++ l ≠ [] → linesG l out line = []
  | [], out, line, _, hne => by
    unfold linesG
    rw [if_neg (by simpa using hne)]
  | c :: r, out, line, hc, hne => by
    rw [linesG_cons, if_neg (hc c (List.mem_cons_self ..))]
    split
    · exact linesG_no r out _ (fun x hx => hc x (List.mem_cons_of_mem _ hx)) (by simp)
    · rfl
theorem linesG_len : ∀ (l : List UInt8) (out : List (List UInt8)) (line : List UInt8), out.length ≤ 4 → (linesG l out line).length ≤ 4
  | [], out, line, h => by unfold linesG; split; exact h; exact Nat.zero_le _
  | c :: r, out, line, h => by
    rw [linesG_cons]
    split
    · split
      · exact Nat.zero_le _
      · exact linesG_len r _ _ (by rw [List.length_append]; simp; omega)
    · split
      · exact linesG_len r _ _ h
      · exact Nat.zero_le _
/-! images -/
theorem img_ok {x : Im} (h : imgE x = 0) : (1 ≤ x.role ∧ x.role ≤ 4 ∧ 0 ≤ x.ver ∧ x.ver ≤ 1000000) ∧ nameS x.name = true ∧ x.pay.length ≤ 64 ∧ (x.role = 4 → linesS x.pay ≠ []) := by
  unfold imgE at h
  split at h
  · cases h
  · rename_i h1
    split at h
    · cases h
    · rename_i h2
      split at h
      · cases h
      · rename_i h3
        split at h
        · cases h
        · rename_i h4
          refine ⟨Decidable.not_not.1 h1, by simpa using h2, by omega, fun h5 h6 => h4 ⟨h5, h6⟩⟩
theorem img_mk {x : Im} (h1 : 1 ≤ x.role ∧ x.role ≤ 4 ∧ 0 ≤ x.ver ∧ x.ver ≤ 1000000) (h2 : nameS x.name = true) (h3 : x.pay.length ≤ 64) (h4 : x.role = 4 → linesS x.pay ≠ []) : imgE x = 0 := by
  unfold imgE
  rw [if_neg (fun h => h h1), if_neg (by rw [h2]; decide), if_neg (by omega), if_neg (fun h => h4 h.1 h.2)]
theorem name_max {l : List UInt8} (h : nameS l = true) : 1 ≤ l.length ∧ l.length ≤ 12 := by
  unfold nameS at h
  simp only [Bool.and_eq_true, decide_eq_true_eq] at h
  exact h.1
theorem imgB_eq {x : Im} (h : imgE x = 0) : imgB x = beS x.role 1 ++ (beS x.ver 4 ++ (blobT x.name ++ blobT x.pay)) := by
  obtain ⟨_, h2, h3, _⟩ := img_ok h
  have := name_max h2
  unfold imgB
  rw [if_pos h, blobS_eq _ _ (by omega), blobS_eq _ _ (by omega), uintS_ok _ _ 4 (by omega) (by omega), uintS_ok _ _ 1 (by omega) (by omega)]
  simp only [List.append_assoc, List.nil_append]
  rfl
theorem blobT_len (x : List UInt8) : (blobT x).length = 2 + x.length := by unfold blobT; rw [List.length_append, beS_len]
theorem imgB_len {x : Im} (h : imgE x = 0) : (imgB x).length = 9 + x.name.length + x.pay.length := by
  rw [imgB_eq h]; simp only [List.length_append, beS_len, blobT_len]; omega
theorem imgB_le (x : Im) : (imgB x).length ≤ 85 := by
  by_cases h : imgE x = 0
  · rw [imgB_len h]
    obtain ⟨_, h2, h3, _⟩ := img_ok h
    have := name_max h2
    omega
  · unfold imgB; rw [if_neg h]; exact Nat.zero_le _
theorem end_at {r : Rd} (h : At r []) : rdEnd r = 0 := by
  have hl := h.left
  have h0 : rdLeft r = (r.b.length : Int) - r.at_ := rfl
  unfold rdEnd
  rw [if_neg, h.e]
  rintro ⟨_, hh⟩
  rw [h0] at hh
  simp at hl
  omega
/-- a valid image is read as it was written -/
theorem dec_enc {x : Im} (h : imgE x = 0) : decOk (imgB x) = true ∧ imD (imgB x) = x := by
  obtain ⟨⟨r1, r4, v0, v1⟩, h2, h3, _⟩ := img_ok h
  have hn := name_max h2
  obtain ⟨ro, hro⟩ := Int.eq_ofNat_of_zero_le (show 0 ≤ x.role by omega)
  obtain ⟨ve, hve⟩ := Int.eq_ofNat_of_zero_le v0
  have hA : At ⟨imgB x, 0, 0⟩ (beS ((ro : Nat) : Int) 1 ++ (beS ((ve : Nat) : Int) 4 ++ (blobT x.name ++ (blobT x.pay ++ [])))) := ⟨rfl, by show (imgB x).drop 0 = _; rw [List.drop_zero, imgB_eq h, hro, hve, List.append_nil]⟩
  obtain ⟨q1, e1, a1⟩ := rdUint_at ro 1 (by decide) (by decide) (by omega) (by omega) hA
  have f1 : id1 (imgB x) = (q1, (ro : Int)) := e1
  obtain ⟨q2, e2, a2⟩ := rdUint_at ve 4 (by decide) (by decide) (by omega) (by omega) a1
  have f2 : id2 (imgB x) = (q2, (ve : Int)) := by unfold id2; rw [f1]; exact e2
  obtain ⟨q3, e3, a3⟩ := rdBlob_at x.name 12 (by omega) (by omega) a2
  have f3 : id3 (imgB x) = (q3, x.name) := by unfold id3; rw [f2]; exact e3
  obtain ⟨q4, e4, a4⟩ := rdBlob_at x.pay 64 (by omega) (by omega) a3
  have f4 : id4 (imgB x) = (q4, x.pay) := by unfold id4; rw [f3]; exact e4
  have hx : imD (imgB x) = x := by
    unfold imD
    rw [f1, f2, f3, f4, ← hro, ← hve]
  refine ⟨?_, hx⟩
  unfold decOk
  rw [hx, h, f4, end_at a4]; rfl
/-- what is accepted is written again as it was -/
theorem enc_dec {b : List UInt8} (h : decOk b = true) : imgB (imD b) = b := by
  unfold decOk at h
  simp only [Bool.and_eq_true, decide_eq_true_eq] at h
  obtain ⟨he, hx⟩ := h
  obtain ⟨e4, h4⟩ := end_zero he
  obtain ⟨e3, l4, m4, r4⟩ := rdBlob_inv (show (rdBlob (id3 b).1 64).1.e = 0 from e4)
  obtain ⟨e2, l3, m3, r3⟩ := rdBlob_inv (show (rdBlob (id2 b).1 12).1.e = 0 from e3)
  obtain ⟨e1, v2, q2, b2, r2⟩ := rdUint_inv (s := 4) (by decide) (by decide) (show (rdUint (id1 b).1 ((4 : Nat) : Int)).1.e = 0 from e2)
  obtain ⟨e0, v1, q1, b1, r1⟩ := rdUint_inv (s := 1) (by decide) (by decide) (show (rdUint ⟨b, 0, 0⟩ ((1 : Nat) : Int)).1.e = 0 from e1)
  rw [imgB_eq hx]
  have s1 : rest (⟨b, 0, 0⟩ : Rd) = b := rfl
  have r1' : rest (⟨b, 0, 0⟩ : Rd) = beS ((v1 : Nat) : Int) 1 ++ rest (id1 b).1 := r1
  have r2' : rest (id1 b).1 = beS ((v2 : Nat) : Int) 4 ++ rest (id2 b).1 := r2
  have r3' : rest (id2 b).1 = blobT (id3 b).2 ++ rest (id3 b).1 := r3
  have r4' : rest (id3 b).1 = blobT (id4 b).2 ++ rest (id4 b).1 := r4
  have q1' : (id1 b).2 = (v1 : Int) := q1
  have q2' : (id2 b).2 = (v2 : Int) := q2
  conv => rhs; rw [← s1, r1', r2', r3', r4', h4]
  show beS (id1 b).2 1 ++ (beS (id2 b).2 4 ++ (blobT (id3 b).2 ++ blobT (id4 b).2)) = _
  rw [q1', q2', List.append_nil]
theorem imgB_inj {x y : Im} (hx : imgE x = 0) (hy : imgE y = 0) (h : imgB x = imgB y) : x = y := by
  rw [← (dec_enc hx).2, ← (dec_enc hy).2, h]
end Go.Proofs.YteppchoeiflnhaaDoor
/- Images: texts gone through sign by sign; names; bytes looked for. -/
namespace Go.Proofs.YteppchoeiflnhaaDoor
set_option linter.all false
set_option maxRecDepth 20000
open Go.RowKit
theorem txt_size (l : List UInt8) : (⟨⟨l⟩⟩ : ByteArray).size = l.length := rfl
/-- a run through a text, at a place -/
def SI (w : World) (g : Nat) (s : ByteArray) (pos : Nat) : Prop := w.heap[g]? = some (.stringIter s pos)
def nextA (s : ByteArray) (pos : Nat) : Array Value := if pos < s.size then #[.bool true, .int .i64 pos, .int .i32 (Utf8.decode s pos).1] else #[.bool false]
def nextP (s : ByteArray) (pos : Nat) : Nat := if pos < s.size then pos + (Utf8.decode s pos).2 else pos
theorem nextA_0 (s : ByteArray) (pos : Nat) : (nextA s pos)[0]? = some (.bool (decide (pos < s.size))) := by
  unfold nextA
  split
  · rename_i h; rw [decide_eq_true h]; rfl
  · rename_i h; rw [decide_eq_false h]; rfl
theorem nextA_2 {s : ByteArray} {pos : Nat} (h : pos < s.size) : (nextA s pos)[2]? = some (.int .i32 (Utf8.decode s pos).1) := by unfold nextA; rw [if_pos h]; rfl
section
variable {P : Program} {n : Nat} {e : Env} {w w' : World} {o : Oper} {x y : Operand} {t t' el : TypeId} {l : List UInt8} {s : ByteArray} {g pos : Nat}
theorem SI.lt (h : SI w g s pos) : g < w.heap.size := by
  rcases Nat.lt_or_ge g w.heap.size with hlt | hge
  · exact hlt
  · unfold SI at h; rw [Array.getElem?_eq_none hge] at h; cases h
theorem SI.fr {S : Nat → Prop} (h : SI w g s pos) (f : Fr S w w') (hg : S g) : SI w' g s pos := (f.block g h.lt hg).trans h
theorem SI.ext (h : SI w g s pos) (f : Ext w w') : SI w' g s pos := (f.below.block g h.lt).trans h
/-- 'range' over a text -/
theorem Does.range (ho : o.op = .range t x) (ht : P.underlying t = some .string) (hx : ev e x = some (.string s)) : Does P n o e w (fun v w' => ∃ g, v = .pointer (some ⟨g, 0, none⟩) ∧ w.heap.size ≤ g ∧ SI w' g s 0 ∧ Ext w w') :=
  fun a ha ops Q rest hw hK => BigFrame.wpList_want hw fun K hk => by
    have hrun : (execOp a.eval o).run P w = .ok (.value (.pointer (some ⟨w.heap.size, 0, none⟩))) (w.iter s 0) := by
      unfold execOp
      simp only [ho, ha.ev hx, Sem.run_bind, run_range_string w t s ht, Result.andThen_ok, Sem.run_pure]
    unfold Oper.wp
    rw [hrun]
    exact hk _ _ (hK _ _ ⟨_, rfl, Nat.le_refl _, World.iter_heap _ _ _, (Ext.refl w).alloc _⟩)
/-- the next sign of a text -/
theorem Does.next (ho : o.op = .next x true) (hx : ev e x = some (.pointer (some ⟨g, 0, none⟩))) (h : SI w g s pos) : Does P n o e w (fun v w' => v = .tuple (nextA s pos) ∧ SI w' g s (nextP s pos) ∧ Fr (fun k => k ≠ g) w w') :=
  fun a ha ops Q rest hw hK => BigFrame.wpList_want hw fun K hk => by
    have hlt := h.lt
    by_cases hp : pos < s.size
    · have hrun : (execOp a.eval o).run P w = .ok (.value (.tuple (nextA s pos))) { w with heap := w.heap.setIfInBounds g (.stringIter s (nextP s pos)) } := by
        have h' : w.heap[g]? = some (.stringIter s pos) := h
        unfold execOp nextA nextP
        simp only [ho, ha.ev hx, Instr.next, getObj, setObj, Sem.run_bind, Sem.run, h', Result.andThen, hp, if_true]
        simp [goInt, Sem.run]
      unfold Oper.wp
      rw [hrun]
      refine hk _ _ (hK _ _ ⟨rfl, ?_, ⟨rfl, rfl, rfl, by simp, fun k hk hne => ?_⟩⟩)
      · show (w.heap.setIfInBounds g _)[g]? = _
        simp [hlt]
      · show (w.heap.setIfInBounds g _)[k]? = _
        rw [Array.getElem?_setIfInBounds_ne (Ne.symm hne)]
    · have hrun : (execOp a.eval o).run P w = .ok (.value (.tuple (nextA s pos))) w := by
        have h' : w.heap[g]? = some (.stringIter s pos) := h
        unfold execOp nextA
        simp only [ho, ha.ev hx, Instr.next, getObj, Sem.run_bind, Sem.run, h', Result.andThen, hp, if_false]
        rfl
      unfold Oper.wp
      rw [hrun]
      refine hk _ _ (hK _ _ ⟨rfl, ?_, Fr.refl _ _⟩)
      unfold nextP
      rw [if_neg hp]; exact h
/-- a byte of a text -/
theorem Gives.idxTxt {k : IntKind} {z : Int} {i : Nat} {c : UInt8} (ho : o.op = .index t x y) (ht : P.underlying t = some .string) (hx : ev e x = some (txt l)) (hy : ev e y = some (.int k z)) (hz : z = (i : Int)) (hv : l[i]? = some c) : Gives P n o e w (.int .u8 (c.toNat : Int)) := .run fun a ha => by
  subst hz
  obtain ⟨hi, hc⟩ := List.getElem?_eq_some_iff.1 hv
  have h := run_index_string (P := P) w t ⟨⟨l⟩⟩ k (i : Int) ht
  have hin : (0 : Int) ≤ (i : Int) ∧ (i : Int) < ((⟨⟨l⟩⟩ : ByteArray).size : Int) := ⟨by omega, by rw [txt_size]; omega⟩
  rw [dif_pos hin] at h
  have e1 : ((⟨⟨l⟩⟩ : ByteArray)[(i : Int).toNat]'(by rw [txt_size]; omega)) = c := by
    rw [← hc]; rfl
  rw [e1] at h
  unfold execOp
  simp only [ho, ha.ev hx, ha.ev hy, txt, Sem.run_bind, h, Result.andThen_ok, Sem.run_pure]
/-- '[]byte(s)' -/
theorem Does.toBytes (ho : o.op = .convert t t' x) (hs : P.underlying t = some .string) (hd : P.underlying t' = some (.slice el)) (he : P.underlying el = some (.int .u8)) (hx : ev e x = some (txt l)) (hl : l.length ≤ 9223372036854775807) :
    Does P n o e w (fun v w' => ∃ g c, v = .slice (some ⟨g, 0, none⟩) l.length c ∧ w.heap.size ≤ g ∧ BV w' (fun k => w.heap.size ≤ k) (some ⟨g, 0, none⟩) l.length c l ∧ Ext w w') :=
  fun a ha ops Q rest hw hK => BigFrame.wpList_want hw fun K hk => by
    have hrun : (execOp a.eval o).run P w = .ok (.value (.slice (some ⟨w.heap.size, 0, none⟩) l.length (grownCap w l.length 0 el))) (w.drew.alloc (.cells (bytesRow ⟨⟨l⟩⟩ (grownCap w l.length 0 el)) el ((bytesRow ⟨⟨l⟩⟩ (grownCap w l.length 0 el)).size, (bytesRow ⟨⟨l⟩⟩ (grownCap w l.length 0 el)).size + 1))) := by
      unfold execOp
      simp only [ho, ha.ev hx, txt, Sem.run_bind, run_bytes_of_string w t t' el ⟨⟨l⟩⟩ hs hd he, Result.andThen_ok, Sem.run_pure, txt_size]
    unfold Oper.wp
    rw [hrun]
    have hcm : grownCap w l.length 0 el ≤ maxLen := grownCap_le_maxLen w l.length 0 el (by simpa [maxLen] using hl)
    refine hk _ _ (hK _ _ ⟨_, _, rfl, Nat.le_refl _, ⟨by simp [u8s], grownCap_ge w l.length 0 el, hcm, fun hn => ⟨w.heap.size, 0, rfl, ?_, Nat.le_refl _, fun i v hv => ?_⟩⟩, ((Ext.refl w).drew).alloc _⟩)
    · show w.heap.size < (w.heap.push _).size
      simp
    · have hi := (List.getElem?_eq_some_iff.1 hv).1
      rw [Nat.zero_add]
      have hh : (w.drew.alloc (.cells (bytesRow ⟨⟨l⟩⟩ (grownCap w l.length 0 el)) el ((bytesRow ⟨⟨l⟩⟩ (grownCap w l.length 0 el)).size, (bytesRow ⟨⟨l⟩⟩ (grownCap w l.length 0 el)).size + 1))).heap[w.heap.size]? = some (.cells (bytesRow ⟨⟨l⟩⟩ (grownCap w l.length 0 el)) el ((bytesRow ⟨⟨l⟩⟩ (grownCap w l.length 0 el)).size, (bytesRow ⟨⟨l⟩⟩ (grownCap w l.length 0 el)).size + 1)) := by
        show (w.heap.push _)[w.heap.size]? = _
        simp
      rw [cell_of_row _ _ i _ _ _ hh]
      rw [u8s_length] at hi
      unfold bytesRow
      rw [Array.getElem?_append_left (by simpa using hi)]
      simpa [u8s] using hv
end
/-- an outer function of the model -/
theorem Does.outer {P : Program} {n : Nat} {e : Env} {w : World} {o : Oper} {f : FuncId} {fn : Func} {xs : Array Operand} {ts : Array TypeId} {vs : List Value} {E : Array Value → Sem Value} {v : Value} (ho : o.op = .call { callee := .value (.func f), args := xs, argTypes := ts }) (hf : P.funcs[f]? = some fn) (hname : (fn.name == "runtime.NumGoroutine") = false) (hb : fn.body.isNone = true) (hn : Extern.findNext fn = none) (he : Extern.find fn = some E)
    (hx : evs e xs.toList = some vs) (hr : (E vs.toArray).run P w = .ok v w) : Gives P n o e w v := .run fun a ha => by
  have hxs : xs.map a.eval = vs.toArray := by
    apply Array.ext'
    rw [Array.toList_map]
    exact ha.evs hx
  have hfx : a.eval (.func f) = .func (.func f) #[] #[] := rfl
  have h := run_callFunc_extern (P := P) hf hname hb hn he vs.toArray w
  rw [hr] at h
  unfold execOp
  simp only [ho, resolve, hxs, hfx, Sem.run_bind, Deferred.ofValue, Sem.run_pure, Result.andThen_ok, invoke, Array.append_empty, Array.empty_append, h]
  try rfl
/-! looking for a byte -/
theorem bytesOf_u8 (l : List UInt8) : Lib.bytesOf (l.map fun b => (b.toNat : Int)) = l := by
  unfold Lib.bytesOf
  rw [List.map_map]
  have : (fun n : Int => UInt8.ofNat n.toNat) ∘ (fun b : UInt8 => (b.toNat : Int)) = id := by
    funext b; simp
  rw [this, List.map_id]
theorem run_ixbN {P : Program} (w : World) (g off : Nat) (sp : Option Nat) (c : Nat) (bz : Int) : (Extern.BytealgIndexByte.indexByte #[.slice (some ⟨g, off, sp⟩) 0 c, .int .u8 bz]).run P w = .ok (.int .i64 (-1)) w := by
  have hs := Lib.run_indexByteString (P := P) .empty bz w
  change Sem.run P (do
    let b ← Extern.Bytes.bytesOf (.slice (some ⟨g, off, sp⟩) 0 c)
    let c ← Extern.Bytes.asByte (.int .u8 bz)
    match (List.range b.size).find? fun i => b[i]! == c with
    | some i => pure (goInt i)
    | none => pure (goInt (-1))) w = _
  change Sem.run P (do
    let b ← Extern.Bytes.bytesOf (.string .empty)
    let c ← Extern.Bytes.asByte (.int .u8 bz)
    match (List.range b.size).find? fun i => b[i]! == c with
    | some i => pure (goInt i)
    | none => pure (goInt (-1))) w = _ at hs
  simp only [Extern.Bytes.bytesOf, Extern.Bytes.loadBytes, Sem.run_bind, Sem.run_pure, Result.andThen] at hs ⊢
  exact hs
theorem run_ixb {P : Program} {S : Nat → Prop} {w : World} {A : Option Addr} {n c : Nat} {l : List UInt8} (h : BV w S A n c l) (b : UInt8) :
    (Extern.BytealgIndexByte.indexByte #[.slice A n c, .int .u8 (b.toNat : Int)]).run P w = .ok (.int .i64 (Lib.indexByte l b)) w := by
  have hl := h.len
  have hb : ((b.toNat : Nat) : Int).toNat.toUInt8 = b := by simp
  rcases Nat.eq_zero_or_pos n with h0 | h0
  · subst h0
    have : l = [] := List.eq_nil_of_length_eq_zero hl
    subst this
    cases A with
    | none => exact Lib.run_indexByteNil w 0 c _
    | some p =>
      obtain ⟨bk, off, sp⟩ := p
      have := run_ixbN (P := P) w bk off sp c (b.toNat : Int)
      exact this
  · obtain ⟨g, off, rfl, _, _, hc⟩ := h.2.2.2 h0
    have h1 := Lib.run_indexByteSlice (P := P) w g off n c (l.map fun b => (b.toNat : Int)) (by simpa using hl) (fun i hi => by
      have hil : i < l.length := by omega
      have := hc i (.int .u8 (l[i].toNat : Int)) (by simp [u8s, hil])
      rw [this]
      simp [List.getD, hil]) (b.toNat : Int)
    rw [bytesOf_u8, hb] at h1
    exact h1
end Go.Proofs.YteppchoeiflnhaaDoor
/- Images: names, printable bytes, bytes looked for. -/
namespace Go.Proofs.YteppchoeiflnhaaDoor
set_option linter.all false
set_option maxRecDepth 20000
open Go.RowKit
theorem getC {l : List UInt8} {i : Nat} (h : i < l.length) : l[i]? = some (gb1 l i) := gb1_some l i h
theorem dec_cases (l : List UInt8) (i : Nat) (h : i < l.length) : ((gb1 l i).toNat < 128 ∧ (Utf8.decode ⟨⟨l⟩⟩ i).1 = (gb1 l i).toNat ∧ nextP ⟨⟨l⟩⟩ i = i + 1) ∨ (128 ≤ (gb1 l i).toNat ∧ 128 ≤ (Utf8.decode ⟨⟨l⟩⟩ i).1) := by
  have hs : i < (⟨⟨l⟩⟩ : ByteArray).size := h
  have he : ((⟨⟨l⟩⟩ : ByteArray)[i]'hs) = gb1 l i := by
    have := getC h
    rw [List.getElem?_eq_getElem h] at this
    exact Option.some.inj this
  rcases Nat.lt_or_ge (gb1 l i).toNat 128 with h1 | h1
  · left
    have hd := decode_ascii ⟨⟨l⟩⟩ i hs (by rw [he]; exact h1)
    rw [he] at hd
    refine ⟨h1, by rw [hd], ?_⟩
    unfold nextP
    rw [if_pos hs, hd]
  · right
    have hd := decode_high ⟨⟨l⟩⟩ i hs (by rw [he]; exact h1)
    exact ⟨h1, hd.1⟩
theorem nameC_f {c : UInt8} (h : ¬ ((97 ≤ c.toNat ∧ c.toNat ≤ 122) ∨ (48 ≤ c.toNat ∧ c.toNat ≤ 57) ∨ c.toNat = 45)) : nameC c = false := decide_eq_false h
theorem nameC_t {c : UInt8} (h : (97 ≤ c.toNat ∧ c.toNat ≤ 122) ∨ (48 ≤ c.toNat ∧ c.toNat ≤ 57) ∨ c.toNat = 45) : nameC c = true := decide_eq_true h
theorem all_step {l : List UInt8} {p : UInt8 → Bool} {i : Nat} (h : ∀ j < i, ∀ c, l[j]? = some c → p c = true) (hi : i < l.length) (hp : p (gb1 l i) = true) : ∀ j < i + 1, ∀ c, l[j]? = some c → p c = true := fun j hj c hc => by
  rcases Nat.lt_or_ge j i with h1 | h1
  · exact h j h1 c hc
  · obtain rfl : j = i := by omega
    rw [getC hi] at hc; cases hc; exact hp
set_option maxRecDepth 20000 in
theorem namedP (w : World) (l : List UInt8) : Calls Tryd.prog 49 #[txt l] w fun e w' => e = .returned (.bool (nameS l)) ∧ Ext w w' := by
  refine calls_enter Tryd.func49 rfl Tryd.ntmps49 rfl ?_
  have hE : Ext w w := Ext.refl w
  refine Wc.seq (fun K1 hK1 => ?_)
  refine Wc.keep [(0, _)] (.cons rfl (.nil)) ?_
  refine Wc.region ?_
  refine Wl.val rfl rfl rfl (Gives.assign rfl rfl) ?_
  refine Wl.nil ?_
  refine Wx.thenN (hK1 _ _ ?_)
  refine Wc.seq (fun K2 hK2 => ?_)
  refine Wc.seq (fun K3 hK3 => ?_)
  refine Wc.keep [(0, _)] (.cons rfl (.nil)) ?_
  refine Wc.region ?_
  refine Wl.val rfl rfl rfl (Gives.move rfl rfl) ?_
  refine Wl.val rfl rfl rfl (Gives.lenTxt rfl Tryd.underlying9 rfl) ?_
  refine Wl.val rfl rfl rfl (Gives.lss rfl rfl rfl) ?_
  refine Wl.val rfl rfl rfl (Gives.move rfl rfl) ?_
  refine Wl.guard rfl rfl rfl (fun h8 => ?_) (fun h8 => ?_)
  · (first | replace h8 := of_decide_eq_false h8 | replace h8 := nd_false h8 | skip)
    refine Wl.val rfl rfl rfl (Gives.move rfl rfl) ?_
    refine Wl.val rfl rfl rfl (Gives.lenTxt rfl Tryd.underlying9 rfl) ?_
    refine Wl.val rfl rfl rfl (Gives.gtr rfl rfl rfl) ?_
    refine Wl.val rfl rfl rfl (Gives.pickF rfl rfl rfl rfl) ?_
    refine Wl.nil ?_
    refine Wx.thenN (hK3 _ _ ?_)
    refine Wc.cond _ rfl (fun h12 => ?_) (fun h12 => ?_)
    · (first | replace h12 := of_decide_eq_true h12 | replace h12 := nd_true h12 | skip)
      refine Wc.seq (fun K4 hK4 => ?_)
      refine Wc.keep [] (.nil) ?_
      refine Wc.region ?_
      refine Wl.val rfl rfl rfl (Gives.assign rfl rfl) ?_
      refine Wl.nil ?_
      refine Wx.thenN (hK4 _ _ ?_)
      refine Wc.ret ?_
      refine Wx.thenR ?_
      refine Wx.ret [_] ⟨rfl, trivial⟩ ?_
      first | exact ⟨by rw [name_len (by omega)]; rfl, hE⟩ | exact ⟨by rw [name_no (getC hlt) (nameC_f (by omega))]; rfl, hE⟩ | exact ⟨by rw [name_yes (by omega) (fun j hj c hc => hall j (by have : ¬ i < l.length := h16; omega) c hc)]; rfl, hE⟩
    · (first | replace h12 := of_decide_eq_false h12 | replace h12 := nd_false h12 | skip)
      refine Wc.skip ?_
      refine Wx.thenN (hK2 _ _ ?_)
      refine Wc.seq (fun K5 hK5 => ?_)
      refine Wc.seq (fun K6 hK6 => ?_)
      refine Wc.keep [(0, _)] (.cons rfl (.nil)) ?_
      refine Wc.region ?_
      refine Wl.val rfl rfl rfl (Gives.move rfl rfl) ?_
      refine Wl.does rfl rfl rfl (Does.range (s := ⟨⟨l⟩⟩) rfl Tryd.underlying9 rfl) ?_
      rintro _ w31 ⟨g, rfl, hg, hI, hx31⟩
      have hgg : w.heap.size ≤ g := Nat.le_trans hE.size hg
      replace hE := hE.trans hx31
      refine Wl.nil ?_
      refine Wx.thenN (hK6 _ _ ?_)
      refine Wc.block ?_
      refine Wc.keep [(14, _)] (.cons rfl (.nil)) ?_
      refine Wc.loopC (ι := Nat) [(14, _)] (fun _ => []) (fun i wr => i ≤ l.length ∧ (∀ j < i, ∀ c, l[j]? = some c → nameC c = true) ∧ SI wr g ⟨⟨l⟩⟩ i ∧ Ext w wr) (fun i => l.length - i) (0) (.cons rfl (.nil)) (⟨Nat.zero_le _, fun j hj => absurd hj (by omega), hI, hE⟩) ?_
      intro i wr hJ KL1 hKL1
      clear hE hI
      obtain ⟨hi, hall, hI, hE⟩ := hJ
      refine Wc.seq (fun K7 hK7 => ?_)
      refine Wc.keep [(14, _)] (.cons rfl (.nil)) ?_
      refine Wc.region ?_
      refine Wl.does rfl rfl rfl (Does.next rfl rfl hI) ?_
      rintro _ w40 ⟨rfl, hI2, hF40⟩
      replace hE := Ext.over hE hF40 hgg
      refine Wl.val rfl rfl rfl (Gives.extract rfl rfl (nextA_0 _ _)) ?_
      refine Wl.nil ?_
      refine Wx.thenN (hK7 _ _ ?_)
      refine Wc.seq (fun K8 hK8 => ?_)
      refine Wc.cond _ rfl (fun h16 => ?_) (fun h16 => ?_)
      · (first | replace h16 := of_decide_eq_true h16 | replace h16 := nd_true h16 | skip)
        refine Wc.skip ?_
        refine Wx.thenN (hK8 _ _ ?_)
        refine Wc.block ?_
        refine Wc.seq (fun K9 hK9 => ?_)
        refine Wc.keep [(14, _), (15, _)] (.cons rfl (.cons rfl (.nil))) ?_
        have hlt : i < l.length := h16
        have hdc := dec_cases l i hlt
        refine Wc.region ?_
        refine Wl.val rfl rfl rfl (Gives.extract rfl rfl (nextA_2 h16)) ?_
        refine Wl.val rfl rfl rfl (Gives.assign rfl rfl) ?_
        refine Wl.nil ?_
        refine Wx.thenN (hK9 _ _ ?_)
        refine Wc.seq (fun K10 hK10 => ?_)
        refine Wc.keep [(4, _), (14, _)] (.cons rfl (.cons rfl (.nil))) ?_
        refine Wc.region ?_
        refine Wl.val rfl rfl rfl (Gives.move rfl rfl) ?_
        refine Wl.val rfl rfl rfl (Gives.lss rfl rfl rfl) ?_
        refine Wl.val rfl rfl rfl (Gives.move rfl rfl) ?_
        refine Wl.guard rfl rfl rfl (fun h20 => ?_) (fun h20 => ?_)
        · (first | replace h20 := of_decide_eq_false h20 | replace h20 := nd_false h20 | skip)
          refine Wl.val rfl rfl rfl (Gives.move rfl rfl) ?_
          refine Wl.val rfl rfl rfl (Gives.gtr rfl rfl rfl) ?_
          refine Wl.val rfl rfl rfl (Gives.pickF rfl rfl rfl rfl) ?_
          refine Wl.val rfl rfl rfl (Gives.move rfl rfl) ?_
          refine Wl.guard rfl rfl rfl (fun h24 => ?_) (fun h24 => ?_)
          · (first | replace h24 := of_decide_eq_true h24 | replace h24 := nd_true h24 | skip)
            refine Wl.val rfl rfl rfl (Gives.move rfl rfl) ?_
            refine Wl.val rfl rfl rfl (Gives.lss rfl rfl rfl) ?_
            refine Wl.val rfl rfl rfl (Gives.move rfl rfl) ?_
            refine Wl.guard rfl rfl rfl (fun h27 => ?_) (fun h27 => ?_)
            · (first | replace h27 := of_decide_eq_false h27 | replace h27 := nd_false h27 | skip)
              refine Wl.val rfl rfl rfl (Gives.move rfl rfl) ?_
              refine Wl.val rfl rfl rfl (Gives.gtr rfl rfl rfl) ?_
              refine Wl.val rfl rfl rfl (Gives.pickF rfl rfl rfl rfl) ?_
              refine Wl.val rfl rfl rfl (Gives.pickT rfl rfl rfl rfl) ?_
              refine Wl.val rfl rfl rfl (Gives.move rfl rfl) ?_
              refine Wl.guard rfl rfl rfl (fun h32 => ?_) (fun h32 => ?_)
              · (first | replace h32 := of_decide_eq_true h32 | replace h32 := nd_true h32 | skip)
                refine Wl.val rfl rfl rfl (Gives.move rfl rfl) ?_
                refine Wl.val rfl rfl rfl (Gives.neq rfl rfl rfl) ?_
                refine Wl.val rfl rfl rfl (Gives.pickT rfl rfl rfl rfl) ?_
                refine Wl.nil ?_
                refine Wx.thenN (hK10 _ _ ?_)
                refine Wc.cond _ rfl (fun h35 => ?_) (fun h35 => ?_)
                · (first | replace h35 := of_decide_eq_true h35 | replace h35 := nd_true h35 | skip)
                  refine Wc.seq (fun K11 hK11 => ?_)
                  refine Wc.keep [] (.nil) ?_
                  refine Wc.region ?_
                  refine Wl.val rfl rfl rfl (Gives.assign rfl rfl) ?_
                  refine Wl.nil ?_
                  refine Wx.thenN (hK11 _ _ ?_)
                  refine Wc.ret ?_
                  refine Wx.blockR ?_
                  refine Wx.thenR ?_
                  refine Wx.blockR ?_
                  refine Wx.thenR ?_
                  refine Wx.ret [_] ⟨rfl, trivial⟩ ?_
                  first | exact ⟨by rw [name_len (by omega)]; rfl, hE⟩ | exact ⟨by rw [name_no (getC hlt) (nameC_f (by omega))]; rfl, hE⟩ | exact ⟨by rw [name_yes (by omega) (fun j hj c hc => hall j (by have : ¬ i < l.length := h16; omega) c hc)]; rfl, hE⟩
                · (first | replace h35 := of_decide_eq_false h35 | replace h35 := nd_false h35 | skip)
                  refine Wc.skip ?_
                  refine Wx.blockN ?_
                  refine Wx.thenN ?_
                  rcases hdc with ⟨d1, d2, d3⟩ | ⟨d1, d2⟩
                  · rw [d3] at hI2
                    exact hKL1 (i + 1) _ _ (.cons rfl (.nil)) ⟨by omega, all_step hall hlt (nameC_t (by omega)), hI2, hE⟩ (by show l.length - (i + 1) < l.length - i; omega)
                  · exfalso; omega
              · (first | replace h32 := of_decide_eq_false h32 | replace h32 := nd_false h32 | skip)
                refine Wl.pass rfl rfl rfl ?_
                refine Wl.pass rfl rfl rfl ?_
                refine Wl.val rfl rfl rfl (Gives.pickF rfl rfl rfl rfl) ?_
                refine Wl.nil ?_
                refine Wx.thenN (hK10 _ _ ?_)
                refine Wc.condF rfl rfl ?_
                refine Wc.skip ?_
                refine Wx.blockN ?_
                refine Wx.thenN ?_
                rcases hdc with ⟨d1, d2, d3⟩ | ⟨d1, d2⟩
                · rw [d3] at hI2
                  exact hKL1 (i + 1) _ _ (.cons rfl (.nil)) ⟨by omega, all_step hall hlt (nameC_t (by omega)), hI2, hE⟩ (by show l.length - (i + 1) < l.length - i; omega)
                · exfalso; omega
            · (first | replace h27 := of_decide_eq_true h27 | replace h27 := nd_true h27 | skip)
              refine Wl.pass rfl rfl rfl ?_
              refine Wl.pass rfl rfl rfl ?_
              refine Wl.val rfl rfl rfl (Gives.pickT rfl rfl rfl rfl) ?_
              refine Wl.val rfl rfl rfl (Gives.pickT rfl rfl rfl rfl) ?_
              refine Wl.val rfl rfl rfl (Gives.move rfl rfl) ?_
              refine Wl.guardT rfl rfl rfl rfl ?_
              refine Wl.val rfl rfl rfl (Gives.move rfl rfl) ?_
              refine Wl.val rfl rfl rfl (Gives.neq rfl rfl rfl) ?_
              refine Wl.val rfl rfl rfl (Gives.pickT rfl rfl rfl rfl) ?_
              refine Wl.nil ?_
              refine Wx.thenN (hK10 _ _ ?_)
              refine Wc.cond _ rfl (fun h35 => ?_) (fun h35 => ?_)
              · (first | replace h35 := of_decide_eq_true h35 | replace h35 := nd_true h35 | skip)
                refine Wc.seq (fun K12 hK12 => ?_)
                refine Wc.keep [] (.nil) ?_
                refine Wc.region ?_
                refine Wl.val rfl rfl rfl (Gives.assign rfl rfl) ?_
                refine Wl.nil ?_
                refine Wx.thenN (hK12 _ _ ?_)
                refine Wc.ret ?_
                refine Wx.blockR ?_
                refine Wx.thenR ?_
                refine Wx.blockR ?_
                refine Wx.thenR ?_
                refine Wx.ret [_] ⟨rfl, trivial⟩ ?_
                first | exact ⟨by rw [name_len (by omega)]; rfl, hE⟩ | exact ⟨by rw [name_no (getC hlt) (nameC_f (by omega))]; rfl, hE⟩ | exact ⟨by rw [name_yes (by omega) (fun j hj c hc => hall j (by have : ¬ i < l.length := h16; omega) c hc)]; rfl, hE⟩
              · (first | replace h35 := of_decide_eq_false h35 | replace h35 := nd_false h35 | skip)
                refine Wc.skip ?_
                refine Wx.blockN ?_
                refine Wx.thenN ?_
                rcases hdc with ⟨d1, d2, d3⟩ | ⟨d1, d2⟩
                · rw [d3] at hI2
                  exact hKL1 (i + 1) _ _ (.cons rfl (.nil)) ⟨by omega, all_step hall hlt (nameC_t (by omega)), hI2, hE⟩ (by show l.length - (i + 1) < l.length - i; omega)
                · exfalso; omega
          · (first | replace h24 := of_decide_eq_false h24 | replace h24 := nd_false h24 | skip)
            refine Wl.pass rfl rfl rfl ?_
            refine Wl.pass rfl rfl rfl ?_
            refine Wl.pass rfl rfl rfl ?_
            refine Wl.pass rfl rfl rfl ?_
            refine Wl.pass rfl rfl rfl ?_
            refine Wl.pass rfl rfl rfl ?_
            refine Wl.val rfl rfl rfl (Gives.pickF rfl rfl rfl rfl) ?_
            refine Wl.val rfl rfl rfl (Gives.move rfl rfl) ?_
            refine Wl.guardF rfl rfl rfl rfl ?_
            refine Wl.pass rfl rfl rfl ?_
            refine Wl.pass rfl rfl rfl ?_
            refine Wl.val rfl rfl rfl (Gives.pickF rfl rfl rfl rfl) ?_
            refine Wl.nil ?_
            refine Wx.thenN (hK10 _ _ ?_)
            refine Wc.condF rfl rfl ?_
            refine Wc.skip ?_
            refine Wx.blockN ?_
            refine Wx.thenN ?_
            rcases hdc with ⟨d1, d2, d3⟩ | ⟨d1, d2⟩
            · rw [d3] at hI2
              exact hKL1 (i + 1) _ _ (.cons rfl (.nil)) ⟨by omega, all_step hall hlt (nameC_t (by omega)), hI2, hE⟩ (by show l.length - (i + 1) < l.length - i; omega)
            · exfalso; omega
        · (first | replace h20 := of_decide_eq_true h20 | replace h20 := nd_true h20 | skip)
          refine Wl.pass rfl rfl rfl ?_
          refine Wl.pass rfl rfl rfl ?_
          refine Wl.val rfl rfl rfl (Gives.pickT rfl rfl rfl rfl) ?_
          refine Wl.val rfl rfl rfl (Gives.move rfl rfl) ?_
          refine Wl.guardT rfl rfl rfl rfl ?_
          refine Wl.val rfl rfl rfl (Gives.move rfl rfl) ?_
          refine Wl.val rfl rfl rfl (Gives.lss rfl rfl rfl) ?_
          refine Wl.val rfl rfl rfl (Gives.move rfl rfl) ?_
          refine Wl.guard rfl rfl rfl (fun h27 => ?_) (fun h27 => ?_)
          · (first | replace h27 := of_decide_eq_false h27 | replace h27 := nd_false h27 | skip)
            refine Wl.val rfl rfl rfl (Gives.move rfl rfl) ?_
            refine Wl.val rfl rfl rfl (Gives.gtr rfl rfl rfl) ?_
            refine Wl.val rfl rfl rfl (Gives.pickF rfl rfl rfl rfl) ?_
            refine Wl.val rfl rfl rfl (Gives.pickT rfl rfl rfl rfl) ?_
            refine Wl.val rfl rfl rfl (Gives.move rfl rfl) ?_
            refine Wl.guard rfl rfl rfl (fun h32 => ?_) (fun h32 => ?_)
            · (first | replace h32 := of_decide_eq_true h32 | replace h32 := nd_true h32 | skip)
              refine Wl.val rfl rfl rfl (Gives.move rfl rfl) ?_
              refine Wl.val rfl rfl rfl (Gives.neq rfl rfl rfl) ?_
              refine Wl.val rfl rfl rfl (Gives.pickT rfl rfl rfl rfl) ?_
              refine Wl.nil ?_
              refine Wx.thenN (hK10 _ _ ?_)
              refine Wc.cond _ rfl (fun h35 => ?_) (fun h35 => ?_)
              · (first | replace h35 := of_decide_eq_true h35 | replace h35 := nd_true h35 | skip)
                refine Wc.seq (fun K13 hK13 => ?_)
                refine Wc.keep [] (.nil) ?_
                refine Wc.region ?_
                refine Wl.val rfl rfl rfl (Gives.assign rfl rfl) ?_
                refine Wl.nil ?_
                refine Wx.thenN (hK13 _ _ ?_)
                refine Wc.ret ?_
                refine Wx.blockR ?_
                refine Wx.thenR ?_
                refine Wx.blockR ?_
                refine Wx.thenR ?_
                refine Wx.ret [_] ⟨rfl, trivial⟩ ?_
                first | exact ⟨by rw [name_len (by omega)]; rfl, hE⟩ | exact ⟨by rw [name_no (getC hlt) (nameC_f (by omega))]; rfl, hE⟩ | exact ⟨by rw [name_yes (by omega) (fun j hj c hc => hall j (by have : ¬ i < l.length := h16; omega) c hc)]; rfl, hE⟩
              · (first | replace h35 := of_decide_eq_false h35 | replace h35 := nd_false h35 | skip)
                refine Wc.skip ?_
                refine Wx.blockN ?_
                refine Wx.thenN ?_
                rcases hdc with ⟨d1, d2, d3⟩ | ⟨d1, d2⟩
                · rw [d3] at hI2
                  exact hKL1 (i + 1) _ _ (.cons rfl (.nil)) ⟨by omega, all_step hall hlt (nameC_t (by omega)), hI2, hE⟩ (by show l.length - (i + 1) < l.length - i; omega)
                · exfalso; omega
            · (first | replace h32 := of_decide_eq_false h32 | replace h32 := nd_false h32 | skip)
              refine Wl.pass rfl rfl rfl ?_
              refine Wl.pass rfl rfl rfl ?_
              refine Wl.val rfl rfl rfl (Gives.pickF rfl rfl rfl rfl) ?_
              refine Wl.nil ?_
              refine Wx.thenN (hK10 _ _ ?_)
              refine Wc.condF rfl rfl ?_
              refine Wc.skip ?_
              refine Wx.blockN ?_
              refine Wx.thenN ?_
              rcases hdc with ⟨d1, d2, d3⟩ | ⟨d1, d2⟩
              · rw [d3] at hI2
                exact hKL1 (i + 1) _ _ (.cons rfl (.nil)) ⟨by omega, all_step hall hlt (nameC_t (by omega)), hI2, hE⟩ (by show l.length - (i + 1) < l.length - i; omega)
              · exfalso; omega
          · (first | replace h27 := of_decide_eq_true h27 | replace h27 := nd_true h27 | skip)
            refine Wl.pass rfl rfl rfl ?_
            refine Wl.pass rfl rfl rfl ?_
            refine Wl.val rfl rfl rfl (Gives.pickT rfl rfl rfl rfl) ?_
            refine Wl.val rfl rfl rfl (Gives.pickT rfl rfl rfl rfl) ?_
            refine Wl.val rfl rfl rfl (Gives.move rfl rfl) ?_
            refine Wl.guardT rfl rfl rfl rfl ?_
            refine Wl.val rfl rfl rfl (Gives.move rfl rfl) ?_
            refine Wl.val rfl rfl rfl (Gives.neq rfl rfl rfl) ?_
            refine Wl.val rfl rfl rfl (Gives.pickT rfl rfl rfl rfl) ?_
            refine Wl.nil ?_
            refine Wx.thenN (hK10 _ _ ?_)
            refine Wc.cond _ rfl (fun h35 => ?_) (fun h35 => ?_)
            · (first | replace h35 := of_decide_eq_true h35 | replace h35 := nd_true h35 | skip)
              refine Wc.seq (fun K14 hK14 => ?_)
              refine Wc.keep [] (.nil) ?_
              refine Wc.region ?_
              refine Wl.val rfl rfl rfl (Gives.assign rfl rfl) ?_
              refine Wl.nil ?_
              refine Wx.thenN (hK14 _ _ ?_)
              refine Wc.ret ?_
              refine Wx.blockR ?_
              refine Wx.thenR ?_
              refine Wx.blockR ?_
              refine Wx.thenR ?_
              refine Wx.ret [_] ⟨rfl, trivial⟩ ?_
              first | exact ⟨by rw [name_len (by omega)]; rfl, hE⟩ | exact ⟨by rw [name_no (getC hlt) (nameC_f (by omega))]; rfl, hE⟩ | exact ⟨by rw [name_yes (by omega) (fun j hj c hc => hall j (by have : ¬ i < l.length := h16; omega) c hc)]; rfl, hE⟩
            · (first | replace h35 := of_decide_eq_false h35 | replace h35 := nd_false h35 | skip)
              refine Wc.skip ?_
              refine Wx.blockN ?_
              refine Wx.thenN ?_
              rcases hdc with ⟨d1, d2, d3⟩ | ⟨d1, d2⟩
              · rw [d3] at hI2
                exact hKL1 (i + 1) _ _ (.cons rfl (.nil)) ⟨by omega, all_step hall hlt (nameC_t (by omega)), hI2, hE⟩ (by show l.length - (i + 1) < l.length - i; omega)
              · exfalso; omega
      · (first | replace h16 := of_decide_eq_false h16 | replace h16 := nd_false h16 | skip)
        refine Wc.exit ?_
        refine Wx.thenE ?_
        refine Wx.thenE ?_
        refine Wx.hit ?_
        refine Wx.thenN (hK5 _ _ ?_)
        refine Wc.seq (fun K15 hK15 => ?_)
        refine Wc.keep [] (.nil) ?_
        refine Wc.region ?_
        refine Wl.val rfl rfl rfl (Gives.assign rfl rfl) ?_
        refine Wl.nil ?_
        refine Wx.thenN (hK15 _ _ ?_)
        refine Wc.ret ?_
        refine Wx.ret [_] ⟨rfl, trivial⟩ ?_
        first | exact ⟨by rw [name_len (by omega)]; rfl, hE⟩ | exact ⟨by rw [name_no (getC hlt) (nameC_f (by omega))]; rfl, hE⟩ | exact ⟨by rw [name_yes (by omega) (fun j hj c hc => hall j (by have : ¬ i < l.length := h16; omega) c hc)]; rfl, hE⟩
  · (first | replace h8 := of_decide_eq_true h8 | replace h8 := nd_true h8 | skip)
    refine Wl.pass rfl rfl rfl ?_
    refine Wl.pass rfl rfl rfl ?_
    refine Wl.pass rfl rfl rfl ?_
    refine Wl.val rfl rfl rfl (Gives.pickT rfl rfl rfl rfl) ?_
    refine Wl.nil ?_
    refine Wx.thenN (hK3 _ _ ?_)
    refine Wc.condT rfl rfl ?_
    refine Wc.seq (fun K16 hK16 => ?_)
    refine Wc.keep [] (.nil) ?_
    refine Wc.region ?_
    refine Wl.val rfl rfl rfl (Gives.assign rfl rfl) ?_
    refine Wl.nil ?_
    refine Wx.thenN (hK16 _ _ ?_)
    refine Wc.ret ?_
    refine Wx.thenR ?_
    refine Wx.ret [_] ⟨rfl, trivial⟩ ?_
    first | exact ⟨by rw [name_len (by omega)]; rfl, hE⟩ | exact ⟨by rw [name_no (getC hlt) (nameC_f (by omega))]; rfl, hE⟩ | exact ⟨by rw [name_yes (by omega) (fun j hj c hc => hall j (by have : ¬ i < l.length := h16; omega) c hc)]; rfl, hE⟩
set_option maxRecDepth 20000 in
theorem namedR (w : World) (l : List UInt8) : Calls Tryd.prog 50 #[txt l] w fun e w' => e = .returned (.bool (nameS l)) ∧ Ext w w' := by
  refine calls_enter Tryd.func50 rfl Tryd.ntmps50 rfl ?_
  have hE : Ext w w := Ext.refl w
  refine Wc.seq (fun K1 hK1 => ?_)
  refine Wc.keep [(0, _)] (.cons rfl (.nil)) ?_
  refine Wc.region ?_
  refine Wl.val rfl rfl rfl (Gives.assign rfl rfl) ?_
  refine Wl.nil ?_
  refine Wx.thenN (hK1 _ _ ?_)
  refine Wc.seq (fun K2 hK2 => ?_)
  refine Wc.seq (fun K3 hK3 => ?_)
  refine Wc.keep [(0, _)] (.cons rfl (.nil)) ?_
  refine Wc.region ?_
  refine Wl.val rfl rfl rfl (Gives.move rfl rfl) ?_
  refine Wl.val rfl rfl rfl (Gives.lenTxt rfl Tryd.underlying9 rfl) ?_
  refine Wl.val rfl rfl rfl (Gives.lss rfl rfl rfl) ?_
  refine Wl.val rfl rfl rfl (Gives.move rfl rfl) ?_
  refine Wl.guard rfl rfl rfl (fun h8 => ?_) (fun h8 => ?_)
  · (first | replace h8 := of_decide_eq_false h8 | replace h8 := nd_false h8 | skip)
    refine Wl.val rfl rfl rfl (Gives.move rfl rfl) ?_
    refine Wl.val rfl rfl rfl (Gives.lenTxt rfl Tryd.underlying9 rfl) ?_
    refine Wl.val rfl rfl rfl (Gives.gtr rfl rfl rfl) ?_
    refine Wl.val rfl rfl rfl (Gives.pickF rfl rfl rfl rfl) ?_
    refine Wl.nil ?_
    refine Wx.thenN (hK3 _ _ ?_)
    refine Wc.cond _ rfl (fun h12 => ?_) (fun h12 => ?_)
    · (first | replace h12 := of_decide_eq_true h12 | replace h12 := nd_true h12 | skip)
      refine Wc.seq (fun K4 hK4 => ?_)
      refine Wc.keep [] (.nil) ?_
      refine Wc.region ?_
      refine Wl.val rfl rfl rfl (Gives.assign rfl rfl) ?_
      refine Wl.nil ?_
      refine Wx.thenN (hK4 _ _ ?_)
      refine Wc.ret ?_
      refine Wx.thenR ?_
      refine Wx.ret [_] ⟨rfl, trivial⟩ ?_
      first | exact ⟨by rw [name_len (by omega)]; rfl, hE⟩ | exact ⟨by rw [name_no (getC hlt) (nameC_f (by omega))]; rfl, hE⟩ | exact ⟨by rw [name_yes (by omega) (fun j hj c hc => hall j (by omega) c hc)]; rfl, hE⟩
    · (first | replace h12 := of_decide_eq_false h12 | replace h12 := nd_false h12 | skip)
      refine Wc.skip ?_
      refine Wx.thenN (hK2 _ _ ?_)
      refine Wc.seq (fun K5 hK5 => ?_)
      refine Wc.seq (fun K6 hK6 => ?_)
      refine Wc.keep [(0, _)] (.cons rfl (.nil)) ?_
      refine Wc.region ?_
      refine Wl.val rfl rfl rfl (Gives.assign rfl rfl) ?_
      refine Wl.nil ?_
      refine Wx.thenN (hK6 _ _ ?_)
      refine Wc.block ?_
      refine Wc.keep [(0, _), (3, _)] (.cons rfl (.cons rfl (.nil))) ?_
      refine Wc.loopC (ι := Nat) [(0, _)] (fun i => [(3, .int .i64 (i : Int))]) (fun i wr => i ≤ l.length ∧ (∀ j < i, ∀ c, l[j]? = some c → nameC c = true) ∧ Ext w wr) (fun i => l.length - i) (0) (.cons (by first | exact rfl | exact look_int rfl (by omega) | exact look_slice rfl (by omega)) (.cons rfl (.nil))) (⟨Nat.zero_le _, fun j hj => absurd hj (by omega), hE⟩) ?_
      intro i wr hJ KL1 hKL1
      clear hE
      obtain ⟨hi, hall, hE⟩ := hJ
      refine Wc.seq (fun K7 hK7 => ?_)
      refine Wc.seq (fun K8 hK8 => ?_)
      refine Wc.keep [(0, _), (3, _)] (.cons rfl (.cons rfl (.nil))) ?_
      refine Wc.region ?_
      refine Wl.val rfl rfl rfl (Gives.move rfl rfl) ?_
      refine Wl.val rfl rfl rfl (Gives.move rfl rfl) ?_
      refine Wl.val rfl rfl rfl (Gives.lenTxt rfl Tryd.underlying9 rfl) ?_
      refine Wl.val rfl rfl rfl (Gives.lss rfl rfl rfl) ?_
      refine Wl.nil ?_
      refine Wx.thenN (hK8 _ _ ?_)
      refine Wc.cond _ rfl (fun h16 => ?_) (fun h16 => ?_)
      · (first | replace h16 := of_decide_eq_true h16 | replace h16 := nd_true h16 | skip)
        refine Wc.skip ?_
        refine Wx.thenN (hK7 _ _ ?_)
        refine Wc.seq (fun K9 hK9 => ?_)
        refine Wc.block ?_
        refine Wc.seq (fun K10 hK10 => ?_)
        refine Wc.keep [(0, _), (3, _)] (.cons rfl (.cons rfl (.nil))) ?_
        have hlt : i < l.length := by omega
        refine Wc.region ?_
        refine Wl.val rfl rfl rfl (Gives.move rfl rfl) ?_
        refine Wl.val rfl rfl rfl (Gives.move rfl rfl) ?_
        refine Wl.val rfl rfl rfl (Gives.idxTxt rfl Tryd.underlying9 rfl rfl rfl (getC hlt)) ?_
        refine Wl.val rfl rfl rfl (Gives.assign rfl rfl) ?_
        refine Wl.nil ?_
        refine Wx.thenN (hK10 _ _ ?_)
        refine Wc.seq (fun K11 hK11 => ?_)
        refine Wc.keep [(0, _), (3, _), (4, _)] (.cons rfl (.cons rfl (.cons rfl (.nil)))) ?_
        refine Wc.region ?_
        refine Wl.val rfl rfl rfl (Gives.move rfl rfl) ?_
        refine Wl.val rfl rfl rfl (Gives.lss rfl rfl rfl) ?_
        refine Wl.val rfl rfl rfl (Gives.move rfl rfl) ?_
        refine Wl.guard rfl rfl rfl (fun h24 => ?_) (fun h24 => ?_)
        · (first | replace h24 := of_decide_eq_false h24 | replace h24 := nd_false h24 | skip)
          refine Wl.val rfl rfl rfl (Gives.move rfl rfl) ?_
          refine Wl.val rfl rfl rfl (Gives.gtr rfl rfl rfl) ?_
          refine Wl.val rfl rfl rfl (Gives.pickF rfl rfl rfl rfl) ?_
          refine Wl.val rfl rfl rfl (Gives.move rfl rfl) ?_
          refine Wl.guard rfl rfl rfl (fun h28 => ?_) (fun h28 => ?_)
          · (first | replace h28 := of_decide_eq_true h28 | replace h28 := nd_true h28 | skip)
            refine Wl.val rfl rfl rfl (Gives.move rfl rfl) ?_
            refine Wl.val rfl rfl rfl (Gives.lss rfl rfl rfl) ?_
            refine Wl.val rfl rfl rfl (Gives.move rfl rfl) ?_
            refine Wl.guard rfl rfl rfl (fun h31 => ?_) (fun h31 => ?_)
            · (first | replace h31 := of_decide_eq_false h31 | replace h31 := nd_false h31 | skip)
              refine Wl.val rfl rfl rfl (Gives.move rfl rfl) ?_
              refine Wl.val rfl rfl rfl (Gives.gtr rfl rfl rfl) ?_
              refine Wl.val rfl rfl rfl (Gives.pickF rfl rfl rfl rfl) ?_
              refine Wl.val rfl rfl rfl (Gives.pickT rfl rfl rfl rfl) ?_
              refine Wl.val rfl rfl rfl (Gives.move rfl rfl) ?_
              refine Wl.guard rfl rfl rfl (fun h36 => ?_) (fun h36 => ?_)
              · (first | replace h36 := of_decide_eq_true h36 | replace h36 := nd_true h36 | skip)
                refine Wl.val rfl rfl rfl (Gives.move rfl rfl) ?_
                refine Wl.val rfl rfl rfl (Gives.neq rfl rfl rfl) ?_
                refine Wl.val rfl rfl rfl (Gives.pickT rfl rfl rfl rfl) ?_
                refine Wl.nil ?_
                refine Wx.thenN (hK11 _ _ ?_)
                refine Wc.cond _ rfl (fun h39 => ?_) (fun h39 => ?_)
                · (first | replace h39 := of_decide_eq_true h39 | replace h39 := nd_true h39 | skip)
                  refine Wc.seq (fun K12 hK12 => ?_)
                  refine Wc.keep [] (.nil) ?_
                  refine Wc.region ?_
                  refine Wl.val rfl rfl rfl (Gives.assign rfl rfl) ?_
                  refine Wl.nil ?_
                  refine Wx.thenN (hK12 _ _ ?_)
                  refine Wc.ret ?_
                  refine Wx.blockR ?_
                  refine Wx.thenR ?_
                  refine Wx.thenR ?_
                  refine Wx.blockR ?_
                  refine Wx.thenR ?_
                  refine Wx.ret [_] ⟨rfl, trivial⟩ ?_
                  first | exact ⟨by rw [name_len (by omega)]; rfl, hE⟩ | exact ⟨by rw [name_no (getC hlt) (nameC_f (by omega))]; rfl, hE⟩ | exact ⟨by rw [name_yes (by omega) (fun j hj c hc => hall j (by omega) c hc)]; rfl, hE⟩
                · (first | replace h39 := of_decide_eq_false h39 | replace h39 := nd_false h39 | skip)
                  refine Wc.skip ?_
                  refine Wx.blockN ?_
                  refine Wx.thenN (hK9 _ _ ?_)
                  refine Wc.keep [(0, _), (3, _)] (.cons rfl (.cons rfl (.nil))) ?_
                  refine Wc.region ?_
                  refine Wl.val rfl rfl rfl (Gives.move rfl rfl) ?_
                  refine Wl.val rfl rfl rfl (Gives.add rfl rfl rfl (by first | exact IntWalk.i64_in _ (by omega) | exact u64_in _ (by omega) | exact u32_in _ (by omega) | exact u8_in _ (by omega) | exact rfl)) ?_
                  refine Wl.val rfl rfl rfl (Gives.assign rfl rfl) ?_
                  refine Wl.nil ?_
                  refine Wx.thenN ?_
                  exact hKL1 (i + 1) _ _ (.cons (by first | exact rfl | exact look_int rfl (by omega) | exact look_slice rfl (by omega)) (.cons rfl (.nil))) ⟨by omega, all_step hall hlt (nameC_t (by omega)), hE⟩ (by show l.length - (i + 1) < l.length - i; omega)
              · (first | replace h36 := of_decide_eq_false h36 | replace h36 := nd_false h36 | skip)
                refine Wl.pass rfl rfl rfl ?_
                refine Wl.pass rfl rfl rfl ?_
                refine Wl.val rfl rfl rfl (Gives.pickF rfl rfl rfl rfl) ?_
                refine Wl.nil ?_
                refine Wx.thenN (hK11 _ _ ?_)
                refine Wc.condF rfl rfl ?_
                refine Wc.skip ?_
                refine Wx.blockN ?_
                refine Wx.thenN (hK9 _ _ ?_)
                refine Wc.keep [(0, _), (3, _)] (.cons rfl (.cons rfl (.nil))) ?_
                refine Wc.region ?_
                refine Wl.val rfl rfl rfl (Gives.move rfl rfl) ?_
                refine Wl.val rfl rfl rfl (Gives.add rfl rfl rfl (by first | exact IntWalk.i64_in _ (by omega) | exact u64_in _ (by omega) | exact u32_in _ (by omega) | exact u8_in _ (by omega) | exact rfl)) ?_
                refine Wl.val rfl rfl rfl (Gives.assign rfl rfl) ?_
                refine Wl.nil ?_
                refine Wx.thenN ?_
                exact hKL1 (i + 1) _ _ (.cons (by first | exact rfl | exact look_int rfl (by omega) | exact look_slice rfl (by omega)) (.cons rfl (.nil))) ⟨by omega, all_step hall hlt (nameC_t (by omega)), hE⟩ (by show l.length - (i + 1) < l.length - i; omega)
            · (first | replace h31 := of_decide_eq_true h31 | replace h31 := nd_true h31 | skip)
              refine Wl.pass rfl rfl rfl ?_
              refine Wl.pass rfl rfl rfl ?_
              refine Wl.val rfl rfl rfl (Gives.pickT rfl rfl rfl rfl) ?_
              refine Wl.val rfl rfl rfl (Gives.pickT rfl rfl rfl rfl) ?_
              refine Wl.val rfl rfl rfl (Gives.move rfl rfl) ?_
              refine Wl.guardT rfl rfl rfl rfl ?_
              refine Wl.val rfl rfl rfl (Gives.move rfl rfl) ?_
              refine Wl.val rfl rfl rfl (Gives.neq rfl rfl rfl) ?_
              refine Wl.val rfl rfl rfl (Gives.pickT rfl rfl rfl rfl) ?_
              refine Wl.nil ?_
              refine Wx.thenN (hK11 _ _ ?_)
              refine Wc.cond _ rfl (fun h39 => ?_) (fun h39 => ?_)
              · (first | replace h39 := of_decide_eq_true h39 | replace h39 := nd_true h39 | skip)
                refine Wc.seq (fun K13 hK13 => ?_)
                refine Wc.keep [] (.nil) ?_
                refine Wc.region ?_
                refine Wl.val rfl rfl rfl (Gives.assign rfl rfl) ?_
                refine Wl.nil ?_
                refine Wx.thenN (hK13 _ _ ?_)
                refine Wc.ret ?_
                refine Wx.blockR ?_
                refine Wx.thenR ?_
                refine Wx.thenR ?_
                refine Wx.blockR ?_
                refine Wx.thenR ?_
                refine Wx.ret [_] ⟨rfl, trivial⟩ ?_
                first | exact ⟨by rw [name_len (by omega)]; rfl, hE⟩ | exact ⟨by rw [name_no (getC hlt) (nameC_f (by omega))]; rfl, hE⟩ | exact ⟨by rw [name_yes (by omega) (fun j hj c hc => hall j (by omega) c hc)]; rfl, hE⟩
              · (first | replace h39 := of_decide_eq_false h39 | replace h39 := nd_false h39 | skip)
                refine Wc.skip ?_
                refine Wx.blockN ?_
                refine Wx.thenN (hK9 _ _ ?_)
                refine Wc.keep [(0, _), (3, _)] (.cons rfl (.cons rfl (.nil))) ?_
                refine Wc.region ?_
                refine Wl.val rfl rfl rfl (Gives.move rfl rfl) ?_
                refine Wl.val rfl rfl rfl (Gives.add rfl rfl rfl (by first | exact IntWalk.i64_in _ (by omega) | exact u64_in _ (by omega) | exact u32_in _ (by omega) | exact u8_in _ (by omega) | exact rfl)) ?_
                refine Wl.val rfl rfl rfl (Gives.assign rfl rfl) ?_
                refine Wl.nil ?_
                refine Wx.thenN ?_
                exact hKL1 (i + 1) _ _ (.cons (by first | exact rfl | exact look_int rfl (by omega) | exact look_slice rfl (by omega)) (.cons rfl (.nil))) ⟨by omega, all_step hall hlt (nameC_t (by omega)), hE⟩ (by show l.length - (i + 1) < l.length - i; omega)
          · (first | replace h28 := of_decide_eq_false h28 | replace h28 := nd_false h28 | skip)
            refine Wl.pass rfl rfl rfl ?_
            refine Wl.pass rfl rfl rfl ?_
            refine Wl.pass rfl rfl rfl ?_
            refine Wl.pass rfl rfl rfl ?_
            refine Wl.pass rfl rfl rfl ?_
            refine Wl.pass rfl rfl rfl ?_
            refine Wl.val rfl rfl rfl (Gives.pickF rfl rfl rfl rfl) ?_
            refine Wl.val rfl rfl rfl (Gives.move rfl rfl) ?_
            refine Wl.guardF rfl rfl rfl rfl ?_
            refine Wl.pass rfl rfl rfl ?_
            refine Wl.pass rfl rfl rfl ?_
            refine Wl.val rfl rfl rfl (Gives.pickF rfl rfl rfl rfl) ?_
            refine Wl.nil ?_
            refine Wx.thenN (hK11 _ _ ?_)
            refine Wc.condF rfl rfl ?_
            refine Wc.skip ?_
            refine Wx.blockN ?_
            refine Wx.thenN (hK9 _ _ ?_)
            refine Wc.keep [(0, _), (3, _)] (.cons rfl (.cons rfl (.nil))) ?_
            refine Wc.region ?_
            refine Wl.val rfl rfl rfl (Gives.move rfl rfl) ?_
            refine Wl.val rfl rfl rfl (Gives.add rfl rfl rfl (by first | exact IntWalk.i64_in _ (by omega) | exact u64_in _ (by omega) | exact u32_in _ (by omega) | exact u8_in _ (by omega) | exact rfl)) ?_
            refine Wl.val rfl rfl rfl (Gives.assign rfl rfl) ?_
            refine Wl.nil ?_
            refine Wx.thenN ?_
            exact hKL1 (i + 1) _ _ (.cons (by first | exact rfl | exact look_int rfl (by omega) | exact look_slice rfl (by omega)) (.cons rfl (.nil))) ⟨by omega, all_step hall hlt (nameC_t (by omega)), hE⟩ (by show l.length - (i + 1) < l.length - i; omega)
        · (first | replace h24 := of_decide_eq_true h24 | replace h24 := nd_true h24 | skip)
          refine Wl.pass rfl rfl rfl ?_
          refine Wl.pass rfl rfl rfl ?_
          refine Wl.val rfl rfl rfl (Gives.pickT rfl rfl rfl rfl) ?_
          refine Wl.val rfl rfl rfl (Gives.move rfl rfl) ?_
          refine Wl.guardT rfl rfl rfl rfl ?_
          refine Wl.val rfl rfl rfl (Gives.move rfl rfl) ?_
          refine Wl.val rfl rfl rfl (Gives.lss rfl rfl rfl) ?_
          refine Wl.val rfl rfl rfl (Gives.move rfl rfl) ?_
          refine Wl.guard rfl rfl rfl (fun h31 => ?_) (fun h31 => ?_)
          · (first | replace h31 := of_decide_eq_false h31 | replace h31 := nd_false h31 | skip)
            refine Wl.val rfl rfl rfl (Gives.move rfl rfl) ?_
            refine Wl.val rfl rfl rfl (Gives.gtr rfl rfl rfl) ?_
            refine Wl.val rfl rfl rfl (Gives.pickF rfl rfl rfl rfl) ?_
            refine Wl.val rfl rfl rfl (Gives.pickT rfl rfl rfl rfl) ?_
            refine Wl.val rfl rfl rfl (Gives.move rfl rfl) ?_
            refine Wl.guard rfl rfl rfl (fun h36 => ?_) (fun h36 => ?_)
            · (first | replace h36 := of_decide_eq_true h36 | replace h36 := nd_true h36 | skip)
              refine Wl.val rfl rfl rfl (Gives.move rfl rfl) ?_
              refine Wl.val rfl rfl rfl (Gives.neq rfl rfl rfl) ?_
              refine Wl.val rfl rfl rfl (Gives.pickT rfl rfl rfl rfl) ?_
              refine Wl.nil ?_
              refine Wx.thenN (hK11 _ _ ?_)
              refine Wc.cond _ rfl (fun h39 => ?_) (fun h39 => ?_)
              · (first | replace h39 := of_decide_eq_true h39 | replace h39 := nd_true h39 | skip)
                refine Wc.seq (fun K14 hK14 => ?_)
                refine Wc.keep [] (.nil) ?_
                refine Wc.region ?_
                refine Wl.val rfl rfl rfl (Gives.assign rfl rfl) ?_
                refine Wl.nil ?_
                refine Wx.thenN (hK14 _ _ ?_)
                refine Wc.ret ?_
                refine Wx.blockR ?_
                refine Wx.thenR ?_
                refine Wx.thenR ?_
                refine Wx.blockR ?_
                refine Wx.thenR ?_
                refine Wx.ret [_] ⟨rfl, trivial⟩ ?_
                first | exact ⟨by rw [name_len (by omega)]; rfl, hE⟩ | exact ⟨by rw [name_no (getC hlt) (nameC_f (by omega))]; rfl, hE⟩ | exact ⟨by rw [name_yes (by omega) (fun j hj c hc => hall j (by omega) c hc)]; rfl, hE⟩
              · (first | replace h39 := of_decide_eq_false h39 | replace h39 := nd_false h39 | skip)
                refine Wc.skip ?_
                refine Wx.blockN ?_
                refine Wx.thenN (hK9 _ _ ?_)
                refine Wc.keep [(0, _), (3, _)] (.cons rfl (.cons rfl (.nil))) ?_
                refine Wc.region ?_
                refine Wl.val rfl rfl rfl (Gives.move rfl rfl) ?_
                refine Wl.val rfl rfl rfl (Gives.add rfl rfl rfl (by first | exact IntWalk.i64_in _ (by omega) | exact u64_in _ (by omega) | exact u32_in _ (by omega) | exact u8_in _ (by omega) | exact rfl)) ?_
                refine Wl.val rfl rfl rfl (Gives.assign rfl rfl) ?_
                refine Wl.nil ?_
                refine Wx.thenN ?_
                exact hKL1 (i + 1) _ _ (.cons (by first | exact rfl | exact look_int rfl (by omega) | exact look_slice rfl (by omega)) (.cons rfl (.nil))) ⟨by omega, all_step hall hlt (nameC_t (by omega)), hE⟩ (by show l.length - (i + 1) < l.length - i; omega)
            · (first | replace h36 := of_decide_eq_false h36 | replace h36 := nd_false h36 | skip)
              refine Wl.pass rfl rfl rfl ?_
              refine Wl.pass rfl rfl rfl ?_
              refine Wl.val rfl rfl rfl (Gives.pickF rfl rfl rfl rfl) ?_
              refine Wl.nil ?_
              refine Wx.thenN (hK11 _ _ ?_)
              refine Wc.condF rfl rfl ?_
              refine Wc.skip ?_
              refine Wx.blockN ?_
              refine Wx.thenN (hK9 _ _ ?_)
              refine Wc.keep [(0, _), (3, _)] (.cons rfl (.cons rfl (.nil))) ?_
              refine Wc.region ?_
              refine Wl.val rfl rfl rfl (Gives.move rfl rfl) ?_
              refine Wl.val rfl rfl rfl (Gives.add rfl rfl rfl (by first | exact IntWalk.i64_in _ (by omega) | exact u64_in _ (by omega) | exact u32_in _ (by omega) | exact u8_in _ (by omega) | exact rfl)) ?_
              refine Wl.val rfl rfl rfl (Gives.assign rfl rfl) ?_
              refine Wl.nil ?_
              refine Wx.thenN ?_
              exact hKL1 (i + 1) _ _ (.cons (by first | exact rfl | exact look_int rfl (by omega) | exact look_slice rfl (by omega)) (.cons rfl (.nil))) ⟨by omega, all_step hall hlt (nameC_t (by omega)), hE⟩ (by show l.length - (i + 1) < l.length - i; omega)
          · (first | replace h31 := of_decide_eq_true h31 | replace h31 := nd_true h31 | skip)
            refine Wl.pass rfl rfl rfl ?_
            refine Wl.pass rfl rfl rfl ?_
            refine Wl.val rfl rfl rfl (Gives.pickT rfl rfl rfl rfl) ?_
            refine Wl.val rfl rfl rfl (Gives.pickT rfl rfl rfl rfl) ?_
            refine Wl.val rfl rfl rfl (Gives.move rfl rfl) ?_
            refine Wl.guardT rfl rfl rfl rfl ?_
            refine Wl.val rfl rfl rfl (Gives.move rfl rfl) ?_
            refine Wl.val rfl rfl rfl (Gives.neq rfl rfl rfl) ?_
            refine Wl.val rfl rfl rfl (Gives.pickT rfl rfl rfl rfl) ?_
            refine Wl.nil ?_
            refine Wx.thenN (hK11 _ _ ?_)
            refine Wc.cond _ rfl (fun h39 => ?_) (fun h39 => ?_)
            · (first | replace h39 := of_decide_eq_true h39 | replace h39 := nd_true h39 | skip)
              refine Wc.seq (fun K15 hK15 => ?_)
              refine Wc.keep [] (.nil) ?_
              refine Wc.region ?_
              refine Wl.val rfl rfl rfl (Gives.assign rfl rfl) ?_
              refine Wl.nil ?_
              refine Wx.thenN (hK15 _ _ ?_)
              refine Wc.ret ?_
              refine Wx.blockR ?_
              refine Wx.thenR ?_
              refine Wx.thenR ?_
              refine Wx.blockR ?_
              refine Wx.thenR ?_
              refine Wx.ret [_] ⟨rfl, trivial⟩ ?_
              first | exact ⟨by rw [name_len (by omega)]; rfl, hE⟩ | exact ⟨by rw [name_no (getC hlt) (nameC_f (by omega))]; rfl, hE⟩ | exact ⟨by rw [name_yes (by omega) (fun j hj c hc => hall j (by omega) c hc)]; rfl, hE⟩
            · (first | replace h39 := of_decide_eq_false h39 | replace h39 := nd_false h39 | skip)
              refine Wc.skip ?_
              refine Wx.blockN ?_
              refine Wx.thenN (hK9 _ _ ?_)
              refine Wc.keep [(0, _), (3, _)] (.cons rfl (.cons rfl (.nil))) ?_
              refine Wc.region ?_
              refine Wl.val rfl rfl rfl (Gives.move rfl rfl) ?_
              refine Wl.val rfl rfl rfl (Gives.add rfl rfl rfl (by first | exact IntWalk.i64_in _ (by omega) | exact u64_in _ (by omega) | exact u32_in _ (by omega) | exact u8_in _ (by omega) | exact rfl)) ?_
              refine Wl.val rfl rfl rfl (Gives.assign rfl rfl) ?_
              refine Wl.nil ?_
              refine Wx.thenN ?_
              exact hKL1 (i + 1) _ _ (.cons (by first | exact rfl | exact look_int rfl (by omega) | exact look_slice rfl (by omega)) (.cons rfl (.nil))) ⟨by omega, all_step hall hlt (nameC_t (by omega)), hE⟩ (by show l.length - (i + 1) < l.length - i; omega)
      · (first | replace h16 := of_decide_eq_false h16 | replace h16 := nd_false h16 | skip)
        refine Wc.exit ?_
        refine Wx.thenE ?_
        refine Wx.thenE ?_
        refine Wx.hit ?_
        refine Wx.thenN (hK5 _ _ ?_)
        refine Wc.seq (fun K16 hK16 => ?_)
        refine Wc.keep [] (.nil) ?_
        refine Wc.region ?_
        refine Wl.val rfl rfl rfl (Gives.assign rfl rfl) ?_
        refine Wl.nil ?_
        refine Wx.thenN (hK16 _ _ ?_)
        refine Wc.ret ?_
        refine Wx.ret [_] ⟨rfl, trivial⟩ ?_
        first | exact ⟨by rw [name_len (by omega)]; rfl, hE⟩ | exact ⟨by rw [name_no (getC hlt) (nameC_f (by omega))]; rfl, hE⟩ | exact ⟨by rw [name_yes (by omega) (fun j hj c hc => hall j (by omega) c hc)]; rfl, hE⟩
  · (first | replace h8 := of_decide_eq_true h8 | replace h8 := nd_true h8 | skip)
    refine Wl.pass rfl rfl rfl ?_
    refine Wl.pass rfl rfl rfl ?_
    refine Wl.pass rfl rfl rfl ?_
    refine Wl.val rfl rfl rfl (Gives.pickT rfl rfl rfl rfl) ?_
    refine Wl.nil ?_
    refine Wx.thenN (hK3 _ _ ?_)
    refine Wc.condT rfl rfl ?_
    refine Wc.seq (fun K17 hK17 => ?_)
    refine Wc.keep [] (.nil) ?_
    refine Wc.region ?_
    refine Wl.val rfl rfl rfl (Gives.assign rfl rfl) ?_
    refine Wl.nil ?_
    refine Wx.thenN (hK17 _ _ ?_)
    refine Wc.ret ?_
    refine Wx.thenR ?_
    refine Wx.ret [_] ⟨rfl, trivial⟩ ?_
    first | exact ⟨by rw [name_len (by omega)]; rfl, hE⟩ | exact ⟨by rw [name_no (getC hlt) (nameC_f (by omega))]; rfl, hE⟩ | exact ⟨by rw [name_yes (by omega) (fun j hj c hc => hall j (by omega) c hc)]; rfl, hE⟩
theorem printC_f {c : UInt8} (h : ¬ (32 ≤ c.toNat ∧ c.toNat ≤ 126)) : printC c = false := decide_eq_false h
theorem printC_t {c : UInt8} (h : 32 ≤ c.toNat ∧ c.toNat ≤ 126) : printC c = true := decide_eq_true h
theorem all_no {l : List UInt8} {p : UInt8 → Bool} {i : Nat} {c : UInt8} (h : l[i]? = some c) (hc : p c = false) : l.all p = false := by
  rw [Bool.eq_false_iff]
  intro hh
  have := List.all_eq_true.1 hh c (List.mem_of_getElem? h)
  rw [hc] at this; cases this
theorem all_yes {l : List UInt8} {p : UInt8 → Bool} (ha : ∀ i < l.length, ∀ c, l[i]? = some c → p c = true) : l.all p = true := by
  rw [List.all_eq_true]
  intro c hc
  obtain ⟨i, hi⟩ := List.getElem?_of_mem hc
  exact ha i (List.getElem?_eq_some_iff.1 hi).1 c hi
set_option maxRecDepth 20000 in
theorem printableP {P : Nat → Prop} (w : World) (A : Option Addr) (n c : Nat) (l : List UInt8) (ha : BV w P A n c l) : Calls Tryd.prog 45 #[.slice A n c] w fun e w' => e = .returned (.bool (l.all printC)) ∧ Ext w w' := by
  have hl := ha.len
  have hle := ha.le
  refine calls_enter Tryd.func45 rfl Tryd.ntmps45 rfl ?_
  have hE : Ext w w := Ext.refl w
  refine Wc.seq (fun K1 hK1 => ?_)
  refine Wc.keep [(0, _)] (.cons rfl (.nil)) ?_
  refine Wc.region ?_
  refine Wl.val rfl rfl rfl (Gives.assign rfl rfl) ?_
  refine Wl.nil ?_
  refine Wx.thenN (hK1 _ _ ?_)
  refine Wc.seq (fun K2 hK2 => ?_)
  refine Wc.seq (fun K3 hK3 => ?_)
  refine Wc.keep [(0, _)] (.cons rfl (.nil)) ?_
  refine Wc.region ?_
  refine Wl.val rfl rfl rfl (Gives.move rfl rfl) ?_
  refine Wl.val rfl rfl rfl (Gives.lenS rfl Tryd.underlying22 rfl) ?_
  refine Wl.val rfl rfl rfl (Gives.move rfl rfl) ?_
  refine Wl.nil ?_
  refine Wx.thenN (hK3 _ _ ?_)
  refine Wc.block ?_
  refine Wc.keep [(5, _), (6, _), (7, _)] (.cons rfl (.cons rfl (.cons rfl (.nil)))) ?_
  refine Wc.loopC (ι := Nat) [(5, _), (6, _)] (fun i => [(7, .int .i64 (i : Int))]) (fun i wr => i ≤ l.length ∧ (∀ j < i, ∀ c, l[j]? = some c → printC c = true) ∧ Ext w wr) (fun i => l.length - i) (0) (.cons (by first | exact rfl | exact look_int rfl (by omega) | exact look_slice rfl (by omega)) (.cons rfl (.cons rfl (.nil)))) (⟨Nat.zero_le _, fun j hj => absurd hj (by omega), hE⟩) ?_
  intro i wr hJ KL1 hKL1
  clear hE
  obtain ⟨hi, hall, hE⟩ := hJ
  refine Wc.seq (fun K4 hK4 => ?_)
  refine Wc.keep [(5, _), (6, _), (7, _)] (.cons rfl (.cons rfl (.cons rfl (.nil)))) ?_
  refine Wc.region ?_
  refine Wl.val rfl rfl rfl (Gives.lss rfl rfl rfl) ?_
  refine Wl.nil ?_
  refine Wx.thenN (hK4 _ _ ?_)
  refine Wc.seq (fun K5 hK5 => ?_)
  refine Wc.cond _ rfl (fun h8 => ?_) (fun h8 => ?_)
  · (first | replace h8 := of_decide_eq_true h8 | replace h8 := nd_true h8 | skip)
    refine Wc.skip ?_
    refine Wx.thenN (hK5 _ _ ?_)
    refine Wc.seq (fun K6 hK6 => ?_)
    refine Wc.block ?_
    refine Wc.seq (fun K7 hK7 => ?_)
    refine Wc.keep [(5, _), (6, _), (7, _)] (.cons rfl (.cons rfl (.cons rfl (.nil)))) ?_
    have hlt : i < l.length := by omega
    obtain ⟨g, off, rfl, _, _⟩ := ha.2.2.2 (by omega)
    refine Wc.region ?_
    refine Wl.val rfl rfl rfl (Gives.ixS (i := _) rfl Tryd.underlying22 (by kernel_rfl) rfl rfl rfl (by omega)) ?_
    refine Wl.val rfl rfl rfl (Gives.ldC rfl (by kernel_rfl) rfl ((ha.ext hE).cellAt (getC hlt))) ?_
    refine Wl.val rfl rfl rfl (Gives.assign rfl rfl) ?_
    refine Wl.nil ?_
    refine Wx.thenN (hK7 _ _ ?_)
    refine Wc.seq (fun K8 hK8 => ?_)
    refine Wc.keep [(4, _), (5, _), (6, _), (7, _)] (.cons rfl (.cons rfl (.cons rfl (.cons rfl (.nil))))) ?_
    refine Wc.region ?_
    refine Wl.val rfl rfl rfl (Gives.move rfl rfl) ?_
    refine Wl.val rfl rfl rfl (Gives.lss rfl rfl rfl) ?_
    refine Wl.val rfl rfl rfl (Gives.move rfl rfl) ?_
    refine Wl.guard rfl rfl rfl (fun h13 => ?_) (fun h13 => ?_)
    · (first | replace h13 := of_decide_eq_false h13 | replace h13 := nd_false h13 | skip)
      refine Wl.val rfl rfl rfl (Gives.move rfl rfl) ?_
      refine Wl.val rfl rfl rfl (Gives.gtr rfl rfl rfl) ?_
      refine Wl.val rfl rfl rfl (Gives.pickF rfl rfl rfl rfl) ?_
      refine Wl.nil ?_
      refine Wx.thenN (hK8 _ _ ?_)
      refine Wc.cond _ rfl (fun h16 => ?_) (fun h16 => ?_)
      · (first | replace h16 := of_decide_eq_true h16 | replace h16 := nd_true h16 | skip)
        refine Wc.seq (fun K9 hK9 => ?_)
        refine Wc.keep [] (.nil) ?_
        refine Wc.region ?_
        refine Wl.val rfl rfl rfl (Gives.assign rfl rfl) ?_
        refine Wl.nil ?_
        refine Wx.thenN (hK9 _ _ ?_)
        refine Wc.ret ?_
        refine Wx.blockR ?_
        refine Wx.thenR ?_
        refine Wx.thenR ?_
        refine Wx.blockR ?_
        refine Wx.thenR ?_
        refine Wx.ret [_] ⟨rfl, trivial⟩ ?_
        first | exact ⟨by rw [all_no (getC hlt) (printC_f (by omega))]; rfl, hE⟩ | exact ⟨by rw [all_yes (fun j hj c hc => hall j (by omega) c hc)]; rfl, hE⟩
      · (first | replace h16 := of_decide_eq_false h16 | replace h16 := nd_false h16 | skip)
        refine Wc.skip ?_
        refine Wx.blockN ?_
        refine Wx.thenN (hK6 _ _ ?_)
        refine Wc.keep [(5, _), (6, _), (7, _)] (.cons rfl (.cons rfl (.cons rfl (.nil)))) ?_
        refine Wc.region ?_
        refine Wl.val rfl rfl rfl (Gives.add rfl rfl rfl (by first | exact IntWalk.i64_in _ (by omega) | exact u64_in _ (by omega) | exact u32_in _ (by omega) | exact u8_in _ (by omega) | exact rfl)) ?_
        refine Wl.val rfl rfl rfl (Gives.move rfl rfl) ?_
        refine Wl.nil ?_
        refine Wx.thenN ?_
        exact hKL1 (i + 1) _ _ (.cons (by first | exact rfl | exact look_int rfl (by omega) | exact look_slice rfl (by omega)) (.cons rfl (.cons rfl (.nil)))) ⟨by omega, all_step hall hlt (printC_t (by omega)), hE⟩ (by show l.length - (i + 1) < l.length - i; omega)
    · (first | replace h13 := of_decide_eq_true h13 | replace h13 := nd_true h13 | skip)
      refine Wl.pass rfl rfl rfl ?_
      refine Wl.pass rfl rfl rfl ?_
      refine Wl.val rfl rfl rfl (Gives.pickT rfl rfl rfl rfl) ?_
      refine Wl.nil ?_
      refine Wx.thenN (hK8 _ _ ?_)
      refine Wc.condT rfl rfl ?_
      refine Wc.seq (fun K10 hK10 => ?_)
      refine Wc.keep [] (.nil) ?_
      refine Wc.region ?_
      refine Wl.val rfl rfl rfl (Gives.assign rfl rfl) ?_
      refine Wl.nil ?_
      refine Wx.thenN (hK10 _ _ ?_)
      refine Wc.ret ?_
      refine Wx.blockR ?_
      refine Wx.thenR ?_
      refine Wx.thenR ?_
      refine Wx.blockR ?_
      refine Wx.thenR ?_
      refine Wx.ret [_] ⟨rfl, trivial⟩ ?_
      first | exact ⟨by rw [all_no (getC hlt) (printC_f (by omega))]; rfl, hE⟩ | exact ⟨by rw [all_yes (fun j hj c hc => hall j (by omega) c hc)]; rfl, hE⟩
  · (first | replace h8 := of_decide_eq_false h8 | replace h8 := nd_false h8 | skip)
    refine Wc.exit ?_
    refine Wx.thenE ?_
    refine Wx.thenE ?_
    refine Wx.hit ?_
    refine Wx.thenN (hK2 _ _ ?_)
    refine Wc.seq (fun K11 hK11 => ?_)
    refine Wc.keep [] (.nil) ?_
    refine Wc.region ?_
    refine Wl.val rfl rfl rfl (Gives.assign rfl rfl) ?_
    refine Wl.nil ?_
    refine Wx.thenN (hK11 _ _ ?_)
    refine Wc.ret ?_
    refine Wx.ret [_] ⟨rfl, trivial⟩ ?_
    first | exact ⟨by rw [all_no (getC hlt) (printC_f (by omega))]; rfl, hE⟩ | exact ⟨by rw [all_yes (fun j hj c hc => hall j (by omega) c hc)]; rfl, hE⟩
theorem ixbP {P : Nat → Prop} (w : World) (A : Option Addr) (n c : Nat) (l : List UInt8) (ha : BV w P A n c l) (b : UInt8) : Calls Tryd.prog 44 #[.slice A n c, .int .u8 (b.toNat : Int)] w fun e w' => e = .returned (.int .i64 (Lib.indexByte l b)) ∧ Ext w w' := by
  refine calls_enter Tryd.func44 rfl Tryd.ntmps44 rfl ?_
  have hE : Ext w w := Ext.refl w
  refine Wc.seq (fun K1 hK1 => ?_)
  refine Wc.keep [(0, _), (1, _)] (.cons rfl (.cons rfl (.nil))) ?_
  refine Wc.region ?_
  refine Wl.val rfl rfl rfl (Gives.assign rfl rfl) ?_
  refine Wl.nil ?_
  refine Wx.thenN (hK1 _ _ ?_)
  refine Wc.seq (fun K2 hK2 => ?_)
  refine Wc.keep [(0, _), (1, _)] (.cons rfl (.cons rfl (.nil))) ?_
  refine Wc.region ?_
  refine Wl.val rfl rfl rfl (Gives.move rfl rfl) ?_
  refine Wl.val rfl rfl rfl (Gives.move rfl rfl) ?_
  refine Wl.val rfl rfl rfl (Does.outer rfl Tryd.func70 (by kernel_rfl) (by kernel_rfl) (by kernel_rfl) (E := Extern.BytealgIndexByte.indexByte) (by kernel_rfl) rfl (run_ixb ha b)) ?_
  refine Wl.val rfl rfl rfl (Gives.assign rfl rfl) ?_
  refine Wl.nil ?_
  refine Wx.thenN (hK2 _ _ ?_)
  refine Wc.ret ?_
  refine Wx.ret [_] ⟨rfl, trivial⟩ ?_
  exact ⟨rfl, hE⟩
end Go.Proofs.YteppchoeiflnhaaDoor
/- Images: lines. -/
namespace Go.Proofs.YteppchoeiflnhaaDoor
set_option linter.all false
set_option maxRecDepth 20000
open Go.RowKit
/-- where a line ends -/
theorem ixb_cases (l : List UInt8) : (Lib.indexByte l 10 = -1 ∧ ∀ c ∈ l, c.toNat ≠ 10) ∨ ∃ o : Nat, Lib.indexByte l 10 = o ∧ o < l.length ∧ l = l.take o ++ 10 :: l.drop (o + 1) ∧ ∀ c ∈ l.take o, c.toNat ≠ 10 := by
  have hge := Lib.indexByte_ge l 10
  rcases (show Lib.indexByte l 10 = -1 ∨ 0 ≤ Lib.indexByte l 10 by omega) with h | h
  · left
    refine ⟨h, fun c hc hh => ?_⟩
    obtain ⟨k, hk⟩ := List.getElem?_of_mem hc
    have : c = 10 := UInt8.toNat_inj.1 hh
    subst this
    exact Lib.indexByte_none h k hk
  · right
    obtain ⟨o, ho⟩ := Int.eq_ofNat_of_zero_le h
    obtain ⟨h1, h2⟩ := Lib.indexByte_some ho
    have hlt := (List.getElem?_eq_some_iff.1 h1).1
    have hg := (List.getElem?_eq_some_iff.1 h1).2
    refine ⟨o, ho, hlt, ?_, fun c hc hh => ?_⟩
    · conv => lhs; rw [← List.take_append_drop o l, List.drop_eq_getElem_cons hlt, hg]
    · obtain ⟨k, hk⟩ := List.getElem?_of_mem hc
      have : c = 10 := UInt8.toNat_inj.1 hh
      subst this
      rw [List.getElem?_take] at hk
      split at hk
      · rename_i hko; exact h2 k hko hk
      · cases hk
theorem lines_end (out : List (List UInt8)) : linesG [] out [] = out := rfl
theorem lines_stop {l : List UInt8} {out : List (List UInt8)} {z : Int} (h : Lib.indexByte l 10 = z) (hl : 0 < l.length) (hs : z < 1 ∨ 4 ≤ out.length ∨ (0 ≤ z ∧ (l.take z.toNat).all printC = false)) : linesG l out [] = [] := by
  rcases ixb_cases l with ⟨h1, h2⟩ | ⟨o, h1, h2, h3, h4⟩
  · exact linesG_no l out [] h2 (by intro h; rw [List.nil_append] at h; rw [h] at hl; simp at hl)
  · have ho : z = o := by omega
    subst ho
    rw [Int.toNat_natCast] at hs
    rw [h3, linesG_nl _ _ _ _ h4, if_pos]
    rw [List.nil_append]
    rcases hs with hs | hs | hs
    · left
      have : o = 0 := by omega
      subst this; rfl
    · exact .inr (.inl hs)
    · exact .inr (.inr hs.2)
theorem lines_go {l : List UInt8} {out : List (List UInt8)} {z : Int} (h : Lib.indexByte l 10 = z) (h1 : 1 ≤ z) (h2 : out.length < 4) (h3 : (l.take z.toNat).all printC = true) : linesG l out [] = linesG (l.drop (z.toNat + 1)) (out ++ [l.take z.toNat]) [] := by
  rcases ixb_cases l with ⟨g1, g2⟩ | ⟨o, g1, g2, g3, g4⟩
  · omega
  · have ho : z = o := by omega
    subst ho
    rw [Int.toNat_natCast] at *
    conv => lhs; rw [g3]
    rw [linesG_nl _ _ _ _ g4, if_neg]
    · rw [List.nil_append]
    · rw [List.nil_append]
      rintro (h | h | h)
      · have := congrArg List.length h
        rw [List.length_take, List.length_nil] at this
        omega
      · omega
      · rw [h3] at h; cases h
theorem OL.frW {P : Nat → Prop} {w w' : World} {S : Nat → Prop} {base hi n c : Nat} {A : Option Addr} {ls : List (List UInt8)} (h : OL w S base A n c ls) (hw : Win A hi) (f : Fr P w w') (hp : ∀ k, base ≤ k → k < hi → P k) (hs : ∀ k, S k → P k) : OL w' S base A n c ls :=
  let ⟨vs, ho, he⟩ := h
  ⟨vs, own_frW ho hw f hp, (he.fr (f.mono fun k hk => hs k hk.1)).mono fun k hk => ⟨hk.1, Nat.lt_of_lt_of_le hk.2.1 f.size, hk.2.2⟩⟩
theorem OL.win {w : World} {S : Nat → Prop} {base n c : Nat} {A : Option Addr} {ls : List (List UInt8)} (h : OL w S base A n c ls) : Win A w.heap.size := let ⟨vs, ho⟩ := h.own; Win.of ho
set_option maxRecDepth 20000 in
set_option maxHeartbeats 1000000 in
theorem linesP {P : Nat → Prop} (w : World) (r v : Int) (nm : List UInt8) (A : Option Addr) (n c : Nat) (pay : List UInt8) (hp : BV w P A n c pay) :
    Calls Tryd.prog 16 #[.agg #[.int .i64 r, txt nm, .int .i64 v, .slice A n c]] w fun e w' => ∃ S m k, e = .returned (.slice S m k) ∧ BL w' (fun _ => True) S m k (linesS pay) ∧ Ext w w' := by
  have hpl := hp.len
  have hple := hp.le
  have hpb := hp.bd
  refine calls_enter Tryd.func16 rfl Tryd.ntmps16 rfl ?_
  have hE : Ext w w := Ext.refl w
  refine Wc.seq (fun K1 hK1 => ?_)
  refine Wc.keep [(0, _)] (.cons rfl (.nil)) ?_
  refine Wc.region ?_
  refine Wl.does rfl rfl rfl (Does.boxA rfl rfl) ?_
  rintro _ w0_0 ⟨b1, rfl, hs1, hb1, hx0_0⟩
  have hg1 : w.heap.size ≤ b1 := Nat.le_trans hE.size hs1
  replace hE := hE.trans hx0_0
  refine Wl.val rfl rfl rfl (Gives.assign rfl rfl) ?_
  refine Wl.nil ?_
  refine Wx.thenN (hK1 _ _ ?_)
  refine Wc.seq (fun K2 hK2 => ?_)
  refine Wc.keep [(1, _)] (.cons rfl (.nil)) ?_
  refine Wc.region ?_
  refine Wl.val rfl rfl rfl (Gives.assign rfl rfl) ?_
  refine Wl.nil ?_
  refine Wx.thenN (hK2 _ _ ?_)
  refine Wc.seq (fun K3 hK3 => ?_)
  refine Wc.seq (fun K4 hK4 => ?_)
  refine Wc.keep [(1, _), (3, _)] (.cons rfl (.cons rfl (.nil))) ?_
  refine Wc.region ?_
  refine Wl.val rfl rfl rfl (Gives.fieldAt 3 rfl Tryd.underlying26 rfl (by kernel_rfl) rfl rfl) ?_
  refine Wl.val rfl rfl rfl (Gives.ldK rfl (by kernel_rfl) rfl hb1 rfl) ?_
  refine Wl.val rfl rfl rfl (Gives.assign rfl rfl) ?_
  refine Wl.nil ?_
  refine Wx.thenN (hK4 _ _ ?_)
  refine Wc.block ?_
  refine Wc.keep [(3, _), (4, _)] (.cons rfl (.cons rfl (.nil))) ?_
  refine Wc.loopC (ι := (Option Addr × Nat × Nat × List (List UInt8)) × (Option Addr × Nat × Nat × List UInt8)) [] (fun | ((B, p, sc, _), (R, rn, rc, _)) => [(3, .slice B p sc), (4, .slice R rn rc)]) (fun | ((B, p, sc, out), (R, rn, rc, l)), wr => p ≤ 4 ∧ linesS pay = linesG l out [] ∧ OL wr (fun k => k < w.heap.size) w.heap.size B p sc out ∧ BV wr (fun k => k < w.heap.size) R rn rc l ∧ Ext w wr) (fun | (_, (_, rn, _, _)) => rn) (((none, 0, 0, []), (A, n, c, pay))) (.cons (by first | exact rfl | exact look_int rfl (by omega) | exact look_slice rfl (by omega)) (.cons (by first | exact rfl | exact look_int rfl (by omega) | exact look_slice rfl (by omega)) (.nil))) (⟨by omega, rfl, OL.nil_ _ _ _, (hpb.mono fun k hk => hk.2).ext hE, hE⟩) ?_
  intro ⟨⟨B, p, sc, out⟩, ⟨R, rn, rc, l⟩⟩ wr hJ KL1 hKL1
  clear hE
  obtain ⟨hp4, hls, hO, hR, hE⟩ := hJ
  have hRl := hR.len
  have hRle := hR.le
  have hOl := hO.len
  refine Wc.seq (fun K5 hK5 => ?_)
  refine Wc.seq (fun K6 hK6 => ?_)
  refine Wc.keep [(3, _), (4, _)] (.cons rfl (.cons rfl (.nil))) ?_
  refine Wc.region ?_
  refine Wl.val rfl rfl rfl (Gives.move rfl rfl) ?_
  refine Wl.val rfl rfl rfl (Gives.lenS rfl Tryd.underlying22 rfl) ?_
  refine Wl.val rfl rfl rfl (Gives.gtr rfl rfl rfl) ?_
  refine Wl.nil ?_
  refine Wx.thenN (hK6 _ _ ?_)
  refine Wc.cond _ rfl (fun h10 => ?_) (fun h10 => ?_)
  · (first | replace h10 := of_decide_eq_true h10 | replace h10 := nd_true h10 | skip)
    refine Wc.skip ?_
    refine Wx.thenN (hK5 _ _ ?_)
    refine Wc.block ?_
    refine Wc.seq (fun K7 hK7 => ?_)
    refine Wc.keep [(3, _), (4, _)] (.cons rfl (.cons rfl (.nil))) ?_
    refine Wc.region ?_
    refine Wl.val rfl rfl rfl (Gives.move rfl rfl) ?_
    refine Wl.call rfl rfl rfl rfl Tryd.func44 rfl (by kernel_rfl) rfl (ixbP _ R rn rc l hR 10) ?_
    rintro x1 w4 ⟨rfl, hx4⟩
    refine ⟨_, rfl, ?_⟩
    replace hR := hR.ext hx4
    replace hO := hO.ext hx4
    obtain ⟨z, hz⟩ : ∃ z, Lib.indexByte l 10 = z := ⟨_, rfl⟩
    have hz1 : -1 ≤ z ∧ z < rn := by { rcases ixb_cases l with ⟨q1, _⟩ | ⟨o, q1, q2, _⟩ <;> omega }
    rw [hz]
    replace hE := hE.trans hx4
    refine Wl.val rfl rfl rfl (Gives.assign rfl rfl) ?_
    refine Wl.nil ?_
    refine Wx.thenN (hK7 _ _ ?_)
    refine Wc.seq (fun K8 hK8 => ?_)
    refine Wc.seq (fun K9 hK9 => ?_)
    refine Wc.keep [(3, _), (4, _), (5, _)] (.cons rfl (.cons rfl (.cons rfl (.nil)))) ?_
    refine Wc.region ?_
    refine Wl.val rfl rfl rfl (Gives.move rfl rfl) ?_
    refine Wl.val rfl rfl rfl (Gives.lss rfl rfl rfl) ?_
    refine Wl.val rfl rfl rfl (Gives.move rfl rfl) ?_
    refine Wl.guard rfl rfl rfl (fun h15 => ?_) (fun h15 => ?_)
    · (first | replace h15 := of_decide_eq_false h15 | replace h15 := nd_false h15 | skip)
      refine Wl.val rfl rfl rfl (Gives.move rfl rfl) ?_
      refine Wl.val rfl rfl rfl (Gives.lenS rfl Tryd.underlying28 rfl) ?_
      refine Wl.val rfl rfl rfl (Gives.eql rfl rfl rfl) ?_
      refine Wl.val rfl rfl rfl (Gives.pickF rfl rfl rfl rfl) ?_
      refine Wl.val rfl rfl rfl (Gives.move rfl rfl) ?_
      refine Wl.guard rfl rfl rfl (fun h20 => ?_) (fun h20 => ?_)
      · (first | replace h20 := of_decide_eq_false h20 | replace h20 := nd_false h20 | skip)
        refine Wl.val rfl rfl rfl (Gives.move rfl rfl) ?_
        refine Wl.val rfl rfl rfl (Gives.move rfl rfl) ?_
        refine Wl.val rfl rfl rfl (Gives.cutHi rfl Tryd.underlying22 (by kernel_rfl) rfl z.toNat rfl (by omega) (by omega)) ?_
        refine Wl.call rfl rfl rfl rfl Tryd.func45 rfl (by kernel_rfl) rfl (printableP _ R z.toNat rc (l.take z.toNat) (hR.take (by omega))) ?_
        rintro x2 w5 ⟨rfl, hx5⟩
        refine ⟨_, rfl, ?_⟩
        replace hR := hR.ext hx5
        replace hO := hO.ext hx5
        replace hE := hE.trans hx5
        refine Wl.val rfl rfl rfl (Gives.not rfl rfl) ?_
        refine Wl.val rfl rfl rfl (Gives.pickF rfl rfl rfl rfl) ?_
        refine Wl.nil ?_
        refine Wx.thenN (hK9 _ _ ?_)
        refine Wc.cond _ rfl (fun h26 => ?_) (fun h26 => ?_)
        · (first | replace h26 := of_decide_eq_true h26 | replace h26 := nd_true h26 | skip)
          refine Wc.seq (fun K10 hK10 => ?_)
          refine Wc.keep [] (.nil) ?_
          refine Wc.region ?_
          refine Wl.val rfl rfl rfl (Gives.assign rfl rfl) ?_
          refine Wl.nil ?_
          refine Wx.thenN (hK10 _ _ ?_)
          refine Wc.ret ?_
          refine Wx.thenR ?_
          refine Wx.blockR ?_
          refine Wx.thenR ?_
          refine Wx.blockR ?_
          refine Wx.thenR ?_
          refine Wx.ret [_] ⟨rfl, trivial⟩ ?_
          first | exact ⟨none, 0, 0, rfl, by rw [hls, lines_stop hz (by omega) (.inl (by omega))]; exact BL.nil_ _ _, hE⟩ | exact ⟨none, 0, 0, rfl, by rw [hls, lines_stop hz (by omega) (.inr (.inl (by omega)))]; exact BL.nil_ _ _, hE⟩ | exact ⟨none, 0, 0, rfl, by rw [hls, lines_stop hz (by omega) (.inr (.inr ⟨by omega, by simpa using h26⟩))]; exact BL.nil_ _ _, hE⟩ | exact ⟨B, p, sc, rfl, by rw [hls, show l = [] from List.eq_nil_of_length_eq_zero (by omega), lines_end]; exact hO.bl (fun _ _ => trivial) (fun _ _ => trivial), hE⟩
        · (first | replace h26 := of_decide_eq_false h26 | replace h26 := nd_false h26 | skip)
          refine Wc.skip ?_
          refine Wx.thenN (hK8 _ _ ?_)
          refine Wc.seq (fun K11 hK11 => ?_)
          refine Wc.keep [(3, _), (4, _), (5, _)] (.cons rfl (.cons rfl (.cons rfl (.nil)))) ?_
          refine Wc.region ?_
          refine Wl.val rfl rfl rfl (Gives.move rfl rfl) ?_
          refine Wl.val rfl rfl rfl (Gives.move rfl rfl) ?_
          refine Wl.val rfl rfl rfl (Gives.move rfl rfl) ?_
          refine Wl.val rfl rfl rfl (Gives.move rfl rfl) ?_
          refine Wl.val rfl rfl rfl (Gives.cutHM z.toNat z.toNat rfl Tryd.underlying22 (by kernel_rfl) rfl rfl rfl (by omega) (by omega) (Nat.le_refl _) (by omega)) ?_
          refine Wl.does rfl rfl rfl (Does.lit rfl Tryd.underlying28 infoL2 rfl rfl rfl rfl rfl) ?_
          rintro _ w75 ⟨g75, rfl, hs75, hk75, hx75⟩
          replace hR := hR.ext hx75
          replace hO := hO.ext hx75
          replace hE := hE.trans hx75
          obtain ⟨vs, hOw⟩ := hO.own
          have hln : BV w75 (NOwn w75 (fun k => k < w.heap.size) (.slice B p sc)) R z.toNat z.toNat (l.take z.toNat) := (((hR.take (show z.toNat ≤ rn by omega)).cap (Nat.le_refl _) (by omega)).mono (P' := fun k => k < w.heap.size ∧ k < w.heap.size) fun k hk => ⟨hk, hk⟩).nownO hOw
          refine Wl.does rfl rfl rfl (Does.appL rfl rfl rfl hO hk75 hln (by omega) hE.size) ?_
          rintro _ w76 ⟨B2, sc2, rfl, hO2, hB76⟩
          replace hR := hR.fr (below_fr hB76)
          replace hE := Ext.step hE hB76 (by omega)
          refine Wl.val rfl rfl rfl (Gives.assign rfl rfl) ?_
          refine Wl.nil ?_
          refine Wx.thenN (hK11 _ _ ?_)
          refine Wc.keep [(3, _), (4, _), (5, _)] (.cons rfl (.cons rfl (.cons rfl (.nil)))) ?_
          refine Wc.region ?_
          refine Wl.val rfl rfl rfl (Gives.move rfl rfl) ?_
          refine Wl.val rfl rfl rfl (Gives.move rfl rfl) ?_
          refine Wl.val rfl rfl rfl (Gives.add rfl rfl rfl (by first | exact IntWalk.i64_in _ (by omega) | exact u64_in _ (by omega) | exact u32_in _ (by omega) | exact u8_in _ (by omega) | exact rfl)) ?_
          refine Wl.val rfl rfl rfl (Gives.cutLo rfl Tryd.underlying22 (by kernel_rfl) rfl (z.toNat + 1) rfl (by omega) (by omega)) ?_
          refine Wl.val rfl rfl rfl (Gives.assign rfl rfl) ?_
          refine Wl.nil ?_
          refine Wx.blockN ?_
          refine Wx.thenN ?_
          have hpr : (l.take z.toNat).all printC = true := by simpa using h26
          refine hKL1 ((B2, p + 1, sc2, out ++ [l.take z.toNat]), (cutAddr R rc (z.toNat + 1) 1, rn - (z.toNat + 1), rc - (z.toNat + 1), l.drop (z.toNat + 1))) _ _ (.cons (by first | exact rfl | exact look_int rfl (by omega) | exact look_slice rfl (by omega)) (.cons (by first | exact rfl | exact look_int rfl (by omega) | exact look_slice rfl (by omega)) (.nil))) ⟨by omega, by rw [hls, lines_go hz (by omega) (by omega) hpr], hO2, hR.cut (by omega), hE⟩ (by show rn - (z.toNat + 1) < rn; omega)
      · (first | replace h20 := of_decide_eq_true h20 | replace h20 := nd_true h20 | skip)
        refine Wl.pass rfl rfl rfl ?_
        refine Wl.pass rfl rfl rfl ?_
        refine Wl.pass rfl rfl rfl ?_
        refine Wl.pass rfl rfl rfl ?_
        refine Wl.pass rfl rfl rfl ?_
        refine Wl.val rfl rfl rfl (Gives.pickT rfl rfl rfl rfl) ?_
        refine Wl.nil ?_
        refine Wx.thenN (hK9 _ _ ?_)
        refine Wc.condT rfl rfl ?_
        refine Wc.seq (fun K12 hK12 => ?_)
        refine Wc.keep [] (.nil) ?_
        refine Wc.region ?_
        refine Wl.val rfl rfl rfl (Gives.assign rfl rfl) ?_
        refine Wl.nil ?_
        refine Wx.thenN (hK12 _ _ ?_)
        refine Wc.ret ?_
        refine Wx.thenR ?_
        refine Wx.blockR ?_
        refine Wx.thenR ?_
        refine Wx.blockR ?_
        refine Wx.thenR ?_
        refine Wx.ret [_] ⟨rfl, trivial⟩ ?_
        first | exact ⟨none, 0, 0, rfl, by rw [hls, lines_stop hz (by omega) (.inl (by omega))]; exact BL.nil_ _ _, hE⟩ | exact ⟨none, 0, 0, rfl, by rw [hls, lines_stop hz (by omega) (.inr (.inl (by omega)))]; exact BL.nil_ _ _, hE⟩ | exact ⟨none, 0, 0, rfl, by rw [hls, lines_stop hz (by omega) (.inr (.inr ⟨by omega, by simpa using h26⟩))]; exact BL.nil_ _ _, hE⟩ | exact ⟨B, p, sc, rfl, by rw [hls, show l = [] from List.eq_nil_of_length_eq_zero (by omega), lines_end]; exact hO.bl (fun _ _ => trivial) (fun _ _ => trivial), hE⟩
    · (first | replace h15 := of_decide_eq_true h15 | replace h15 := nd_true h15 | skip)
      refine Wl.pass rfl rfl rfl ?_
      refine Wl.pass rfl rfl rfl ?_
      refine Wl.pass rfl rfl rfl ?_
      refine Wl.val rfl rfl rfl (Gives.pickT rfl rfl rfl rfl) ?_
      refine Wl.val rfl rfl rfl (Gives.move rfl rfl) ?_
      refine Wl.guardF rfl rfl rfl rfl ?_
      refine Wl.pass rfl rfl rfl ?_
      refine Wl.pass rfl rfl rfl ?_
      refine Wl.pass rfl rfl rfl ?_
      refine Wl.pass rfl rfl rfl ?_
      refine Wl.pass rfl rfl rfl ?_
      refine Wl.val rfl rfl rfl (Gives.pickT rfl rfl rfl rfl) ?_
      refine Wl.nil ?_
      refine Wx.thenN (hK9 _ _ ?_)
      refine Wc.condT rfl rfl ?_
      refine Wc.seq (fun K13 hK13 => ?_)
      refine Wc.keep [] (.nil) ?_
      refine Wc.region ?_
      refine Wl.val rfl rfl rfl (Gives.assign rfl rfl) ?_
      refine Wl.nil ?_
      refine Wx.thenN (hK13 _ _ ?_)
      refine Wc.ret ?_
      refine Wx.thenR ?_
      refine Wx.blockR ?_
      refine Wx.thenR ?_
      refine Wx.blockR ?_
      refine Wx.thenR ?_
      refine Wx.ret [_] ⟨rfl, trivial⟩ ?_
      first | exact ⟨none, 0, 0, rfl, by rw [hls, lines_stop hz (by omega) (.inl (by omega))]; exact BL.nil_ _ _, hE⟩ | exact ⟨none, 0, 0, rfl, by rw [hls, lines_stop hz (by omega) (.inr (.inl (by omega)))]; exact BL.nil_ _ _, hE⟩ | exact ⟨none, 0, 0, rfl, by rw [hls, lines_stop hz (by omega) (.inr (.inr ⟨by omega, by simpa using h26⟩))]; exact BL.nil_ _ _, hE⟩ | exact ⟨B, p, sc, rfl, by rw [hls, show l = [] from List.eq_nil_of_length_eq_zero (by omega), lines_end]; exact hO.bl (fun _ _ => trivial) (fun _ _ => trivial), hE⟩
  · (first | replace h10 := of_decide_eq_false h10 | replace h10 := nd_false h10 | skip)
    refine Wc.exit ?_
    refine Wx.thenE ?_
    refine Wx.thenE ?_
    refine Wx.hit ?_
    refine Wx.thenN (hK3 _ _ ?_)
    refine Wc.seq (fun K14 hK14 => ?_)
    refine Wc.keep [(3, _)] (.cons rfl (.nil)) ?_
    refine Wc.region ?_
    refine Wl.val rfl rfl rfl (Gives.move rfl rfl) ?_
    refine Wl.val rfl rfl rfl (Gives.assign rfl rfl) ?_
    refine Wl.nil ?_
    refine Wx.thenN (hK14 _ _ ?_)
    refine Wc.ret ?_
    refine Wx.ret [_] ⟨rfl, trivial⟩ ?_
    first | exact ⟨none, 0, 0, rfl, by rw [hls, lines_stop hz (by omega) (.inl (by omega))]; exact BL.nil_ _ _, hE⟩ | exact ⟨none, 0, 0, rfl, by rw [hls, lines_stop hz (by omega) (.inr (.inl (by omega)))]; exact BL.nil_ _ _, hE⟩ | exact ⟨none, 0, 0, rfl, by rw [hls, lines_stop hz (by omega) (.inr (.inr ⟨by omega, by simpa using h26⟩))]; exact BL.nil_ _ _, hE⟩ | exact ⟨B, p, sc, rfl, by rw [hls, show l = [] from List.eq_nil_of_length_eq_zero (by omega), lines_end]; exact hO.bl (fun _ _ => trivial) (fun _ _ => trivial), hE⟩
theorem drop_at {l : List UInt8} {i : Nat} (h : i < l.length) : l.drop i = gb1 l i :: l.drop (i + 1) := by
  have h1 := getC h
  rw [List.getElem?_eq_getElem h] at h1
  rw [List.drop_eq_getElem_cons h, Option.some.inj h1]
theorem linesG_end {line : List UInt8} {out : List (List UInt8)} : linesG [] out line = if line = [] then out else [] := rfl
set_option maxRecDepth 20000 in
set_option maxHeartbeats 1000000 in
theorem linesR {P : Nat → Prop} (w : World) (r v : Int) (nm : List UInt8) (A : Option Addr) (n c : Nat) (pay : List UInt8) (hp : BV w P A n c pay) (hn : n ≤ 1000000) :
    Calls Tryd.prog 17 #[.agg #[.int .i64 r, txt nm, .int .i64 v, .slice A n c]] w fun e w' => ∃ S m k, e = .returned (.slice S m k) ∧ BL w' (fun _ => True) S m k (linesS pay) ∧ Ext w w' := by
  have hpl := hp.len
  have hple := hp.le
  refine calls_enter Tryd.func17 rfl Tryd.ntmps17 rfl ?_
  have hE : Ext w w := Ext.refl w
  refine Wc.seq (fun K1 hK1 => ?_)
  refine Wc.keep [(0, _)] (.cons rfl (.nil)) ?_
  refine Wc.region ?_
  refine Wl.does rfl rfl rfl (Does.boxA rfl rfl) ?_
  rintro _ w0_0 ⟨b1, rfl, hs1, hb1, hx0_0⟩
  have hg1 : w.heap.size ≤ b1 := Nat.le_trans hE.size hs1
  replace hE := hE.trans hx0_0
  refine Wl.val rfl rfl rfl (Gives.assign rfl rfl) ?_
  refine Wl.nil ?_
  refine Wx.thenN (hK1 _ _ ?_)
  refine Wc.seq (fun K2 hK2 => ?_)
  refine Wc.keep [(1, _)] (.cons rfl (.nil)) ?_
  have hzb : w0_0.heap.size = w0_0.heap.size := rfl
  have hz1 := hb1.lt
  have hzw := hE.size
  refine Wc.region ?_
  refine Wl.val rfl rfl rfl (Gives.assign rfl rfl) ?_
  refine Wl.nil ?_
  refine Wx.thenN (hK2 _ _ ?_)
  refine Wc.seq (fun K3 hK3 => ?_)
  refine Wc.keep [(1, _), (3, _)] (.cons rfl (.cons rfl (.nil))) ?_
  refine Wc.region ?_
  refine Wl.val rfl rfl rfl (Gives.assign rfl rfl) ?_
  refine Wl.nil ?_
  refine Wx.thenN (hK3 _ _ ?_)
  refine Wc.seq (fun K4 hK4 => ?_)
  refine Wc.seq (fun K5 hK5 => ?_)
  refine Wc.keep [(1, _), (3, _), (4, _)] (.cons rfl (.cons rfl (.cons rfl (.nil)))) ?_
  refine Wc.region ?_
  refine Wl.val rfl rfl rfl (Gives.assign rfl rfl) ?_
  refine Wl.nil ?_
  refine Wx.thenN (hK5 _ _ ?_)
  refine Wc.block ?_
  refine Wc.keep [(1, _), (3, _), (4, _), (5, _)] (.cons rfl (.cons rfl (.cons rfl (.cons rfl (.nil))))) ?_
  refine Wc.loopC (ι := Nat × (Option Addr × Nat × Nat × List (List UInt8)) × (Option Addr × Nat × Nat × List UInt8) × Nat) [(1, _)] (fun | (i, (B, p, sc, _), (L, lm, lc, _), _) => [(5, .int .i64 (i : Int)), (3, .slice B p sc), (4, .slice L lm lc)]) (fun | (i, (B, p, sc, out), (L, lm, lc, line), N), wr => i ≤ n ∧ p ≤ 4 ∧ lm ≤ i ∧ linesS pay = linesG (pay.drop i) out line ∧ OL wr (fun k => k < N) w0_0.heap.size B p sc out ∧ Win B N ∧ w0_0.heap.size ≤ N ∧ N ≤ wr.heap.size ∧ OB wr N 5 L lm lc line ∧ Blk wr b1 26 #[.int .i64 r, txt nm, .int .i64 v, .slice A n c] ∧ Ext w wr) (fun | (i, _) => n - i) ((0, (none, 0, 0, []), (none, 0, 0, []), w0_0.heap.size)) (.cons (by first | exact rfl | exact look_int rfl (by omega) | exact look_slice rfl (by omega)) (.cons (by first | exact rfl | exact look_int rfl (by omega) | exact look_slice rfl (by omega)) (.cons (by first | exact rfl | exact look_int rfl (by omega) | exact look_slice rfl (by omega)) (.cons rfl (.nil))))) (⟨by omega, by omega, by omega, by rw [List.drop_zero]; rfl, OL.nil_ _ _ _, Win.nil_ _, Nat.le_refl _, Nat.le_refl _, OB.nil_ _ _ _, hb1, hE⟩) ?_
  intro ⟨i, ⟨B, p, sc, out⟩, ⟨L, lm, lc, line⟩, N⟩ wr hJ KL1 hKL1
  clear hE hb1
  obtain ⟨hi, hp4, hlm, hls, hO, hWn, hN0, hN, hL, hb1, hE⟩ := hJ
  have hOl := hO.len
  have hLl := hL.len
  refine Wc.seq (fun K6 hK6 => ?_)
  refine Wc.seq (fun K7 hK7 => ?_)
  refine Wc.keep [(1, _), (3, _), (4, _), (5, _)] (.cons rfl (.cons rfl (.cons rfl (.cons rfl (.nil))))) ?_
  refine Wc.region ?_
  refine Wl.val rfl rfl rfl (Gives.move rfl rfl) ?_
  refine Wl.val rfl rfl rfl (Gives.fieldAt 3 rfl Tryd.underlying26 rfl (by kernel_rfl) rfl rfl) ?_
  refine Wl.val rfl rfl rfl (Gives.ldK rfl (by kernel_rfl) rfl hb1 rfl) ?_
  refine Wl.val rfl rfl rfl (Gives.lenS rfl Tryd.underlying22 rfl) ?_
  refine Wl.val rfl rfl rfl (Gives.lss rfl rfl rfl) ?_
  refine Wl.nil ?_
  refine Wx.thenN (hK7 _ _ ?_)
  refine Wc.cond _ rfl (fun h11 => ?_) (fun h11 => ?_)
  · (first | replace h11 := of_decide_eq_true h11 | replace h11 := nd_true h11 | skip)
    refine Wc.skip ?_
    refine Wx.thenN (hK6 _ _ ?_)
    refine Wc.seq (fun K8 hK8 => ?_)
    refine Wc.block ?_
    refine Wc.seq (fun K9 hK9 => ?_)
    refine Wc.keep [(1, _), (3, _), (4, _), (5, _)] (.cons rfl (.cons rfl (.cons rfl (.cons rfl (.nil))))) ?_
    have hlt : i < pay.length := by omega
    obtain ⟨g, off, rfl, _, _⟩ := hp.2.2.2 (by omega)
    rw [drop_at hlt] at hls
    refine Wc.region ?_
    refine Wl.val rfl rfl rfl (Gives.fieldAt 3 rfl Tryd.underlying26 rfl (by kernel_rfl) rfl rfl) ?_
    refine Wl.val rfl rfl rfl (Gives.ldK rfl (by kernel_rfl) rfl hb1 rfl) ?_
    refine Wl.val rfl rfl rfl (Gives.move rfl rfl) ?_
    refine Wl.val rfl rfl rfl (Gives.ixS (i := _) rfl Tryd.underlying22 (by kernel_rfl) rfl rfl rfl (by omega)) ?_
    refine Wl.val rfl rfl rfl (Gives.ldC rfl (by kernel_rfl) rfl ((hp.ext hE).cellAt (getC hlt))) ?_
    refine Wl.val rfl rfl rfl (Gives.assign rfl rfl) ?_
    refine Wl.nil ?_
    refine Wx.thenN (hK9 _ _ ?_)
    refine Wc.seq (fun K10 hK10 => ?_)
    refine Wc.seq (fun K11 hK11 => ?_)
    refine Wc.keep [(1, _), (3, _), (4, _), (5, _), (6, _)] (.cons rfl (.cons rfl (.cons rfl (.cons rfl (.cons rfl (.nil)))))) ?_
    refine Wc.region ?_
    refine Wl.val rfl rfl rfl (Gives.move rfl rfl) ?_
    refine Wl.val rfl rfl rfl (Gives.eql rfl rfl rfl) ?_
    refine Wl.nil ?_
    refine Wx.thenN (hK11 _ _ ?_)
    refine Wc.cond _ rfl (fun h20 => ?_) (fun h20 => ?_)
    · (first | replace h20 := of_decide_eq_true h20 | replace h20 := nd_true h20 | skip)
      refine Wc.seq (fun K12 hK12 => ?_)
      refine Wc.seq (fun K13 hK13 => ?_)
      refine Wc.keep [(1, _), (3, _), (4, _), (5, _)] (.cons rfl (.cons rfl (.cons rfl (.cons rfl (.nil))))) ?_
      refine Wc.region ?_
      refine Wl.val rfl rfl rfl (Gives.move rfl rfl) ?_
      refine Wl.val rfl rfl rfl (Gives.lenS rfl Tryd.underlying22 rfl) ?_
      refine Wl.val rfl rfl rfl (Gives.eql rfl rfl rfl) ?_
      refine Wl.val rfl rfl rfl (Gives.move rfl rfl) ?_
      refine Wl.guard rfl rfl rfl (fun h24 => ?_) (fun h24 => ?_)
      · (first | replace h24 := of_decide_eq_false h24 | replace h24 := nd_false h24 | skip)
        refine Wl.val rfl rfl rfl (Gives.move rfl rfl) ?_
        refine Wl.val rfl rfl rfl (Gives.lenS rfl Tryd.underlying28 rfl) ?_
        refine Wl.val rfl rfl rfl (Gives.geq rfl rfl rfl) ?_
        refine Wl.val rfl rfl rfl (Gives.pickF rfl rfl rfl rfl) ?_
        refine Wl.nil ?_
        refine Wx.thenN (hK13 _ _ ?_)
        refine Wc.cond _ rfl (fun h28 => ?_) (fun h28 => ?_)
        · (first | replace h28 := of_decide_eq_true h28 | replace h28 := nd_true h28 | skip)
          refine Wc.seq (fun K14 hK14 => ?_)
          refine Wc.keep [] (.nil) ?_
          refine Wc.region ?_
          refine Wl.val rfl rfl rfl (Gives.assign rfl rfl) ?_
          refine Wl.nil ?_
          refine Wx.thenN (hK14 _ _ ?_)
          refine Wc.ret ?_
          refine Wx.thenR ?_
          refine Wx.thenR ?_
          refine Wx.blockR ?_
          refine Wx.thenR ?_
          refine Wx.thenR ?_
          refine Wx.blockR ?_
          refine Wx.thenR ?_
          refine Wx.ret [_] ⟨rfl, trivial⟩ ?_
          first | exact ⟨none, 0, 0, rfl, by rw [hls, linesG_cons, if_pos (show (gb1 pay i).toNat = 10 by omega), if_pos (.inl (List.eq_nil_of_length_eq_zero (by omega)))]; exact BL.nil_ _ _, hE⟩ | exact ⟨none, 0, 0, rfl, by rw [hls, linesG_cons, if_pos (show (gb1 pay i).toNat = 10 by omega), if_pos (.inr (by omega))]; exact BL.nil_ _ _, hE⟩ | exact ⟨none, 0, 0, rfl, by rw [hls, linesG_cons, if_neg (show ¬ (gb1 pay i).toNat = 10 by omega), if_neg (by rw [printC_f (by omega)]; decide)]; exact BL.nil_ _ _, hE⟩ | exact ⟨none, 0, 0, rfl, by rw [hls, List.drop_eq_nil_of_le (by omega), linesG_end, if_neg (fun h => by rw [h] at hLl; simp at hLl; omega)]; exact BL.nil_ _ _, hE⟩ | exact ⟨B, p, sc, rfl, by rw [hls, List.drop_eq_nil_of_le (by omega), linesG_end, if_pos (List.eq_nil_of_length_eq_zero (by omega))]; exact hO.bl (fun _ _ => trivial) (fun _ _ => trivial), hE⟩
        · (first | replace h28 := of_decide_eq_false h28 | replace h28 := nd_false h28 | skip)
          refine Wc.skip ?_
          refine Wx.thenN (hK12 _ _ ?_)
          refine Wc.seq (fun K15 hK15 => ?_)
          refine Wc.keep [(1, _), (3, _), (4, _), (5, _)] (.cons rfl (.cons rfl (.cons rfl (.cons rfl (.nil))))) ?_
          refine Wc.region ?_
          refine Wl.val rfl rfl rfl (Gives.move rfl rfl) ?_
          refine Wl.val rfl rfl rfl (Gives.move rfl rfl) ?_
          refine Wl.does rfl rfl rfl (Does.lit rfl Tryd.underlying28 infoL2 rfl rfl rfl rfl rfl) ?_
          rintro _ w102 ⟨g102, rfl, hs102, hk102, hx102⟩
          replace hO := hO.ext hx102
          replace hL := hL.ext hx102
          have hz102 := hx102.size
          replace hb1 := hb1.ext hx102
          replace hE := hE.trans hx102
          have hln : BV w102 (NOwn w102 (fun _ => True) (.slice B p sc)) L lm lc line := (hL.bv (P := fun k => N ≤ k) (fun _ h => h)).bd.mono fun k hk => ⟨trivial, hk.2, ownB_hi hWn hk.1⟩
          refine Wl.does rfl rfl rfl (Does.appL rfl rfl rfl (hO.mono (S' := fun _ => True) fun _ _ => trivial) hk102 hln (by omega) (by omega)) ?_
          rintro _ w103 ⟨B2, sc2, rfl, hO2, hB103⟩
          have hz103 := hB103.size
          replace hb1 := Blk.bel hb1 hB103 (by omega)
          replace hE := Ext.step hE hB103 (by omega)
          refine Wl.val rfl rfl rfl (Gives.assign rfl rfl) ?_
          refine Wl.nil ?_
          refine Wx.thenN (hK15 _ _ ?_)
          refine Wc.seq (fun K16 hK16 => ?_)
          refine Wc.keep [(1, _), (3, _), (5, _)] (.cons rfl (.cons rfl (.cons rfl (.nil)))) ?_
          refine Wc.region ?_
          refine Wl.val rfl rfl rfl (Gives.assign rfl rfl) ?_
          refine Wl.nil ?_
          refine Wx.thenN (hK16 _ _ ?_)
          refine Wc.exit ?_
          refine Wx.thenE ?_
          refine Wx.hit ?_
          refine Wx.thenN (hK8 _ _ ?_)
          refine Wc.keep [(1, _), (3, _), (4, _), (5, _)] (.cons rfl (.cons rfl (.cons rfl (.cons rfl (.nil))))) ?_
          refine Wc.region ?_
          refine Wl.val rfl rfl rfl (Gives.move rfl rfl) ?_
          refine Wl.val rfl rfl rfl (Gives.add rfl rfl rfl (by first | exact IntWalk.i64_in _ (by omega) | exact u64_in _ (by omega) | exact u32_in _ (by omega) | exact u8_in _ (by omega) | exact rfl)) ?_
          refine Wl.val rfl rfl rfl (Gives.assign rfl rfl) ?_
          refine Wl.nil ?_
          refine Wx.thenN ?_
          have hc : (gb1 pay i).toNat = 10 := by omega
          refine hKL1 (i + 1, (B2, p + 1, sc2, out ++ [line]), (none, 0, 0, []), w103.heap.size) _ _ (.cons (by first | exact rfl | exact look_int rfl (by omega) | exact look_slice rfl (by omega)) (.cons (by first | exact rfl | exact look_int rfl (by omega) | exact look_slice rfl (by omega)) (.cons (by first | exact rfl | exact look_int rfl (by omega) | exact look_slice rfl (by omega)) (.cons rfl (.nil))))) ⟨by omega, by omega, by omega, ?_, hO2.offs fun k _ h => h, hO2.win, by omega, Nat.le_refl _, OB.nil_ _ _ _, hb1, hE⟩ (by show n - (i + 1) < n - i; omega)
          rw [hls, linesG_cons, if_pos hc, if_neg]
          rintro (h | h)
          · rw [h] at hLl; simp at hLl; omega
          · omega
      · (first | replace h24 := of_decide_eq_true h24 | replace h24 := nd_true h24 | skip)
        refine Wl.pass rfl rfl rfl ?_
        refine Wl.pass rfl rfl rfl ?_
        refine Wl.pass rfl rfl rfl ?_
        refine Wl.val rfl rfl rfl (Gives.pickT rfl rfl rfl rfl) ?_
        refine Wl.nil ?_
        refine Wx.thenN (hK13 _ _ ?_)
        refine Wc.condT rfl rfl ?_
        refine Wc.seq (fun K17 hK17 => ?_)
        refine Wc.keep [] (.nil) ?_
        refine Wc.region ?_
        refine Wl.val rfl rfl rfl (Gives.assign rfl rfl) ?_
        refine Wl.nil ?_
        refine Wx.thenN (hK17 _ _ ?_)
        refine Wc.ret ?_
        refine Wx.thenR ?_
        refine Wx.thenR ?_
        refine Wx.blockR ?_
        refine Wx.thenR ?_
        refine Wx.thenR ?_
        refine Wx.blockR ?_
        refine Wx.thenR ?_
        refine Wx.ret [_] ⟨rfl, trivial⟩ ?_
        first | exact ⟨none, 0, 0, rfl, by rw [hls, linesG_cons, if_pos (show (gb1 pay i).toNat = 10 by omega), if_pos (.inl (List.eq_nil_of_length_eq_zero (by omega)))]; exact BL.nil_ _ _, hE⟩ | exact ⟨none, 0, 0, rfl, by rw [hls, linesG_cons, if_pos (show (gb1 pay i).toNat = 10 by omega), if_pos (.inr (by omega))]; exact BL.nil_ _ _, hE⟩ | exact ⟨none, 0, 0, rfl, by rw [hls, linesG_cons, if_neg (show ¬ (gb1 pay i).toNat = 10 by omega), if_neg (by rw [printC_f (by omega)]; decide)]; exact BL.nil_ _ _, hE⟩ | exact ⟨none, 0, 0, rfl, by rw [hls, List.drop_eq_nil_of_le (by omega), linesG_end, if_neg (fun h => by rw [h] at hLl; simp at hLl; omega)]; exact BL.nil_ _ _, hE⟩ | exact ⟨B, p, sc, rfl, by rw [hls, List.drop_eq_nil_of_le (by omega), linesG_end, if_pos (List.eq_nil_of_length_eq_zero (by omega))]; exact hO.bl (fun _ _ => trivial) (fun _ _ => trivial), hE⟩
    · (first | replace h20 := of_decide_eq_false h20 | replace h20 := nd_false h20 | skip)
      refine Wc.skip ?_
      refine Wx.thenN (hK10 _ _ ?_)
      refine Wc.seq (fun K18 hK18 => ?_)
      refine Wc.seq (fun K19 hK19 => ?_)
      refine Wc.keep [(1, _), (3, _), (4, _), (5, _), (6, _)] (.cons rfl (.cons rfl (.cons rfl (.cons rfl (.cons rfl (.nil)))))) ?_
      refine Wc.region ?_
      refine Wl.val rfl rfl rfl (Gives.move rfl rfl) ?_
      refine Wl.val rfl rfl rfl (Gives.lss rfl rfl rfl) ?_
      refine Wl.val rfl rfl rfl (Gives.move rfl rfl) ?_
      refine Wl.guard rfl rfl rfl (fun h35 => ?_) (fun h35 => ?_)
      · (first | replace h35 := of_decide_eq_false h35 | replace h35 := nd_false h35 | skip)
        refine Wl.val rfl rfl rfl (Gives.move rfl rfl) ?_
        refine Wl.val rfl rfl rfl (Gives.gtr rfl rfl rfl) ?_
        refine Wl.val rfl rfl rfl (Gives.pickF rfl rfl rfl rfl) ?_
        refine Wl.nil ?_
        refine Wx.thenN (hK19 _ _ ?_)
        refine Wc.cond _ rfl (fun h38 => ?_) (fun h38 => ?_)
        · (first | replace h38 := of_decide_eq_true h38 | replace h38 := nd_true h38 | skip)
          refine Wc.seq (fun K20 hK20 => ?_)
          refine Wc.keep [] (.nil) ?_
          refine Wc.region ?_
          refine Wl.val rfl rfl rfl (Gives.assign rfl rfl) ?_
          refine Wl.nil ?_
          refine Wx.thenN (hK20 _ _ ?_)
          refine Wc.ret ?_
          refine Wx.thenR ?_
          refine Wx.blockR ?_
          refine Wx.thenR ?_
          refine Wx.thenR ?_
          refine Wx.blockR ?_
          refine Wx.thenR ?_
          refine Wx.ret [_] ⟨rfl, trivial⟩ ?_
          first | exact ⟨none, 0, 0, rfl, by rw [hls, linesG_cons, if_pos (show (gb1 pay i).toNat = 10 by omega), if_pos (.inl (List.eq_nil_of_length_eq_zero (by omega)))]; exact BL.nil_ _ _, hE⟩ | exact ⟨none, 0, 0, rfl, by rw [hls, linesG_cons, if_pos (show (gb1 pay i).toNat = 10 by omega), if_pos (.inr (by omega))]; exact BL.nil_ _ _, hE⟩ | exact ⟨none, 0, 0, rfl, by rw [hls, linesG_cons, if_neg (show ¬ (gb1 pay i).toNat = 10 by omega), if_neg (by rw [printC_f (by omega)]; decide)]; exact BL.nil_ _ _, hE⟩ | exact ⟨none, 0, 0, rfl, by rw [hls, List.drop_eq_nil_of_le (by omega), linesG_end, if_neg (fun h => by rw [h] at hLl; simp at hLl; omega)]; exact BL.nil_ _ _, hE⟩ | exact ⟨B, p, sc, rfl, by rw [hls, List.drop_eq_nil_of_le (by omega), linesG_end, if_pos (List.eq_nil_of_length_eq_zero (by omega))]; exact hO.bl (fun _ _ => trivial) (fun _ _ => trivial), hE⟩
        · (first | replace h38 := of_decide_eq_false h38 | replace h38 := nd_false h38 | skip)
          refine Wc.skip ?_
          refine Wx.thenN (hK18 _ _ ?_)
          refine Wc.keep [(1, _), (3, _), (4, _), (5, _), (6, _)] (.cons rfl (.cons rfl (.cons rfl (.cons rfl (.cons rfl (.nil)))))) ?_
          refine Wc.region ?_
          refine Wl.val rfl rfl rfl (Gives.move rfl rfl) ?_
          refine Wl.val rfl rfl rfl (Gives.move rfl rfl) ?_
          refine Wl.does rfl rfl rfl (Does.lit rfl Tryd.underlying22 infoB2 rfl rfl rfl rfl rfl) ?_
          rintro _ w142 ⟨g142, rfl, hs142, hk142, hx142⟩
          replace hO := hO.ext hx142
          replace hL := hL.ext hx142
          have hz142 := hx142.size
          replace hb1 := hb1.ext hx142
          replace hE := hE.trans hx142
          refine Wl.does rfl rfl rfl (Does.appO rfl Tryd.underlying22 infoB rfl rfl hL ((mb1 (gb1 pay i) hk142 rfl).bv (P := fun _ => True) trivial (n := 1) (c := 1) rfl (Nat.le_refl _) (by omega)) (by omega) (by omega)) ?_
          rintro _ w143 ⟨L2, lc2, rfl, hL2, hB143⟩
          have hz143 := hB143.size
          have hO2 := hO.frW hWn (below_fr hB143) (fun k _ h => h) (fun k h => h)
          replace hb1 := Blk.bel hb1 hB143 (by omega)
          replace hE := Ext.step hE hB143 (by omega)
          refine Wl.val rfl rfl rfl (Gives.assign rfl rfl) ?_
          refine Wl.nil ?_
          refine Wx.blockN ?_
          refine Wx.thenN (hK8 _ _ ?_)
          refine Wc.keep [(1, _), (3, _), (4, _), (5, _)] (.cons rfl (.cons rfl (.cons rfl (.cons rfl (.nil))))) ?_
          refine Wc.region ?_
          refine Wl.val rfl rfl rfl (Gives.move rfl rfl) ?_
          refine Wl.val rfl rfl rfl (Gives.add rfl rfl rfl (by first | exact IntWalk.i64_in _ (by omega) | exact u64_in _ (by omega) | exact u32_in _ (by omega) | exact u8_in _ (by omega) | exact rfl)) ?_
          refine Wl.val rfl rfl rfl (Gives.assign rfl rfl) ?_
          refine Wl.nil ?_
          refine Wx.thenN ?_
          have hc : ¬ (gb1 pay i).toNat = 10 := by omega
          refine hKL1 (i + 1, (B, p, sc, out), (L2, lm + 1, lc2, line ++ [gb1 pay i]), N) _ _ (.cons (by first | exact rfl | exact look_int rfl (by omega) | exact look_slice rfl (by omega)) (.cons (by first | exact rfl | exact look_int rfl (by omega) | exact look_slice rfl (by omega)) (.cons (by first | exact rfl | exact look_int rfl (by omega) | exact look_slice rfl (by omega)) (.cons rfl (.nil))))) ⟨by omega, by omega, by omega, ?_, hO2, hWn, hN0, by omega, hL2, hb1, hE⟩ (by show n - (i + 1) < n - i; omega)
          rw [hls, linesG_cons, if_neg hc, if_pos (printC_t (by omega))]
      · (first | replace h35 := of_decide_eq_true h35 | replace h35 := nd_true h35 | skip)
        refine Wl.pass rfl rfl rfl ?_
        refine Wl.pass rfl rfl rfl ?_
        refine Wl.val rfl rfl rfl (Gives.pickT rfl rfl rfl rfl) ?_
        refine Wl.nil ?_
        refine Wx.thenN (hK19 _ _ ?_)
        refine Wc.condT rfl rfl ?_
        refine Wc.seq (fun K21 hK21 => ?_)
        refine Wc.keep [] (.nil) ?_
        refine Wc.region ?_
        refine Wl.val rfl rfl rfl (Gives.assign rfl rfl) ?_
        refine Wl.nil ?_
        refine Wx.thenN (hK21 _ _ ?_)
        refine Wc.ret ?_
        refine Wx.thenR ?_
        refine Wx.blockR ?_
        refine Wx.thenR ?_
        refine Wx.thenR ?_
        refine Wx.blockR ?_
        refine Wx.thenR ?_
        refine Wx.ret [_] ⟨rfl, trivial⟩ ?_
        first | exact ⟨none, 0, 0, rfl, by rw [hls, linesG_cons, if_pos (show (gb1 pay i).toNat = 10 by omega), if_pos (.inl (List.eq_nil_of_length_eq_zero (by omega)))]; exact BL.nil_ _ _, hE⟩ | exact ⟨none, 0, 0, rfl, by rw [hls, linesG_cons, if_pos (show (gb1 pay i).toNat = 10 by omega), if_pos (.inr (by omega))]; exact BL.nil_ _ _, hE⟩ | exact ⟨none, 0, 0, rfl, by rw [hls, linesG_cons, if_neg (show ¬ (gb1 pay i).toNat = 10 by omega), if_neg (by rw [printC_f (by omega)]; decide)]; exact BL.nil_ _ _, hE⟩ | exact ⟨none, 0, 0, rfl, by rw [hls, List.drop_eq_nil_of_le (by omega), linesG_end, if_neg (fun h => by rw [h] at hLl; simp at hLl; omega)]; exact BL.nil_ _ _, hE⟩ | exact ⟨B, p, sc, rfl, by rw [hls, List.drop_eq_nil_of_le (by omega), linesG_end, if_pos (List.eq_nil_of_length_eq_zero (by omega))]; exact hO.bl (fun _ _ => trivial) (fun _ _ => trivial), hE⟩
  · (first | replace h11 := of_decide_eq_false h11 | replace h11 := nd_false h11 | skip)
    refine Wc.exit ?_
    refine Wx.thenE ?_
    refine Wx.thenE ?_
    refine Wx.hit ?_
    refine Wx.thenN (hK4 _ _ ?_)
    refine Wc.seq (fun K22 hK22 => ?_)
    refine Wc.seq (fun K23 hK23 => ?_)
    refine Wc.keep [(3, _), (4, _)] (.cons rfl (.cons rfl (.nil))) ?_
    refine Wc.region ?_
    refine Wl.val rfl rfl rfl (Gives.move rfl rfl) ?_
    refine Wl.val rfl rfl rfl (Gives.lenS rfl Tryd.underlying22 rfl) ?_
    refine Wl.val rfl rfl rfl (Gives.gtr rfl rfl rfl) ?_
    refine Wl.nil ?_
    refine Wx.thenN (hK23 _ _ ?_)
    refine Wc.cond _ rfl (fun h45 => ?_) (fun h45 => ?_)
    · (first | replace h45 := of_decide_eq_true h45 | replace h45 := nd_true h45 | skip)
      refine Wc.seq (fun K24 hK24 => ?_)
      refine Wc.keep [] (.nil) ?_
      refine Wc.region ?_
      refine Wl.val rfl rfl rfl (Gives.assign rfl rfl) ?_
      refine Wl.nil ?_
      refine Wx.thenN (hK24 _ _ ?_)
      refine Wc.ret ?_
      refine Wx.thenR ?_
      refine Wx.ret [_] ⟨rfl, trivial⟩ ?_
      first | exact ⟨none, 0, 0, rfl, by rw [hls, linesG_cons, if_pos (show (gb1 pay i).toNat = 10 by omega), if_pos (.inl (List.eq_nil_of_length_eq_zero (by omega)))]; exact BL.nil_ _ _, hE⟩ | exact ⟨none, 0, 0, rfl, by rw [hls, linesG_cons, if_pos (show (gb1 pay i).toNat = 10 by omega), if_pos (.inr (by omega))]; exact BL.nil_ _ _, hE⟩ | exact ⟨none, 0, 0, rfl, by rw [hls, linesG_cons, if_neg (show ¬ (gb1 pay i).toNat = 10 by omega), if_neg (by rw [printC_f (by omega)]; decide)]; exact BL.nil_ _ _, hE⟩ | exact ⟨none, 0, 0, rfl, by rw [hls, List.drop_eq_nil_of_le (by omega), linesG_end, if_neg (fun h => by rw [h] at hLl; simp at hLl; omega)]; exact BL.nil_ _ _, hE⟩ | exact ⟨B, p, sc, rfl, by rw [hls, List.drop_eq_nil_of_le (by omega), linesG_end, if_pos (List.eq_nil_of_length_eq_zero (by omega))]; exact hO.bl (fun _ _ => trivial) (fun _ _ => trivial), hE⟩
    · (first | replace h45 := of_decide_eq_false h45 | replace h45 := nd_false h45 | skip)
      refine Wc.skip ?_
      refine Wx.thenN (hK22 _ _ ?_)
      refine Wc.seq (fun K25 hK25 => ?_)
      refine Wc.keep [(3, _)] (.cons rfl (.nil)) ?_
      refine Wc.region ?_
      refine Wl.val rfl rfl rfl (Gives.move rfl rfl) ?_
      refine Wl.val rfl rfl rfl (Gives.assign rfl rfl) ?_
      refine Wl.nil ?_
      refine Wx.thenN (hK25 _ _ ?_)
      refine Wc.ret ?_
      refine Wx.ret [_] ⟨rfl, trivial⟩ ?_
      first | exact ⟨none, 0, 0, rfl, by rw [hls, linesG_cons, if_pos (show (gb1 pay i).toNat = 10 by omega), if_pos (.inl (List.eq_nil_of_length_eq_zero (by omega)))]; exact BL.nil_ _ _, hE⟩ | exact ⟨none, 0, 0, rfl, by rw [hls, linesG_cons, if_pos (show (gb1 pay i).toNat = 10 by omega), if_pos (.inr (by omega))]; exact BL.nil_ _ _, hE⟩ | exact ⟨none, 0, 0, rfl, by rw [hls, linesG_cons, if_neg (show ¬ (gb1 pay i).toNat = 10 by omega), if_neg (by rw [printC_f (by omega)]; decide)]; exact BL.nil_ _ _, hE⟩ | exact ⟨none, 0, 0, rfl, by rw [hls, List.drop_eq_nil_of_le (by omega), linesG_end, if_neg (fun h => by rw [h] at hLl; simp at hLl; omega)]; exact BL.nil_ _ _, hE⟩ | exact ⟨B, p, sc, rfl, by rw [hls, List.drop_eq_nil_of_le (by omega), linesG_end, if_pos (List.eq_nil_of_length_eq_zero (by omega))]; exact hO.bl (fun _ _ => trivial) (fun _ _ => trivial), hE⟩
end Go.Proofs.YteppchoeiflnhaaDoor
