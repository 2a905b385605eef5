/- ImgP: merged. -/
import Derived.Test.YtnbgieccindpnaaDoorWireI
import Derived.Test.YtnbgieccindpnaaDoorGenA
import Derived.Laws.RangeAny
import Derived.Lib.BytesEntry
import Derived.Lib.IndexLaws
import Derived.Laws.Externs
/- Images: what is checked, written and read, in plain words. No program. -/
namespace Go.Proofs.YtnbgieccindpnaaDoor
set_option linter.all false
set_option maxRecDepth 20000
open Go.RowKit
structure Im where
  role : Int
  name : List UInt8
  ver : Int
  pay : List UInt8
def noIm : Im := ⟨0, [], 0, []⟩
def nameC (c : UInt8) : Bool := decide ((97 ≤ c.toNat ∧ c.toNat ≤ 122) ∨ (48 ≤ c.toNat ∧ c.toNat ≤ 57) ∨ c.toNat = 45)
def nameS (l : List UInt8) : Bool := decide (1 ≤ l.length ∧ l.length ≤ 12) && l.all nameC
def printC (c : UInt8) : Bool := decide (32 ≤ c.toNat ∧ c.toNat ≤ 126)
/-- lines, byte by byte: the lines so far, the line so far -/
def linesG : List UInt8 → List (List UInt8) → List UInt8 → List (List UInt8)
  | [], out, line => if line = [] then out else []
  | c :: r, out, line => if c.toNat = 10 then (if line = [] ∨ 4 ≤ out.length then [] else linesG r (out ++ [line]) []) else if printC c = true then linesG r out (line ++ [c]) else []
def linesS (l : List UInt8) : List (List UInt8) := linesG l [] []
def imgE (x : Im) : Int := if ¬ (1 ≤ x.role ∧ x.role ≤ 4 ∧ 0 ≤ x.ver ∧ x.ver ≤ 1000000) then 1 else if nameS x.name = false then 43 else if 64 < x.pay.length then 4 else if x.role = 4 ∧ linesS x.pay = [] then 40 else 0
def imgB (x : Im) : List UInt8 := if imgE x = 0 then blobS (blobS (uintS (uintS [] 1 x.role) 4 x.ver) x.name) x.pay else []
def regS (r : Int) : Int := if r = 1 then 0 else if r = 2 then 4 else if r = 3 then 8 else if r = 4 then 9 else -1
/-! names -/
theorem name_no {l : List UInt8} {i : Nat} {c : UInt8} (h : l[i]? = some c) (hc : nameC c = false) : nameS l = false := by
  unfold nameS
  rw [Bool.and_eq_false_iff]
  right
  rw [Bool.eq_false_iff]
  intro hh
  have := List.all_eq_true.1 hh c (List.mem_of_getElem? h)
  rw [hc] at this; cases this
theorem name_len {l : List UInt8} (h : ¬ (1 ≤ l.length ∧ l.length ≤ 12)) : nameS l = false := by unfold nameS; rw [decide_eq_false h]; rfl
theorem name_yes {l : List UInt8} (h : 1 ≤ l.length ∧ l.length ≤ 12) (ha : ∀ i < l.length, ∀ c, l[i]? = some c → nameC c = true) : nameS l = true := by
  unfold nameS
  rw [decide_eq_true h, Bool.true_and, List.all_eq_true]
  intro c hc
  obtain ⟨i, hi⟩ := List.getElem?_of_mem hc
  exact ha i (List.getElem?_eq_some_iff.1 hi).1 c hi
/-! lines -/
theorem linesG_cons (c : UInt8) (r : List UInt8) (out : List (List UInt8)) (line : List UInt8) : linesG (c :: r) out line = if c.toNat = 10 then (if line = [] ∨ 4 ≤ out.length then [] else linesG r (out ++ [line]) []) else if printC c = true then linesG r out (line ++ [c]) else [] := rfl
theorem linesG_nl (pre post : List UInt8) (out : List (List UInt8)) : ∀ line : List UInt8, (∀ c ∈ pre, c.toNat ≠ 10) → linesG (pre ++ 10 :: post) out line = if (line ++ pre = [] ∨ 4 ≤ out.length ∨ pre.all printC = false) then [] else linesG post (out ++ [line ++ pre]) [] := by
  induction pre with
  | nil =>
    intro line _
    show (if (10 : UInt8).toNat = 10 then _ else _) = _
    rw [if_pos (show UInt8.toNat 10 = 10 from rfl), List.append_nil]
    have e : ([] : List UInt8).all printC = true := rfl
    rw [e]
    by_cases h : line = [] ∨ 4 ≤ out.length
    · rw [if_pos h, if_pos (by rcases h with h | h; exact .inl h; exact .inr (.inl h))]
    · rw [if_neg h, if_neg (by rintro (h1 | h1 | h1); exact h (.inl h1); exact h (.inr h1); cases h1)]
  | cons c r ih =>
    intro line hc
    have h1 := ih (line ++ [c]) (fun x hx => hc x (List.mem_cons_of_mem _ hx))
    rw [List.cons_append, linesG_cons, if_neg (hc c (List.mem_cons_self ..))]
    by_cases hp : printC c = true
    · rw [if_pos hp, h1]
      have e1 : line ++ [c] ++ r = line ++ c :: r := by simp
      have e2 : (c :: r).all printC = r.all printC := by rw [List.all_cons, hp, Bool.true_and]
      rw [e1, e2]
    · rw [if_neg hp, if_pos]
      right; right
      rw [List.all_cons, Bool.eq_false_iff.2 hp, Bool.false_and]
theorem linesG_len : ∀ (l : List UInt8) (out : List (List UInt8)) (line : List UInt8), out.length ≤ 4 → (linesG l out line).length ≤ 4
  | [], out, line, h => by unfold linesG; split; exact h; exact Nat.zero_le _
  | c :: r, out, line, h => by
    rw [linesG_cons]
    split
    · split
      · exact Nat.zero_le _
      · exact linesG_len r _ _ (by rw [List.length_append]; simp; omega)
    · split
      · exact linesG_len r _ _ h
      · exact Nat.zero_le _
/-! images -/
theorem img_ok {x : Im} (h : imgE x = 0) : (1 ≤ x.role ∧ x.role ≤ 4 ∧ 0 ≤ x.ver ∧ x.ver ≤ 1000000) ∧ nameS x.name = true ∧ x.pay.length ≤ 64 ∧ (x.role = 4 → linesS x.pay ≠ []) := by
  unfold imgE at h
  split at h
  · cases h
  · rename_i h1
    split at h
    · cases h
    · rename_i h2
      split at h
      · cases h
      · rename_i h3
        split at h
        · cases h
        · rename_i h4
          refine ⟨Decidable.not_not.1 h1, by simpa using h2, by omega, fun h5 h6 => h4 ⟨h5, h6⟩⟩
theorem img_mk {x : Im} (h1 : 1 ≤ x.role ∧ x.role ≤ 4 ∧ 0 ≤ x.ver ∧ x.ver ≤ 1000000) (h2 : nameS x.name = true) (h3 : x.pay.length ≤ 64) (h4 : x.role = 4 → linesS x.pay ≠ []) : imgE x = 0 := by
  unfold imgE
  rw [if_neg (fun h => h h1), if_neg (by rw [h2]; decide), if_neg (by omega), if_neg (fun h => h4 h.1 h.2)]
theorem name_max {l : List UInt8} (h : nameS l = true) : 1 ≤ l.length ∧ l.length ≤ 12 := by
  unfold nameS at h
  simp only [Bool.and_eq_true, decide_eq_true_eq] at h
  exact h.1
theorem imgB_eq {x : Im} (h : imgE x = 0) : imgB x = beS x.role 1 ++ (beS x.ver 4 ++ (blobT x.name ++ blobT x.pay)) := by
  obtain ⟨_, h2, h3, _⟩ := img_ok h
  have := name_max h2
  unfold imgB
  rw [if_pos h, blobS_eq _ _ (by omega), blobS_eq _ _ (by omega), uintS_ok _ _ 4 (by omega) (by omega), uintS_ok _ _ 1 (by omega) (by omega)]
  simp only [List.append_assoc, List.nil_append]
  rfl
theorem blobT_len (x : List UInt8) : (blobT x).length = 2 + x.length := by unfold blobT; rw [List.length_append, beS_len]
theorem imgB_len {x : Im} (h : imgE x = 0) : (imgB x).length = 9 + x.name.length + x.pay.length := by
  rw [imgB_eq h]; simp only [List.length_append, beS_len, blobT_len]; omega
theorem imgB_le (x : Im) : (imgB x).length ≤ 85 := by
  by_cases h : imgE x = 0
  · rw [imgB_len h]
    obtain ⟨_, h2, h3, _⟩ := img_ok h
    have := name_max h2
    omega
  · unfold imgB; rw [if_neg h]; exact Nat.zero_le _
theorem end_at {r : Rd} (h : At r []) : rdEnd r = 0 := by
  have hl := h.left
  have h0 : rdLeft r = (r.b.length : Int) - r.at_ := rfl
  unfold rdEnd
  rw [if_neg, h.e]
  rintro ⟨_, hh⟩
  rw [h0] at hh
  simp at hl
  omega
end Go.Proofs.YtnbgieccindpnaaDoor
/- Images: texts gone through sign by sign; names; bytes looked for. -/
namespace Go.Proofs.YtnbgieccindpnaaDoor
set_option linter.all false
set_option maxRecDepth 20000
open Go.RowKit
theorem txt_size (l : List UInt8) : (⟨⟨l⟩⟩ : ByteArray).size = l.length := rfl
section
variable {P : Program} {n : Nat} {e : Env} {w w' : World} {o : Oper} {x y : Operand} {t t' el : TypeId} {l : List UInt8} {s : ByteArray} {g pos : Nat}
/-- a byte of a text -/
theorem Gives.idxTxt {k : IntKind} {z : Int} {i : Nat} {c : UInt8} (ho : o.op = .index t x y) (ht : P.underlying t = some .string) (hx : ev e x = some (txt l)) (hy : ev e y = some (.int k z)) (hz : z = (i : Int)) (hv : l[i]? = some c) : Gives P n o e w (.int .u8 (c.toNat : Int)) := .run fun a ha => by
  subst hz
  obtain ⟨hi, hc⟩ := List.getElem?_eq_some_iff.1 hv
  have h := run_index_string (P := P) w t ⟨⟨l⟩⟩ k (i : Int) ht
  have hin : (0 : Int) ≤ (i : Int) ∧ (i : Int) < ((⟨⟨l⟩⟩ : ByteArray).size : Int) := ⟨by omega, by rw [txt_size]; omega⟩
  rw [dif_pos hin] at h
  have e1 : ((⟨⟨l⟩⟩ : ByteArray)[(i : Int).toNat]'(by rw [txt_size]; omega)) = c := by
    rw [← hc]; rfl
  rw [e1] at h
  unfold execOp
  simp only [ho, ha.ev hx, ha.ev hy, txt, Sem.run_bind, h, Result.andThen_ok, Sem.run_pure]
/-- '[]byte(s)' -/
theorem Does.toBytes (ho : o.op = .convert t t' x) (hs : P.underlying t = some .string) (hd : P.underlying t' = some (.slice el)) (he : P.underlying el = some (.int .u8)) (hx : ev e x = some (txt l)) (hl : l.length ≤ 9223372036854775807) :
    Does P n o e w (fun v w' => ∃ g c, v = .slice (some ⟨g, 0, none⟩) l.length c ∧ w.heap.size ≤ g ∧ BV w' (fun k => w.heap.size ≤ k) (some ⟨g, 0, none⟩) l.length c l ∧ Ext w w') :=
  fun a ha ops Q rest hw hK => BigFrame.wpList_want hw fun K hk => by
    have hrun : (execOp a.eval o).run P w = .ok (.value (.slice (some ⟨w.heap.size, 0, none⟩) l.length (grownCap w l.length 0 el))) (w.drew.alloc (.cells (bytesRow ⟨⟨l⟩⟩ (grownCap w l.length 0 el)) el ((bytesRow ⟨⟨l⟩⟩ (grownCap w l.length 0 el)).size, (bytesRow ⟨⟨l⟩⟩ (grownCap w l.length 0 el)).size + 1))) := by
      unfold execOp
      simp only [ho, ha.ev hx, txt, Sem.run_bind, run_bytes_of_string w t t' el ⟨⟨l⟩⟩ hs hd he, Result.andThen_ok, Sem.run_pure, txt_size]
    unfold Oper.wp
    rw [hrun]
    have hcm : grownCap w l.length 0 el ≤ maxLen := grownCap_le_maxLen w l.length 0 el (by simpa [maxLen] using hl)
    refine hk _ _ (hK _ _ ⟨_, _, rfl, Nat.le_refl _, ⟨by simp [u8s], grownCap_ge w l.length 0 el, hcm, fun hn => ⟨w.heap.size, 0, rfl, ?_, Nat.le_refl _, fun i v hv => ?_⟩⟩, ((Ext.refl w).drew).alloc _⟩)
    · show w.heap.size < (w.heap.push _).size
      simp
    · have hi := (List.getElem?_eq_some_iff.1 hv).1
      rw [Nat.zero_add]
      have hh : (w.drew.alloc (.cells (bytesRow ⟨⟨l⟩⟩ (grownCap w l.length 0 el)) el ((bytesRow ⟨⟨l⟩⟩ (grownCap w l.length 0 el)).size, (bytesRow ⟨⟨l⟩⟩ (grownCap w l.length 0 el)).size + 1))).heap[w.heap.size]? = some (.cells (bytesRow ⟨⟨l⟩⟩ (grownCap w l.length 0 el)) el ((bytesRow ⟨⟨l⟩⟩ (grownCap w l.length 0 el)).size, (bytesRow ⟨⟨l⟩⟩ (grownCap w l.length 0 el)).size + 1)) := by
        show (w.heap.push _)[w.heap.size]? = _
        simp
      rw [cell_of_row _ _ i _ _ _ hh]
      rw [u8s_length] at hi
      unfold bytesRow
      rw [Array.getElem?_append_left (by simpa using hi)]
      simpa [u8s] using hv
end
/-! looking for a byte -/
end Go.Proofs.YtnbgieccindpnaaDoor
/- Images: names, printable bytes, bytes looked for. -/
namespace Go.Proofs.YtnbgieccindpnaaDoor
set_option linter.all false
set_option maxRecDepth 20000
open Go.RowKit
theorem getC {l : List UInt8} {i : Nat} (h : i < l.length) : l[i]? = some (gb1 l i) := gb1_some l i h
theorem nameC_f {c : UInt8} (h : ¬ ((97 ≤ c.toNat ∧ c.toNat ≤ 122) ∨ (48 ≤ c.toNat ∧ c.toNat ≤ 57) ∨ c.toNat = 45)) : nameC c = false := decide_eq_false h
theorem nameC_t {c : UInt8} (h : (97 ≤ c.toNat ∧ c.toNat ≤ 122) ∨ (48 ≤ c.toNat ∧ c.toNat ≤ 57) ∨ c.toNat = 45) : nameC c = true := decide_eq_true h
theorem all_step {l : List UInt8} {p : UInt8 → Bool} {i : Nat} (h : ∀ j < i, ∀ c, l[j]? = some c → p c = true) (hi : i < l.length) (hp : p (gb1 l i) = true) : ∀ j < i + 1, ∀ c, l[j]? = some c → p c = true := fun j hj c hc => by
  rcases Nat.lt_or_ge j i with h1 | h1
  · exact h j h1 c hc
  · obtain rfl : j = i := by omega
    rw [getC hi] at hc; cases hc; exact hp
set_option maxRecDepth 20000 in
theorem namedR (w : World) (l : List UInt8) : Calls Tryd.prog 103 #[txt l] w fun e w' => e = .returned (.bool (nameS l)) ∧ Ext w w' := by
  refine calls_enter Tryd.func103 rfl Tryd.ntmps103 rfl ?_
  have hE : Ext w w := Ext.refl w
  refine vs fun K1 hK1 => vR [(0, _)] ?_
  refine vA ?_
  refine vn (hK1 _ _ ?_)
  refine Wc.seq (fun K2 hK2 => ?_)
  refine vs fun K3 hK3 => vR [(0, _)] ?_
  refine vM ?_
  refine vl (Gives.lenTxt rfl Tryd.underlying9 rfl) ?_
  refine vl (Gives.lss rfl rfl rfl) ?_
  refine vM ?_
  refine Wl.guard rfl rfl rfl (fun h8 => ?_) (fun h8 => ?_)
  · first | replace h8 := dF h8 | replace h8 := nF h8 | skip
    refine vM ?_
    refine vl (Gives.lenTxt rfl Tryd.underlying9 rfl) ?_
    refine vl (Gives.gtr rfl rfl rfl) ?_
    refine vU ?_
    refine vn (hK3 _ _ ?_)
    refine Wc.cond _ rfl (fun h12 => ?_) (fun h12 => ?_)
    · first | replace h12 := dT h12 | replace h12 := nT h12 | skip
      refine vs fun K4 hK4 => vR [] ?_
      refine vA ?_
      refine vn (hK4 _ _ ?_)
      refine Wc.ret ?_
      refine Wx.thenR ?_
      refine Wx.ret [_] ⟨rfl, trivial⟩ ?_
      first | exact ⟨by rw [name_len (by omega)]; rfl, hE⟩ | exact ⟨by rw [name_no (getC hlt) (nameC_f (by omega))]; rfl, hE⟩ | exact ⟨by rw [name_yes (by omega) (fun j hj c hc => hall j (by omega) c hc)]; rfl, hE⟩
    first | replace h12 := dF h12 | replace h12 := nF h12 | skip
    refine Wc.skip ?_
    refine Wx.thenN (hK2 _ _ ?_)
    refine Wc.seq (fun K5 hK5 => ?_)
    refine vs fun K6 hK6 => vR [(0, _)] ?_
    refine vA ?_
    refine vn (hK6 _ _ ?_)
    refine Wc.block ?_
    refine vK [(0, _), (3, _)] ?_
    refine Wc.loopC (ι := Nat) [(0, _)] (fun i => [(3, .int .i64 (i : Int))]) (fun i wr => i ≤ l.length ∧ (∀ j < i, ∀ c, l[j]? = some c → nameC c = true) ∧ Ext w wr) (fun i => l.length - i) (0) (.co (.cons rfl (.nil))) (⟨Nat.zero_le _, fun j hj => absurd hj (by omega), hE⟩) ?_
    intro i wr hJ KL1 hKL1
    clear hE
    obtain ⟨hi, hall, hE⟩ := hJ
    refine Wc.seq (fun K7 hK7 => ?_)
    refine vs fun K8 hK8 => vR [(0, _), (3, _)] ?_
    refine vM ?_
    refine vM ?_
    refine vl (Gives.lenTxt rfl Tryd.underlying9 rfl) ?_
    refine vl (Gives.lss rfl rfl rfl) ?_
    refine vn (hK8 _ _ ?_)
    refine Wc.cond _ rfl (fun h16 => ?_) (fun h16 => ?_)
    · first | replace h16 := dT h16 | replace h16 := nT h16 | skip
      refine Wc.skip ?_
      refine Wx.thenN (hK7 _ _ ?_)
      refine Wc.seq (fun K9 hK9 => ?_)
      refine Wc.block ?_
      refine vs fun K10 hK10 => vK [(0, _), (3, _)] ?_
      have hlt : i < l.length := by omega
      refine Wc.region ?_
      refine vM ?_
      refine vM ?_
      refine vl (Gives.idxTxt rfl Tryd.underlying9 rfl rfl rfl (getC hlt)) ?_
      refine vA ?_
      refine vn (hK10 _ _ ?_)
      refine vs fun K11 hK11 => vR [(0, _), (3, _), (4, _)] ?_
      refine vM ?_
      refine vl (Gives.lss rfl rfl rfl) ?_
      refine vM ?_
      refine Wl.guard rfl rfl rfl (fun h24 => ?_) (fun h24 => ?_)
      · first | replace h24 := dF h24 | replace h24 := nF h24 | skip
        refine vM ?_
        refine vl (Gives.gtr rfl rfl rfl) ?_
        refine vU ?_
        refine vM ?_
        refine Wl.guard rfl rfl rfl (fun h28 => ?_) (fun h28 => ?_)
        · first | replace h28 := dT h28 | replace h28 := nT h28 | skip
          refine vM ?_
          refine vl (Gives.lss rfl rfl rfl) ?_
          refine vM ?_
          refine Wl.guard rfl rfl rfl (fun h31 => ?_) (fun h31 => ?_)
          · first | replace h31 := dF h31 | replace h31 := nF h31 | skip
            refine vM ?_
            refine vl (Gives.gtr rfl rfl rfl) ?_
            refine vU ?_
            refine vT ?_
            refine vM ?_
            refine Wl.guard rfl rfl rfl (fun h36 => ?_) (fun h36 => ?_)
            · first | replace h36 := dT h36 | replace h36 := nT h36 | skip
              refine vM ?_
              refine vl (Gives.neq rfl rfl rfl) ?_
              refine vT ?_
              refine vn (hK11 _ _ ?_)
              refine Wc.cond _ rfl (fun h39 => ?_) (fun h39 => ?_)
              · first | replace h39 := dT h39 | replace h39 := nT h39 | skip
                refine vs fun K12 hK12 => vR [] ?_
                refine vA ?_
                refine vn (hK12 _ _ ?_)
                refine Wc.ret ?_
                refine Wx.blockR ?_
                refine Wx.thenR ?_
                refine Wx.thenR ?_
                refine Wx.blockR ?_
                refine Wx.thenR ?_
                refine Wx.ret [_] ⟨rfl, trivial⟩ ?_
                first | exact ⟨by rw [name_len (by omega)]; rfl, hE⟩ | exact ⟨by rw [name_no (getC hlt) (nameC_f (by omega))]; rfl, hE⟩ | exact ⟨by rw [name_yes (by omega) (fun j hj c hc => hall j (by omega) c hc)]; rfl, hE⟩
              first | replace h39 := dF h39 | replace h39 := nF h39 | skip
              refine Wc.skip ?_
              refine Wx.blockN ?_
              refine Wx.thenN (hK9 _ _ ?_)
              refine vR [(0, _), (3, _)] ?_
              refine vM ?_
              refine vAdd ?_
              refine vA ?_
              refine Wl.nil ?_
              refine Wx.thenN ?_
              exact hKL1 (i + 1) _ _ (.co (.cons rfl (.nil))) ⟨by omega, all_step hall hlt (nameC_t (by omega)), hE⟩ (by show l.length - (i + 1) < l.length - i; omega)
            first | replace h36 := dF h36 | replace h36 := nF h36 | skip
            refine vP ?_
            refine vP ?_
            refine vU ?_
            refine vn (hK11 _ _ ?_)
            refine Wc.condF rfl rfl ?_
            refine Wc.skip ?_
            refine Wx.blockN ?_
            refine Wx.thenN (hK9 _ _ ?_)
            refine vR [(0, _), (3, _)] ?_
            refine vM ?_
            refine vAdd ?_
            refine vA ?_
            refine Wl.nil ?_
            refine Wx.thenN ?_
            exact hKL1 (i + 1) _ _ (.co (.cons rfl (.nil))) ⟨by omega, all_step hall hlt (nameC_t (by omega)), hE⟩ (by show l.length - (i + 1) < l.length - i; omega)
          first | replace h31 := dT h31 | replace h31 := nT h31 | skip
          refine vP ?_
          refine vP ?_
          refine vT ?_
          refine vT ?_
          refine vM ?_
          refine Wl.guardT rfl rfl rfl rfl ?_
          refine vM ?_
          refine vl (Gives.neq rfl rfl rfl) ?_
          refine vT ?_
          refine vn (hK11 _ _ ?_)
          refine Wc.cond _ rfl (fun h39 => ?_) (fun h39 => ?_)
          · first | replace h39 := dT h39 | replace h39 := nT h39 | skip
            refine vs fun K13 hK13 => vR [] ?_
            refine vA ?_
            refine vn (hK13 _ _ ?_)
            refine Wc.ret ?_
            refine Wx.blockR ?_
            refine Wx.thenR ?_
            refine Wx.thenR ?_
            refine Wx.blockR ?_
            refine Wx.thenR ?_
            refine Wx.ret [_] ⟨rfl, trivial⟩ ?_
            first | exact ⟨by rw [name_len (by omega)]; rfl, hE⟩ | exact ⟨by rw [name_no (getC hlt) (nameC_f (by omega))]; rfl, hE⟩ | exact ⟨by rw [name_yes (by omega) (fun j hj c hc => hall j (by omega) c hc)]; rfl, hE⟩
          first | replace h39 := dF h39 | replace h39 := nF h39 | skip
          refine Wc.skip ?_
          refine Wx.blockN ?_
          refine Wx.thenN (hK9 _ _ ?_)
          refine vR [(0, _), (3, _)] ?_
          refine vM ?_
          refine vAdd ?_
          refine vA ?_
          refine Wl.nil ?_
          refine Wx.thenN ?_
          exact hKL1 (i + 1) _ _ (.co (.cons rfl (.nil))) ⟨by omega, all_step hall hlt (nameC_t (by omega)), hE⟩ (by show l.length - (i + 1) < l.length - i; omega)
        first | replace h28 := dF h28 | replace h28 := nF h28 | skip
        refine vP ?_
        refine vP ?_
        refine vP ?_
        refine vP ?_
        refine vP ?_
        refine vP ?_
        refine vU ?_
        refine vM ?_
        refine Wl.guardF rfl rfl rfl rfl ?_
        refine vP ?_
        refine vP ?_
        refine vU ?_
        refine vn (hK11 _ _ ?_)
        refine Wc.condF rfl rfl ?_
        refine Wc.skip ?_
        refine Wx.blockN ?_
        refine Wx.thenN (hK9 _ _ ?_)
        refine vR [(0, _), (3, _)] ?_
        refine vM ?_
        refine vAdd ?_
        refine vA ?_
        refine Wl.nil ?_
        refine Wx.thenN ?_
        exact hKL1 (i + 1) _ _ (.co (.cons rfl (.nil))) ⟨by omega, all_step hall hlt (nameC_t (by omega)), hE⟩ (by show l.length - (i + 1) < l.length - i; omega)
      first | replace h24 := dT h24 | replace h24 := nT h24 | skip
      refine vP ?_
      refine vP ?_
      refine vT ?_
      refine vM ?_
      refine Wl.guardT rfl rfl rfl rfl ?_
      refine vM ?_
      refine vl (Gives.lss rfl rfl rfl) ?_
      refine vM ?_
      refine Wl.guard rfl rfl rfl (fun h31 => ?_) (fun h31 => ?_)
      · first | replace h31 := dF h31 | replace h31 := nF h31 | skip
        refine vM ?_
        refine vl (Gives.gtr rfl rfl rfl) ?_
        refine vU ?_
        refine vT ?_
        refine vM ?_
        refine Wl.guard rfl rfl rfl (fun h36 => ?_) (fun h36 => ?_)
        · first | replace h36 := dT h36 | replace h36 := nT h36 | skip
          refine vM ?_
          refine vl (Gives.neq rfl rfl rfl) ?_
          refine vT ?_
          refine vn (hK11 _ _ ?_)
          refine Wc.cond _ rfl (fun h39 => ?_) (fun h39 => ?_)
          · first | replace h39 := dT h39 | replace h39 := nT h39 | skip
            refine vs fun K14 hK14 => vR [] ?_
            refine vA ?_
            refine vn (hK14 _ _ ?_)
            refine Wc.ret ?_
            refine Wx.blockR ?_
            refine Wx.thenR ?_
            refine Wx.thenR ?_
            refine Wx.blockR ?_
            refine Wx.thenR ?_
            refine Wx.ret [_] ⟨rfl, trivial⟩ ?_
            first | exact ⟨by rw [name_len (by omega)]; rfl, hE⟩ | exact ⟨by rw [name_no (getC hlt) (nameC_f (by omega))]; rfl, hE⟩ | exact ⟨by rw [name_yes (by omega) (fun j hj c hc => hall j (by omega) c hc)]; rfl, hE⟩
          first | replace h39 := dF h39 | replace h39 := nF h39 | skip
          refine Wc.skip ?_
          refine Wx.blockN ?_
          refine Wx.thenN (hK9 _ _ ?_)
          refine vR [(0, _), (3, _)] ?_
          refine vM ?_
          refine vAdd ?_
          refine vA ?_
          refine Wl.nil ?_
          refine Wx.thenN ?_
          exact hKL1 (i + 1) _ _ (.co (.cons rfl (.nil))) ⟨by omega, all_step hall hlt (nameC_t (by omega)), hE⟩ (by show l.length - (i + 1) < l.length - i; omega)
        first | replace h36 := dF h36 | replace h36 := nF h36 | skip
        refine vP ?_
        refine vP ?_
        refine vU ?_
        refine vn (hK11 _ _ ?_)
        refine Wc.condF rfl rfl ?_
        refine Wc.skip ?_
        refine Wx.blockN ?_
        refine Wx.thenN (hK9 _ _ ?_)
        refine vR [(0, _), (3, _)] ?_
        refine vM ?_
        refine vAdd ?_
        refine vA ?_
        refine Wl.nil ?_
        refine Wx.thenN ?_
        exact hKL1 (i + 1) _ _ (.co (.cons rfl (.nil))) ⟨by omega, all_step hall hlt (nameC_t (by omega)), hE⟩ (by show l.length - (i + 1) < l.length - i; omega)
      first | replace h31 := dT h31 | replace h31 := nT h31 | skip
      refine vP ?_
      refine vP ?_
      refine vT ?_
      refine vT ?_
      refine vM ?_
      refine Wl.guardT rfl rfl rfl rfl ?_
      refine vM ?_
      refine vl (Gives.neq rfl rfl rfl) ?_
      refine vT ?_
      refine vn (hK11 _ _ ?_)
      refine Wc.cond _ rfl (fun h39 => ?_) (fun h39 => ?_)
      · first | replace h39 := dT h39 | replace h39 := nT h39 | skip
        refine vs fun K15 hK15 => vR [] ?_
        refine vA ?_
        refine vn (hK15 _ _ ?_)
        refine Wc.ret ?_
        refine Wx.blockR ?_
        refine Wx.thenR ?_
        refine Wx.thenR ?_
        refine Wx.blockR ?_
        refine Wx.thenR ?_
        refine Wx.ret [_] ⟨rfl, trivial⟩ ?_
        first | exact ⟨by rw [name_len (by omega)]; rfl, hE⟩ | exact ⟨by rw [name_no (getC hlt) (nameC_f (by omega))]; rfl, hE⟩ | exact ⟨by rw [name_yes (by omega) (fun j hj c hc => hall j (by omega) c hc)]; rfl, hE⟩
      first | replace h39 := dF h39 | replace h39 := nF h39 | skip
      refine Wc.skip ?_
      refine Wx.blockN ?_
      refine Wx.thenN (hK9 _ _ ?_)
      refine vR [(0, _), (3, _)] ?_
      refine vM ?_
      refine vAdd ?_
      refine vA ?_
      refine Wl.nil ?_
      refine Wx.thenN ?_
      exact hKL1 (i + 1) _ _ (.co (.cons rfl (.nil))) ⟨by omega, all_step hall hlt (nameC_t (by omega)), hE⟩ (by show l.length - (i + 1) < l.length - i; omega)
    first | replace h16 := dF h16 | replace h16 := nF h16 | skip
    refine Wc.exit ?_
    refine Wx.thenE ?_
    refine Wx.thenE ?_
    refine Wx.hit ?_
    refine Wx.thenN (hK5 _ _ ?_)
    refine vs fun K16 hK16 => vR [] ?_
    refine vA ?_
    refine vn (hK16 _ _ ?_)
    refine Wc.ret ?_
    refine Wx.ret [_] ⟨rfl, trivial⟩ ?_
    first | exact ⟨by rw [name_len (by omega)]; rfl, hE⟩ | exact ⟨by rw [name_no (getC hlt) (nameC_f (by omega))]; rfl, hE⟩ | exact ⟨by rw [name_yes (by omega) (fun j hj c hc => hall j (by omega) c hc)]; rfl, hE⟩
  first | replace h8 := dT h8 | replace h8 := nT h8 | skip
  refine vP ?_
  refine vP ?_
  refine vP ?_
  refine vT ?_
  refine vn (hK3 _ _ ?_)
  refine Wc.condT rfl rfl ?_
  refine vs fun K17 hK17 => vR [] ?_
  refine vA ?_
  refine vn (hK17 _ _ ?_)
  refine Wc.ret ?_
  refine Wx.thenR ?_
  refine Wx.ret [_] ⟨rfl, trivial⟩ ?_
  first | exact ⟨by rw [name_len (by omega)]; rfl, hE⟩ | exact ⟨by rw [name_no (getC hlt) (nameC_f (by omega))]; rfl, hE⟩ | exact ⟨by rw [name_yes (by omega) (fun j hj c hc => hall j (by omega) c hc)]; rfl, hE⟩
theorem printC_f {c : UInt8} (h : ¬ (32 ≤ c.toNat ∧ c.toNat ≤ 126)) : printC c = false := decide_eq_false h
theorem printC_t {c : UInt8} (h : 32 ≤ c.toNat ∧ c.toNat ≤ 126) : printC c = true := decide_eq_true h
end Go.Proofs.YtnbgieccindpnaaDoor
/- Images: lines. -/
namespace Go.Proofs.YtnbgieccindpnaaDoor
set_option linter.all false
set_option maxRecDepth 20000
open Go.RowKit
theorem OL.frW {P : Nat → Prop} {w w' : World} {S : Nat → Prop} {base hi n c : Nat} {A : Option Addr} {ls : List (List UInt8)} (h : OL w S base A n c ls) (hw : Win A hi) (f : Fr P w w') (hp : ∀ k, base ≤ k → k < hi → P k) (hs : ∀ k, S k → P k) : OL w' S base A n c ls :=
  let ⟨vs, ho, he⟩ := h
  ⟨vs, own_frW ho hw f hp, (he.fr (f.mono fun k hk => hs k hk.1)).mono fun k hk => ⟨hk.1, Nat.lt_of_lt_of_le hk.2.1 f.size, hk.2.2⟩⟩
theorem OL.win {w : World} {S : Nat → Prop} {base n c : Nat} {A : Option Addr} {ls : List (List UInt8)} (h : OL w S base A n c ls) : Win A w.heap.size := let ⟨vs, ho⟩ := h.own; Win.of ho
theorem drop_at {l : List UInt8} {i : Nat} (h : i < l.length) : l.drop i = gb1 l i :: l.drop (i + 1) := by
  have h1 := getC h
  rw [List.getElem?_eq_getElem h] at h1
  rw [List.drop_eq_getElem_cons h, Option.some.inj h1]
theorem linesG_end {line : List UInt8} {out : List (List UInt8)} : linesG [] out line = if line = [] then out else [] := rfl
set_option maxRecDepth 20000 in
set_option maxHeartbeats 1000000 in
theorem linesRN {P : Nat → Prop} (w : World) (r v : Int) (nm : List UInt8) (A : Option Addr) (n c : Nat) (pay : List UInt8) (hp : BV w P A n c pay) (hn : n ≤ 1000000) :
    Calls Tryd.prog 64 #[.agg #[.int .i64 r, txt nm, .int .i64 v, .slice A n c]] w fun e w' => ∃ S m k, e = .returned (.slice S m k) ∧ BL w' (fun q => w.heap.size ≤ q) S m k (linesS pay) ∧ Ext w w' := by
  have hpl := hp.len
  have hple := hp.le
  refine calls_enter Tryd.func64 rfl Tryd.ntmps64 rfl ?_
  have hE : Ext w w := Ext.refl w
  refine vs fun K1 hK1 => vR [(0, _)] ?_
  refine Wl.does rfl rfl rfl (Does.boxA rfl rfl) ?_
  rintro _ w0_0 ⟨b1, rfl, hs1, hb1, hx0_0⟩
  have hg1 : w.heap.size ≤ b1 := Nat.le_trans hE.size hs1
  replace hE := hE.trans hx0_0
  refine vA ?_
  refine vn (hK1 _ _ ?_)
  refine vs fun K2 hK2 => vK [(1, _)] ?_
  have hzb : w0_0.heap.size = w0_0.heap.size := rfl
  have hz1 := hb1.lt
  have hzw := hE.size
  refine Wc.region ?_
  refine vA ?_
  refine vn (hK2 _ _ ?_)
  refine vs fun K3 hK3 => vR [(1, _), (3, _)] ?_
  refine vA ?_
  refine vn (hK3 _ _ ?_)
  refine Wc.seq (fun K4 hK4 => ?_)
  refine vs fun K5 hK5 => vR [(1, _), (3, _), (4, _)] ?_
  refine vA ?_
  refine vn (hK5 _ _ ?_)
  refine Wc.block ?_
  refine vK [(1, _), (3, _), (4, _), (5, _)] ?_
  refine Wc.loopC (ι := Nat × (Option Addr × Nat × Nat × List (List UInt8)) × (Option Addr × Nat × Nat × List UInt8) × Nat) [(1, _)] (fun | (i, (B, p, sc, _), (L, lm, lc, _), _) => [(5, .int .i64 (i : Int)), (3, .slice B p sc), (4, .slice L lm lc)]) (fun | (i, (B, p, sc, out), (L, lm, lc, line), N), wr => i ≤ n ∧ p ≤ 4 ∧ lm ≤ i ∧ linesS pay = linesG (pay.drop i) out line ∧ OL wr (fun k => w0_0.heap.size ≤ k ∧ k < N) w0_0.heap.size B p sc out ∧ Win B N ∧ w0_0.heap.size ≤ N ∧ N ≤ wr.heap.size ∧ OB wr N 5 L lm lc line ∧ Blk wr b1 84 #[.int .i64 r, txt nm, .int .i64 v, .slice A n c] ∧ Ext w wr) (fun | (i, _) => n - i) ((0, (none, 0, 0, []), (none, 0, 0, []), w0_0.heap.size)) (.co (.co (.co (.cons rfl (.nil))))) (⟨by omega, by omega, by omega, by rw [List.drop_zero]; rfl, OL.nil_ _ _ _, Win.nil_ _, Nat.le_refl _, Nat.le_refl _, OB.nil_ _ _ _, hb1, hE⟩) ?_
  intro ⟨i, ⟨B, p, sc, out⟩, ⟨L, lm, lc, line⟩, N⟩ wr hJ KL1 hKL1
  clear hE hb1
  obtain ⟨hi, hp4, hlm, hls, hO, hWn, hN0, hN, hL, hb1, hE⟩ := hJ
  have hOl := hO.len
  have hLl := hL.len
  refine Wc.seq (fun K6 hK6 => ?_)
  refine vs fun K7 hK7 => vR [(1, _), (3, _), (4, _), (5, _)] ?_
  refine vM ?_
  refine vF 3 Tryd.underlying84 ?_
  refine vL hb1 ?_
  refine vl (Gives.lenS rfl Tryd.underlying22 rfl) ?_
  refine vl (Gives.lss rfl rfl rfl) ?_
  refine vn (hK7 _ _ ?_)
  refine Wc.cond _ rfl (fun h11 => ?_) (fun h11 => ?_)
  · first | replace h11 := dT h11 | replace h11 := nT h11 | skip
    refine Wc.skip ?_
    refine Wx.thenN (hK6 _ _ ?_)
    refine Wc.seq (fun K8 hK8 => ?_)
    refine Wc.block ?_
    refine vs fun K9 hK9 => vK [(1, _), (3, _), (4, _), (5, _)] ?_
    have hlt : i < pay.length := by omega
    obtain ⟨g, off, rfl, _, _⟩ := hp.2.2.2 (by omega)
    rw [drop_at hlt] at hls
    refine Wc.region ?_
    refine vF 3 Tryd.underlying84 ?_
    refine vL hb1 ?_
    refine vM ?_
    refine vl (Gives.ixS (i := _) rfl Tryd.underlying22 (by kernel_rfl) rfl rfl rfl (by omega)) ?_
    refine vl (Gives.ldC rfl (by kernel_rfl) rfl ((hp.ext hE).cellAt (getC hlt))) ?_
    refine vA ?_
    refine vn (hK9 _ _ ?_)
    refine Wc.seq (fun K10 hK10 => ?_)
    refine vs fun K11 hK11 => vR [(1, _), (3, _), (4, _), (5, _), (6, _)] ?_
    refine vM ?_
    refine vl (Gives.eql rfl rfl rfl) ?_
    refine vn (hK11 _ _ ?_)
    refine Wc.cond _ rfl (fun h20 => ?_) (fun h20 => ?_)
    · first | replace h20 := dT h20 | replace h20 := nT h20 | skip
      refine Wc.seq (fun K12 hK12 => ?_)
      refine vs fun K13 hK13 => vR [(1, _), (3, _), (4, _), (5, _)] ?_
      refine vM ?_
      refine vl (Gives.lenS rfl Tryd.underlying22 rfl) ?_
      refine vl (Gives.eql rfl rfl rfl) ?_
      refine vM ?_
      refine Wl.guard rfl rfl rfl (fun h24 => ?_) (fun h24 => ?_)
      · first | replace h24 := dF h24 | replace h24 := nF h24 | skip
        refine vM ?_
        refine vl (Gives.lenS rfl Tryd.underlying32 rfl) ?_
        refine vl (Gives.geq rfl rfl rfl) ?_
        refine vU ?_
        refine vn (hK13 _ _ ?_)
        refine Wc.cond _ rfl (fun h28 => ?_) (fun h28 => ?_)
        · first | replace h28 := dT h28 | replace h28 := nT h28 | skip
          refine vs fun K14 hK14 => vR [] ?_
          refine vA ?_
          refine vn (hK14 _ _ ?_)
          refine Wc.ret ?_
          refine Wx.thenR ?_
          refine Wx.thenR ?_
          refine Wx.blockR ?_
          refine Wx.thenR ?_
          refine Wx.thenR ?_
          refine Wx.blockR ?_
          refine Wx.thenR ?_
          refine Wx.ret [_] ⟨rfl, trivial⟩ ?_
          first | exact ⟨none, 0, 0, rfl, by rw [hls, linesG_cons, if_pos (show (gb1 pay i).toNat = 10 by omega), if_pos (.inl (List.eq_nil_of_length_eq_zero (by omega)))]; exact BL.nil_ _ _, hE⟩ | exact ⟨none, 0, 0, rfl, by rw [hls, linesG_cons, if_pos (show (gb1 pay i).toNat = 10 by omega), if_pos (.inr (by omega))]; exact BL.nil_ _ _, hE⟩ | exact ⟨none, 0, 0, rfl, by rw [hls, linesG_cons, if_neg (show ¬ (gb1 pay i).toNat = 10 by omega), if_neg (by rw [printC_f (by omega)]; decide)]; exact BL.nil_ _ _, hE⟩ | exact ⟨none, 0, 0, rfl, by rw [hls, List.drop_eq_nil_of_le (by omega), linesG_end, if_neg (fun h => by rw [h] at hLl; simp at hLl; omega)]; exact BL.nil_ _ _, hE⟩ | exact ⟨B, p, sc, rfl, by rw [hls, List.drop_eq_nil_of_le (by omega), linesG_end, if_pos (List.eq_nil_of_length_eq_zero (by omega))]; exact hO.bl (fun k hk => Nat.le_trans hzw hk) (fun k hk => Nat.le_trans hzw hk.1), hE⟩
        first | replace h28 := dF h28 | replace h28 := nF h28 | skip
        refine Wc.skip ?_
        refine Wx.thenN (hK12 _ _ ?_)
        refine vs fun K15 hK15 => vR [(1, _), (3, _), (4, _), (5, _)] ?_
        refine vM ?_
        refine vM ?_
        refine Wl.does rfl rfl rfl (Does.lit rfl Tryd.underlying32 infoL2 rfl rfl rfl rfl rfl) ?_
        rintro _ w102 ⟨g102, rfl, hs102, hk102, hx102⟩
        replace hO := hO.ext hx102
        replace hL := hL.ext hx102
        have hz102 := hx102.size
        replace hb1 := hb1.ext hx102
        replace hE := hE.trans hx102
        have hln : BV w102 (NOwn w102 (fun k => w0_0.heap.size ≤ k) (.slice B p sc)) L lm lc line := (hL.bv (P := fun k => N ≤ k) (fun _ h => h)).bd.mono fun k hk => ⟨Nat.le_trans hN0 hk.1, hk.2, ownB_hi hWn hk.1⟩
        refine Wl.does rfl rfl rfl (Does.appL rfl rfl rfl (hO.mono (S' := fun k => w0_0.heap.size ≤ k) fun _ h => h.1) hk102 hln (by omega) (by omega)) ?_
        rintro _ w103 ⟨B2, sc2, rfl, hO2, hB103⟩
        have hz103 := hB103.size
        replace hb1 := Blk.bel hb1 hB103 (by omega)
        replace hE := Ext.step hE hB103 (by omega)
        refine vA ?_
        refine vn (hK15 _ _ ?_)
        refine vs fun K16 hK16 => vR [(1, _), (3, _), (5, _)] ?_
        refine vA ?_
        refine vn (hK16 _ _ ?_)
        refine Wc.exit ?_
        refine Wx.thenE ?_
        refine Wx.hit ?_
        refine Wx.thenN (hK8 _ _ ?_)
        refine vR [(1, _), (3, _), (4, _), (5, _)] ?_
        refine vM ?_
        refine vAdd ?_
        refine vA ?_
        refine Wl.nil ?_
        refine Wx.thenN ?_
        have hc : (gb1 pay i).toNat = 10 := by omega
        refine hKL1 (i + 1, (B2, p + 1, sc2, out ++ [line]), (none, 0, 0, []), w103.heap.size) _ _ (.co (.co (.co (.cons rfl (.nil))))) ⟨by omega, by omega, by omega, ?_, hO2.offs fun k h1 h2 => ⟨h1, h2⟩, hO2.win, by omega, Nat.le_refl _, OB.nil_ _ _ _, hb1, hE⟩ (by show n - (i + 1) < n - i; omega)
        rw [hls, linesG_cons, if_pos hc, if_neg]
        rintro (h | h)
        · rw [h] at hLl; simp at hLl; omega
        · omega
      first | replace h24 := dT h24 | replace h24 := nT h24 | skip
      refine vP ?_
      refine vP ?_
      refine vP ?_
      refine vT ?_
      refine vn (hK13 _ _ ?_)
      refine Wc.condT rfl rfl ?_
      refine vs fun K17 hK17 => vR [] ?_
      refine vA ?_
      refine vn (hK17 _ _ ?_)
      refine Wc.ret ?_
      refine Wx.thenR ?_
      refine Wx.thenR ?_
      refine Wx.blockR ?_
      refine Wx.thenR ?_
      refine Wx.thenR ?_
      refine Wx.blockR ?_
      refine Wx.thenR ?_
      refine Wx.ret [_] ⟨rfl, trivial⟩ ?_
      first | exact ⟨none, 0, 0, rfl, by rw [hls, linesG_cons, if_pos (show (gb1 pay i).toNat = 10 by omega), if_pos (.inl (List.eq_nil_of_length_eq_zero (by omega)))]; exact BL.nil_ _ _, hE⟩ | exact ⟨none, 0, 0, rfl, by rw [hls, linesG_cons, if_pos (show (gb1 pay i).toNat = 10 by omega), if_pos (.inr (by omega))]; exact BL.nil_ _ _, hE⟩ | exact ⟨none, 0, 0, rfl, by rw [hls, linesG_cons, if_neg (show ¬ (gb1 pay i).toNat = 10 by omega), if_neg (by rw [printC_f (by omega)]; decide)]; exact BL.nil_ _ _, hE⟩ | exact ⟨none, 0, 0, rfl, by rw [hls, List.drop_eq_nil_of_le (by omega), linesG_end, if_neg (fun h => by rw [h] at hLl; simp at hLl; omega)]; exact BL.nil_ _ _, hE⟩ | exact ⟨B, p, sc, rfl, by rw [hls, List.drop_eq_nil_of_le (by omega), linesG_end, if_pos (List.eq_nil_of_length_eq_zero (by omega))]; exact hO.bl (fun k hk => Nat.le_trans hzw hk) (fun k hk => Nat.le_trans hzw hk.1), hE⟩
    first | replace h20 := dF h20 | replace h20 := nF h20 | skip
    refine Wc.skip ?_
    refine Wx.thenN (hK10 _ _ ?_)
    refine Wc.seq (fun K18 hK18 => ?_)
    refine vs fun K19 hK19 => vR [(1, _), (3, _), (4, _), (5, _), (6, _)] ?_
    refine vM ?_
    refine vl (Gives.lss rfl rfl rfl) ?_
    refine vM ?_
    refine Wl.guard rfl rfl rfl (fun h35 => ?_) (fun h35 => ?_)
    · first | replace h35 := dF h35 | replace h35 := nF h35 | skip
      refine vM ?_
      refine vl (Gives.gtr rfl rfl rfl) ?_
      refine vU ?_
      refine vn (hK19 _ _ ?_)
      refine Wc.cond _ rfl (fun h38 => ?_) (fun h38 => ?_)
      · first | replace h38 := dT h38 | replace h38 := nT h38 | skip
        refine vs fun K20 hK20 => vR [] ?_
        refine vA ?_
        refine vn (hK20 _ _ ?_)
        refine Wc.ret ?_
        refine Wx.thenR ?_
        refine Wx.blockR ?_
        refine Wx.thenR ?_
        refine Wx.thenR ?_
        refine Wx.blockR ?_
        refine Wx.thenR ?_
        refine Wx.ret [_] ⟨rfl, trivial⟩ ?_
        first | exact ⟨none, 0, 0, rfl, by rw [hls, linesG_cons, if_pos (show (gb1 pay i).toNat = 10 by omega), if_pos (.inl (List.eq_nil_of_length_eq_zero (by omega)))]; exact BL.nil_ _ _, hE⟩ | exact ⟨none, 0, 0, rfl, by rw [hls, linesG_cons, if_pos (show (gb1 pay i).toNat = 10 by omega), if_pos (.inr (by omega))]; exact BL.nil_ _ _, hE⟩ | exact ⟨none, 0, 0, rfl, by rw [hls, linesG_cons, if_neg (show ¬ (gb1 pay i).toNat = 10 by omega), if_neg (by rw [printC_f (by omega)]; decide)]; exact BL.nil_ _ _, hE⟩ | exact ⟨none, 0, 0, rfl, by rw [hls, List.drop_eq_nil_of_le (by omega), linesG_end, if_neg (fun h => by rw [h] at hLl; simp at hLl; omega)]; exact BL.nil_ _ _, hE⟩ | exact ⟨B, p, sc, rfl, by rw [hls, List.drop_eq_nil_of_le (by omega), linesG_end, if_pos (List.eq_nil_of_length_eq_zero (by omega))]; exact hO.bl (fun k hk => Nat.le_trans hzw hk) (fun k hk => Nat.le_trans hzw hk.1), hE⟩
      first | replace h38 := dF h38 | replace h38 := nF h38 | skip
      refine Wc.skip ?_
      refine Wx.thenN (hK18 _ _ ?_)
      refine vR [(1, _), (3, _), (4, _), (5, _), (6, _)] ?_
      refine vM ?_
      refine vM ?_
      refine Wl.does rfl rfl rfl (Does.lit rfl Tryd.underlying22 infoB2 rfl rfl rfl rfl rfl) ?_
      rintro _ w142 ⟨g142, rfl, hs142, hk142, hx142⟩
      replace hO := hO.ext hx142
      replace hL := hL.ext hx142
      have hz142 := hx142.size
      replace hb1 := hb1.ext hx142
      replace hE := hE.trans hx142
      refine Wl.does rfl rfl rfl (Does.appO rfl Tryd.underlying22 infoB rfl rfl hL ((mb1 (gb1 pay i) hk142 rfl).bv (P := fun _ => True) trivial (n := 1) (c := 1) rfl (Nat.le_refl _) (by omega)) (by omega) (by omega)) ?_
      rintro _ w143 ⟨L2, lc2, rfl, hL2, hB143⟩
      have hz143 := hB143.size
      have hO2 := hO.frW hWn (below_fr hB143) (fun k _ h => h) (fun k h => h.2)
      replace hb1 := Blk.bel hb1 hB143 (by omega)
      replace hE := Ext.step hE hB143 (by omega)
      refine vA ?_
      refine Wl.nil ?_
      refine Wx.blockN ?_
      refine Wx.thenN (hK8 _ _ ?_)
      refine vR [(1, _), (3, _), (4, _), (5, _)] ?_
      refine vM ?_
      refine vAdd ?_
      refine vA ?_
      refine Wl.nil ?_
      refine Wx.thenN ?_
      have hc : ¬ (gb1 pay i).toNat = 10 := by omega
      refine hKL1 (i + 1, (B, p, sc, out), (L2, lm + 1, lc2, line ++ [gb1 pay i]), N) _ _ (.co (.co (.co (.cons rfl (.nil))))) ⟨by omega, by omega, by omega, ?_, hO2, hWn, hN0, by omega, hL2, hb1, hE⟩ (by show n - (i + 1) < n - i; omega)
      rw [hls, linesG_cons, if_neg hc, if_pos (printC_t (by omega))]
    first | replace h35 := dT h35 | replace h35 := nT h35 | skip
    refine vP ?_
    refine vP ?_
    refine vT ?_
    refine vn (hK19 _ _ ?_)
    refine Wc.condT rfl rfl ?_
    refine vs fun K21 hK21 => vR [] ?_
    refine vA ?_
    refine vn (hK21 _ _ ?_)
    refine Wc.ret ?_
    refine Wx.thenR ?_
    refine Wx.blockR ?_
    refine Wx.thenR ?_
    refine Wx.thenR ?_
    refine Wx.blockR ?_
    refine Wx.thenR ?_
    refine Wx.ret [_] ⟨rfl, trivial⟩ ?_
    first | exact ⟨none, 0, 0, rfl, by rw [hls, linesG_cons, if_pos (show (gb1 pay i).toNat = 10 by omega), if_pos (.inl (List.eq_nil_of_length_eq_zero (by omega)))]; exact BL.nil_ _ _, hE⟩ | exact ⟨none, 0, 0, rfl, by rw [hls, linesG_cons, if_pos (show (gb1 pay i).toNat = 10 by omega), if_pos (.inr (by omega))]; exact BL.nil_ _ _, hE⟩ | exact ⟨none, 0, 0, rfl, by rw [hls, linesG_cons, if_neg (show ¬ (gb1 pay i).toNat = 10 by omega), if_neg (by rw [printC_f (by omega)]; decide)]; exact BL.nil_ _ _, hE⟩ | exact ⟨none, 0, 0, rfl, by rw [hls, List.drop_eq_nil_of_le (by omega), linesG_end, if_neg (fun h => by rw [h] at hLl; simp at hLl; omega)]; exact BL.nil_ _ _, hE⟩ | exact ⟨B, p, sc, rfl, by rw [hls, List.drop_eq_nil_of_le (by omega), linesG_end, if_pos (List.eq_nil_of_length_eq_zero (by omega))]; exact hO.bl (fun k hk => Nat.le_trans hzw hk) (fun k hk => Nat.le_trans hzw hk.1), hE⟩
  first | replace h11 := dF h11 | replace h11 := nF h11 | skip
  refine Wc.exit ?_
  refine Wx.thenE ?_
  refine Wx.thenE ?_
  refine Wx.hit ?_
  refine Wx.thenN (hK4 _ _ ?_)
  refine Wc.seq (fun K22 hK22 => ?_)
  refine vs fun K23 hK23 => vR [(3, _), (4, _)] ?_
  refine vM ?_
  refine vl (Gives.lenS rfl Tryd.underlying22 rfl) ?_
  refine vl (Gives.gtr rfl rfl rfl) ?_
  refine vn (hK23 _ _ ?_)
  refine Wc.cond _ rfl (fun h45 => ?_) (fun h45 => ?_)
  · first | replace h45 := dT h45 | replace h45 := nT h45 | skip
    refine vs fun K24 hK24 => vR [] ?_
    refine vA ?_
    refine vn (hK24 _ _ ?_)
    refine Wc.ret ?_
    refine Wx.thenR ?_
    refine Wx.ret [_] ⟨rfl, trivial⟩ ?_
    first | exact ⟨none, 0, 0, rfl, by rw [hls, linesG_cons, if_pos (show (gb1 pay i).toNat = 10 by omega), if_pos (.inl (List.eq_nil_of_length_eq_zero (by omega)))]; exact BL.nil_ _ _, hE⟩ | exact ⟨none, 0, 0, rfl, by rw [hls, linesG_cons, if_pos (show (gb1 pay i).toNat = 10 by omega), if_pos (.inr (by omega))]; exact BL.nil_ _ _, hE⟩ | exact ⟨none, 0, 0, rfl, by rw [hls, linesG_cons, if_neg (show ¬ (gb1 pay i).toNat = 10 by omega), if_neg (by rw [printC_f (by omega)]; decide)]; exact BL.nil_ _ _, hE⟩ | exact ⟨none, 0, 0, rfl, by rw [hls, List.drop_eq_nil_of_le (by omega), linesG_end, if_neg (fun h => by rw [h] at hLl; simp at hLl; omega)]; exact BL.nil_ _ _, hE⟩ | exact ⟨B, p, sc, rfl, by rw [hls, List.drop_eq_nil_of_le (by omega), linesG_end, if_pos (List.eq_nil_of_length_eq_zero (by omega))]; exact hO.bl (fun k hk => Nat.le_trans hzw hk) (fun k hk => Nat.le_trans hzw hk.1), hE⟩
  first | replace h45 := dF h45 | replace h45 := nF h45 | skip
  refine Wc.skip ?_
  refine Wx.thenN (hK22 _ _ ?_)
  refine vs fun K25 hK25 => vR [(3, _)] ?_
  refine vM ?_
  refine vA ?_
  refine vn (hK25 _ _ ?_)
  refine Wc.ret ?_
  refine Wx.ret [_] ⟨rfl, trivial⟩ ?_
  first | exact ⟨none, 0, 0, rfl, by rw [hls, linesG_cons, if_pos (show (gb1 pay i).toNat = 10 by omega), if_pos (.inl (List.eq_nil_of_length_eq_zero (by omega)))]; exact BL.nil_ _ _, hE⟩ | exact ⟨none, 0, 0, rfl, by rw [hls, linesG_cons, if_pos (show (gb1 pay i).toNat = 10 by omega), if_pos (.inr (by omega))]; exact BL.nil_ _ _, hE⟩ | exact ⟨none, 0, 0, rfl, by rw [hls, linesG_cons, if_neg (show ¬ (gb1 pay i).toNat = 10 by omega), if_neg (by rw [printC_f (by omega)]; decide)]; exact BL.nil_ _ _, hE⟩ | exact ⟨none, 0, 0, rfl, by rw [hls, List.drop_eq_nil_of_le (by omega), linesG_end, if_neg (fun h => by rw [h] at hLl; simp at hLl; omega)]; exact BL.nil_ _ _, hE⟩ | exact ⟨B, p, sc, rfl, by rw [hls, List.drop_eq_nil_of_le (by omega), linesG_end, if_pos (List.eq_nil_of_length_eq_zero (by omega))]; exact hO.bl (fun k hk => Nat.le_trans hzw hk) (fun k hk => Nat.le_trans hzw hk.1), hE⟩
theorem linesR {P : Nat → Prop} (w : World) (r v : Int) (nm : List UInt8) (A : Option Addr) (n c : Nat) (pay : List UInt8) (hp : BV w P A n c pay) (hn : n ≤ 1000000) :
    Calls Tryd.prog 64 #[.agg #[.int .i64 r, txt nm, .int .i64 v, .slice A n c]] w fun e w' => ∃ S m k, e = .returned (.slice S m k) ∧ BL w' (fun _ => True) S m k (linesS pay) ∧ Ext w w' :=
  (linesRN w r v nm A n c pay hp hn).mono fun _ _ ⟨S, m, k, h1, h2, h3⟩ => ⟨S, m, k, h1, h2.mono fun _ _ => trivial, h3⟩
end Go.Proofs.YtnbgieccindpnaaDoor
