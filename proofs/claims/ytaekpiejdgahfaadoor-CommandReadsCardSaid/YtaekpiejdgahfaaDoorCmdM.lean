/- Commands: how requests lie in memory. -/
import Derived.Test.YtaekpiejdgahfaaDoorCmdP1
import Derived.Test.YtaekpiejdgahfaaDoorWireQ2
import Derived.Test.YtaekpiejdgahfaaDoorWireRB
namespace Go.Proofs.YtaekpiejdgahfaaDoor
set_option linter.all false
open Go.RowKit
/-! rows of ints -/
def i64s (l : List Int) : List Value := l.map fun z => .int .i64 z
theorem i64s_one (l : List Int) : ∀ u ∈ i64s l, u.oneCell' = true := by
  intro u hu; obtain ⟨_, _, rfl⟩ := List.mem_map.1 hu; rfl
def IV (w : World) (P : Nat → Prop) (A : Option Addr) (n c : Nat) (l : List Int) : Prop := Row w P 1 A n c (i64s l)
section
variable {P P' : Nat → Prop} {w w' : World} {n c k : Nat} {A : Option Addr} {l : List Int}
theorem IV.fr (h : IV w P A n c l) (e : Fr P w w') : IV w' P A n c l := Row.fr h e
theorem IV.ext (h : IV w P A n c l) (e : Ext w w') : IV w' P A n c l := Row.ext h e
theorem IV.mono (h : IV w P A n c l) (hp : ∀ k, P k → P' k) : IV w P' A n c l := Row.mono h hp
theorem IV.nil_ (w : World) (P : Nat → Prop) : IV w P none 0 0 [] := Row.nil_ w P 1 0 none (by simp [maxLen])
theorem IV.len (h : IV w P A n c l) : l.length = n := by simpa [i64s] using h.1
theorem IV.le (h : IV w P A n c l) : n ≤ c ∧ c ≤ 9223372036854775807 := ⟨h.2.1, h.2.2.1⟩
theorem IV.at_ (h : IV w P A n c l) (hk : k < n) : ∃ b off, A = some ⟨b, off, none⟩ ∧ b < w.heap.size ∧ ∃ z, l[k]? = some z ∧ w.cell? ⟨b, off + k, none⟩ = some (.int .i64 z) := by
  obtain ⟨b, off, rfl, hb, _, hc⟩ := h.2.2.2 (by omega)
  have hl : k < l.length := by rw [h.len]; exact hk
  exact ⟨b, off, rfl, hb, l[k], List.getElem?_eq_getElem hl, hc k _ (by simp [i64s, hl])⟩
end
/-! rows of authorizations -/
def authC (s : Int) (N : Option Addr) (nn nc : Nat) (V : Option Addr) (vn vc : Nat) : List Value := [.int .i64 s, .slice N nn nc, .slice V vn vc]
def EachA (w : World) (P : Nat → Prop) (vs : List Value) (l : List Auth) : Prop :=
  vs.length = l.length * 3 ∧ ∀ (i : Nat) (a : Auth), l[i]? = some a → ∃ N nn nc V vn vc, (∀ j v, (authC a.ses N nn nc V vn vc)[j]? = some v → vs[i * 3 + j]? = some v) ∧ BV w P N nn nc a.nonce ∧ BV w P V vn vc a.val
def AV (w : World) (P : Nat → Prop) (A : Option Addr) (n c : Nat) (l : List Auth) : Prop := ∃ vs, Row w P 3 A n c vs ∧ EachA w P vs l
section
variable {P P' : Nat → Prop} {w w' : World} {n c k : Nat} {A : Option Addr} {l : List Auth} {vs : List Value}
theorem EachA.fr (h : EachA w P vs l) (e : Fr P w w') : EachA w' P vs l :=
  ⟨h.1, fun i a ha => let ⟨N, nn, nc, V, vn, vc, h1, h2, h3⟩ := h.2 i a ha; ⟨N, nn, nc, V, vn, vc, h1, h2.fr e, h3.fr e⟩⟩
theorem EachA.mono (h : EachA w P vs l) (hp : ∀ k, P k → P' k) : EachA w P' vs l :=
  ⟨h.1, fun i a ha => let ⟨N, nn, nc, V, vn, vc, h1, h2, h3⟩ := h.2 i a ha; ⟨N, nn, nc, V, vn, vc, h1, h2.mono hp, h3.mono hp⟩⟩
theorem EachA.nil_ : EachA w P [] [] := ⟨rfl, fun i l h => by simp at h⟩
theorem EachA.snoc {a : Auth} {N : Option Addr} {nn nc : Nat} {V : Option Addr} {vn vc : Nat} (h : EachA w P vs l) (h1 : BV w P N nn nc a.nonce) (h2 : BV w P V vn vc a.val) : EachA w P (vs ++ authC a.ses N nn nc V vn vc) (l ++ [a]) := by
  refine ⟨by simp [h.1, authC]; omega, fun j x hj => ?_⟩
  have hlen := h.1
  rw [List.getElem?_append] at hj
  by_cases hlt : j < l.length
  · rw [if_pos hlt] at hj
    obtain ⟨N', nn', nc', V', vn', vc', h3, h4⟩ := h.2 j x hj
    refine ⟨N', nn', nc', V', vn', vc', fun q v hq => ?_, h4⟩
    have hq3 : q < 3 := (List.getElem?_eq_some_iff.1 hq).1
    rw [List.getElem?_append_left (by omega)]
    exact h3 q v hq
  · rw [if_neg hlt] at hj
    cases hh : j - l.length with
    | zero =>
      rw [hh] at hj; simp at hj; subst hj
      refine ⟨N, nn, nc, V, vn, vc, fun q v hq => ?_, h1, h2⟩
      rw [List.getElem?_append_right (by omega), ← hq]
      congr 1
      omega
    | succ q => rw [hh] at hj; simp at hj
theorem AV.fr (h : AV w P A n c l) (e : Fr P w w') : AV w' P A n c l := let ⟨vs, hr, he⟩ := h; ⟨vs, hr.fr e, he.fr e⟩
theorem AV.ext (h : AV w P A n c l) (e : Ext w w') : AV w' P A n c l := h.fr e.fr
theorem AV.mono (h : AV w P A n c l) (hp : ∀ k, P k → P' k) : AV w P' A n c l := let ⟨vs, hr, he⟩ := h; ⟨vs, hr.mono hp, he.mono hp⟩
theorem AV.nil_ (w : World) (P : Nat → Prop) : AV w P none 0 0 [] := ⟨[], Row.nil_ w P 3 0 none (by simp [maxLen]), EachA.nil_⟩
theorem AV.len (h : AV w P A n c l) : l.length = n := by obtain ⟨vs, hr, he⟩ := h; have h1 := hr.1; have h2 := he.1; omega
theorem AV.le (h : AV w P A n c l) : n ≤ c ∧ c ≤ 9223372036854775807 := by obtain ⟨vs, hr, _⟩ := h; exact hr.le
theorem AV.at_ (h : AV w P A n c l) (hk : k < n) :
    ∃ b off, A = some ⟨b, off, none⟩ ∧ b < w.heap.size ∧ ∃ a N nn nc V vn vc, l[k]? = some a ∧ w.rangeAt b (off + k * 3) (authC a.ses N nn nc V vn vc) ∧ BV w P N nn nc a.nonce ∧ BV w P V vn vc a.val := by
  have hlen := h.len
  obtain ⟨vs, hr, he⟩ := h
  obtain ⟨b, off, rfl, hb, _, hc⟩ := hr.2.2.2 (by omega)
  have hl : k < l.length := by omega
  obtain ⟨N, nn, nc, V, vn, vc, h1, h2, h3⟩ := he.2 k _ (List.getElem?_eq_getElem hl)
  exact ⟨b, off, rfl, hb, l[k], N, nn, nc, V, vn, vc, List.getElem?_eq_getElem hl, fun j v hj => by rw [Nat.add_assoc]; exact hc _ v (h1 j v hj), h2, h3⟩
end
/-- an own row, its cells and what is kept of them -/
theorem BL.at' {w : World} {P : Nat → Prop} {n c k : Nat} {A : Option Addr} {ls : List (List UInt8)} (h : BL w P A n c ls) (hk : k < n) :
    ∃ b off, A = some ⟨b, off, none⟩ ∧ b < w.heap.size ∧ ∃ l A' n' c', ls[k]? = some l ∧ w.cell? ⟨b, off + k, none⟩ = some (.slice A' n' c') ∧ BV w P A' n' c' l := by
  have hlen := h.len
  obtain ⟨vs, hr, he⟩ := h
  obtain ⟨b, off, rfl, hb, _, hc⟩ := hr.2.2.2 (by omega)
  have hl : k < ls.length := by omega
  obtain ⟨A', n', c', hv, h3⟩ := he.2 k _ (List.getElem?_eq_getElem hl)
  exact ⟨b, off, rfl, hb, ls[k], A', n', c', List.getElem?_eq_getElem hl, hc k _ hv, h3⟩
theorem rng_ext {w w' : World} {b o : Nat} {cs : List Value} (h : w.rangeAt b o cs) (hb : b < w.heap.size) (e : Ext w w') : w'.rangeAt b o cs := fun j v hv => (World.cell?_of_block (w := w) (a := ⟨b, o + j, none⟩) (e.below.block b hb)).trans (h j v hv)
/-- old cells, in a region that draws its order -/
theorem rng_go {w w9 wc wS : World} {b o : Nat} {cs : List Value} (h : w.rangeAt b o cs) (hb : b < w.heap.size) (hE : Ext w w9) (hX : Ext w9 wc) (hS : Fr (Old w9.heap.size []) wc wS) : wS.rangeAt b o cs := fun j v hv =>
  (World.cell?_of_block (w := wc) (a := ⟨b, o + j, none⟩) (hS.block b (Nat.lt_of_lt_of_le hb (hE.trans hX).size) ⟨Nat.lt_of_lt_of_le hb hE.size, trivial⟩)).trans (rng_ext h hb (hE.trans hX) j v hv)
/-! requests -/
/-- where the parts of a request lie -/
structure RA where
  hA : Option Addr
  hn : Nat
  hc : Nat
  aA : Option Addr
  an : Nat
  ac : Nat
  iA : Option Addr
  iN : Nat
  ic : Nat
  bA : Option Addr
  bn : Nat
  bc : Nat
def RA.nil : RA := ⟨none, 0, 0, none, 0, 0, none, 0, 0, none, 0, 0⟩
structure ReqV (w : World) (P : Nat → Prop) (q : Req) (r : RA) : Prop where
  hs : IV w P r.hA r.hn r.hc q.hs
  us : AV w P r.aA r.an r.ac q.us
  is : IV w P r.iA r.iN r.ic q.is
  bs : BL w P r.bA r.bn r.bc q.bs
theorem ReqV.fr {w w' : World} {P : Nat → Prop} {q : Req} {r : RA} (h : ReqV w P q r) (e : Fr P w w') : ReqV w' P q r := ⟨h.hs.fr e, h.us.fr e, h.is.fr e, h.bs.fr e⟩
theorem ReqV.ext {w w' : World} {P : Nat → Prop} {q : Req} {r : RA} (h : ReqV w P q r) (e : Ext w w') : ReqV w' P q r := h.fr e.fr
theorem ReqV.mono {w : World} {P P' : Nat → Prop} {q : Req} {r : RA} (h : ReqV w P q r) (hp : ∀ k, P k → P' k) : ReqV w P' q r := ⟨h.hs.mono hp, h.us.mono hp, h.is.mono hp, h.bs.mono hp⟩
theorem ReqV.zero (w : World) (P : Nat → Prop) : ReqV w P zeroReq RA.nil := ⟨IV.nil_ w P, AV.nil_ w P, IV.nil_ w P, BL.nil_ w P⟩
theorem ReqV.lens {w : World} {P : Nat → Prop} {q : Req} {r : RA} (h : ReqV w P q r) : q.hs.length = r.hn ∧ q.us.length = r.an ∧ q.is.length = r.iN ∧ q.bs.length = r.bn := ⟨h.hs.len, h.us.len, h.is.len, h.bs.len⟩
/-- not beyond all bounds -/
structure SmallQ (q : Req) : Prop where
  hs : q.hs.length ≤ 1000
  us : q.us.length ≤ 1000
  is : q.is.length ≤ 1000
  bs : q.bs.length ≤ 1000
  auth : ∀ a ∈ q.us, a.nonce.length ≤ 100000 ∧ a.val.length ≤ 100000
  blob : ∀ b ∈ q.bs, b.length ≤ 100000
/-- not too many parts -/
structure FewQ (q : Req) : Prop where
  hs : q.hs.length ≤ 1000
  us : q.us.length ≤ 1000
  is : q.is.length ≤ 1000
  bs : q.bs.length ≤ 1000
theorem SmallQ.few {q : Req} (h : SmallQ q) : FewQ q := ⟨h.hs, h.us, h.is, h.bs⟩
theorem small_of {q : Req} (h : FewQ q) (ha : (q.us.all authShort && q.bs.all blobShort) = true) : SmallQ q := by
  simp only [Bool.and_eq_true, List.all_eq_true] at ha
  refine ⟨h.hs, h.us, h.is, h.bs, fun a hm => ?_, fun b hm => ?_⟩
  · have := ha.1 a hm
    unfold authShort at this
    simp only [Bool.and_eq_true, decide_eq_true_eq] at this
    omega
  · have := ha.2 b hm
    unfold blobShort at this
    simp only [decide_eq_true_eq] at this
    omega
theorem small0 {q : Req} (h : FewQ q) (hc : checkS q = 0) : SmallQ q := by
  refine small_of h ?_
  unfold checkS at hc
  split at hc
  · cases hc
  · split at hc
    · cases hc
    · split at hc
      · cases hc
      · rename_i _ _ h3
        unfold longS at h3
        cases hh : (q.us.all authShort && q.bs.all blobShort) with
        | true => rfl
        | false => rw [hh] at h3; simp at h3
theorem Each.mem {α : Type} {l : List α} {k : Nat} {x : α} (h : l[k]? = some x) : x ∈ l := List.mem_of_getElem? h
theorem blobS_len (l r : List UInt8) : (blobS l r).length ≤ l.length + 65543 := by
  unfold blobS
  have := uintS_len l 2 ((min r.length 65535 : Nat) : Int)
  rw [List.length_append, List.length_take]
  omega
theorem authS_len (l : List UInt8) (a : Auth) : (authS l a).length ≤ l.length + 131094 := by
  unfold authS
  have h1 := uintS_len l 2 a.ses
  have h2 := blobS_len (uintS l 2 a.ses) a.nonce
  have h3 := blobS_len (blobS (uintS l 2 a.ses) a.nonce) a.val
  omega
end Go.Proofs.YtaekpiejdgahfaaDoor
