/- General words and lemmas: rows of memory that read as lists. -/
import Derived.WalkKit
import Derived.WalkSpells
import Derived.BigQuiet
import Derived.Deep.QuietTactic
import Derived.Deep.AppendLies
import Derived.Deep.Onto
import Derived.Maps.AppendAt
import Derived.Laws.CopyOwn
import Derived.Lib.Hide
import Derived.Deep.LoopGhost
namespace Go.Proofs.YtnbgieccindpnaaDoor
set_option linter.all false
set_option maxRecDepth 20000
open Go.RowKit
set_option linter.unusedVariables false
set_option linter.unusedSimpArgs false

/-! ### Frames -/
/-- Of the blocks that were there, those of P hold what they held. -/
structure Fr (P : Nat → Prop) (w w' : World) : Prop where
  os : w'.os = w.os
  tape : w'.tape = w.tape
  output : w'.output = w.output
  size : w.heap.size ≤ w'.heap.size
  block : ∀ k, k < w.heap.size → P k → w'.heap[k]? = w.heap[k]?
/-- Nothing that was there has turned. -/
def Ext (w w' : World) : Prop := Below w.heap.size w w'
section
variable {P P' : Nat → Prop} {a b c w w' : World}
theorem Ext.below (h : Ext w w') : Below w.heap.size w w' := h
theorem Ext.refl (w : World) : Ext w w := Below.refl _ _
theorem Ext.size (h : Ext w w') : w.heap.size ≤ w'.heap.size := h.below.size
theorem Ext.trans (h : Ext a b) (k : Ext b c) : Ext a c := Below.trans h.below (Below.mono k.below h.size)
theorem Ext.drewN (h : Ext a b) (n : Nat) : Ext a (b.drewN n) := ⟨h.below.os, h.below.tape, h.below.output, h.below.size, h.below.block⟩
theorem Ext.drew (h : Ext a b) : Ext a b.drew := Below.drew h.below
theorem Ext.alloc (h : Ext a b) (o : Obj) : Ext a (b.alloc o) := Below.alloc h.below h.size o
theorem Ext.grown {row : Option Nat} (h : Ext a w) (hg : w.grownBy w' row) (hr : ∀ k, row = some k → a.heap.size ≤ k) : Ext a w' := Below.grown h.below hg h.size hr
theorem Ext.fr (h : Ext w w') : Fr P w w' := ⟨h.below.os, h.below.tape, h.below.output, h.below.size, fun k hk _ => h.below.block k hk⟩
theorem Ext.drewL (h : Ext w.drew w') : Ext w w' := ⟨h.below.os, h.below.tape, h.below.output, h.below.size, h.below.block⟩
theorem Fr.refl (P : Nat → Prop) (w : World) : Fr P w w := ⟨rfl, rfl, rfl, Nat.le_refl _, fun _ _ _ => rfl⟩
theorem Fr.trans (h : Fr P a b) (k : Fr P b c) : Fr P a c :=
  ⟨k.os.trans h.os, k.tape.trans h.tape, k.output.trans h.output, Nat.le_trans h.size k.size, fun i hi hp => (k.block i (Nat.lt_of_lt_of_le hi h.size) hp).trans (h.block i hi hp)⟩
theorem Fr.drewN (h : Fr P a b) (n : Nat) : Fr P a (b.drewN n) := ⟨h.os, h.tape, h.output, h.size, h.block⟩
theorem Fr.setCell (h : Fr P a b) {p : Addr} (hp : ¬ P p.block ∨ a.heap.size ≤ p.block) (u : Value) : Fr P a (b.setCell p u) :=
  ⟨h.os, h.tape, h.output, by simpa [World.setCell] using h.size, fun k hk hP => (Below.heap_setCell b p u k (by
    rintro rfl
    rcases hp with hp | hp
    · exact hp hP
    · omega)).trans (h.block k hk hP)⟩
theorem Fr.mono (h : Fr P a b) (hp : ∀ k, P' k → P k) : Fr P' a b := ⟨h.os, h.tape, h.output, h.size, fun k hk hP => h.block k hk (hp k hP)⟩
/-- Blocks of P that were there when w began, and those that are new since w1. -/
def Sep (P : Nat → Prop) (lo hi : Nat) : Nat → Prop := fun k => (P k ∧ k < lo) ∨ hi ≤ k
end
def Quiet (w w' : World) : Prop := ∃ q, w' = w.drewN q
theorem Quiet.ext {w w' : World} (h : Quiet w w') : Ext w w' := by obtain ⟨q, rfl⟩ := h; exact (Ext.refl w).drewN q
theorem Quiet.refl (w : World) : Quiet w w := ⟨0, rfl⟩
theorem Quiet.drewN {w w' : World} (h : Quiet w w') (n : Nat) : Quiet w (w'.drewN n) := by obtain ⟨q, rfl⟩ := h; exact ⟨q + n, by rw [World.drewN_drewN]⟩
/-- A quiet callee's contract inside a quiet region. -/
theorem quiet_call {P : Program} {f : FuncId} {args : Array Value} {w : World} {a : Nat} {v : Value}
    (h : Calls P f args (w.drewN a) fun e w' => e = .returned v ∧ Quiet (w.drewN a) w') :
    Calls P f args (w.drewN a) fun e w'' => e = .returned v ∧ ∃ m, w'' = w.drewN m :=
  h.mono fun _ _ ⟨he, m, hm⟩ => ⟨he, a + m, by rw [hm, World.drewN_drewN]⟩
/-- What a later world says of older cells. -/
theorem Ext.cells {w w1 : World} (h : Ext w w1) : (∀ b o, b < w.heap.size → w1.cell? ⟨b, o, none⟩ = w.cell? ⟨b, o, none⟩) ∧ (∀ b o, b < w.heap.size → w1.frozen? ⟨b, o, none⟩ = w.frozen? ⟨b, o, none⟩) :=
  ⟨fun b o hb => h.below.cell (p := ⟨b, o, none⟩) hb, fun b o hb => h.below.frozen (p := ⟨b, o, none⟩) hb⟩

/-! ### Rows -/
/-- A slice (address, length, capacity) whose elements read as the cells xs, 'size' cells each; they lie in a block of P. -/
def Row (w : World) (P : Nat → Prop) (size : Nat) (A : Option Addr) (n c : Nat) (xs : List Value) : Prop :=
  xs.length = n * size ∧ n ≤ c ∧ c ≤ maxLen ∧
  (0 < n → ∃ b off, A = some ⟨b, off, none⟩ ∧ b < w.heap.size ∧ P b ∧ ∀ i v, xs[i]? = some v → w.cell? ⟨b, off + i, none⟩ = some v)
section
variable {P P' : Nat → Prop} {w w' : World} {size n c k : Nat} {A : Option Addr} {xs : List Value}
theorem Row.fr (h : Row w P size A n c xs) (e : Fr P w w') : Row w' P size A n c xs := by
  obtain ⟨h1, h2, h3, h4⟩ := h
  refine ⟨h1, h2, h3, fun hn => ?_⟩
  obtain ⟨b, off, rfl, hb, hp, hc⟩ := h4 hn
  exact ⟨b, off, rfl, Nat.lt_of_lt_of_le hb e.size, hp, fun i v hv => (World.cell?_of_block (w := w) (a := ⟨b, off + i, none⟩) (e.block b hb hp)).trans (hc i v hv)⟩
theorem Row.ext (h : Row w P size A n c xs) (e : Ext w w') : Row w' P size A n c xs := h.fr e.fr
theorem Row.mono (h : Row w P size A n c xs) (hp : ∀ k, P k → P' k) : Row w P' size A n c xs :=
  ⟨h.1, h.2.1, h.2.2.1, fun hn => let ⟨b, off, hA, hb, hP, hc⟩ := h.2.2.2 hn; ⟨b, off, hA, hb, hp b hP, hc⟩⟩
theorem Row.sep {hi : Nat} (h : Row w P size A n c xs) : Row w (Sep P w.heap.size hi) size A n c xs :=
  ⟨h.1, h.2.1, h.2.2.1, fun hn => let ⟨b, off, hA, hb, hP, hc⟩ := h.2.2.2 hn; ⟨b, off, hA, hb, Or.inl ⟨hP, hb⟩, hc⟩⟩
theorem Row.nil_ (w : World) (P : Nat → Prop) (size c : Nat) (A : Option Addr) (hc : c ≤ maxLen) : Row w P size A 0 c [] := ⟨by simp, Nat.zero_le _, hc, fun h => absurd h (by omega)⟩
theorem Row.le (h : Row w P size A n c xs) : n ≤ c ∧ c ≤ 9223372036854775807 := ⟨h.2.1, h.2.2.1⟩
theorem own_le {base : Nat} {e : TypeId} (h : w.ownsRow base e size (.slice A n c) n xs) : n ≤ c ∧ c ≤ maxLen := by
  rcases h.2 with ⟨hv, h0⟩ | ⟨g, cap, cur, hv, hb, hg, hnc, hcm, _⟩
  · simp only [Value.slice.injEq] at hv
    simp only [maxLen]
    omega
  · simp only [Value.slice.injEq] at hv
    omega
theorem Row.of_own {base : Nat} {e : TypeId} (h : w.ownsRow base e size (.slice A n c) n xs) (hP : ∀ k, base ≤ k → P k) : Row w P size A n c xs := by
  refine ⟨h.1, (own_le h).1, (own_le h).2, fun hn => ?_⟩
  obtain ⟨g, cap, hv, hbg, hlt⟩ := h.form hn
  simp only [Value.slice.injEq] at hv
  obtain ⟨rfl, _, rfl⟩ := hv
  refine ⟨g, 0, rfl, hlt, hP _ hbg, fun i v hi => ?_⟩
  have := h.cells (g := g) rfl i v hi
  rw [Nat.zero_add]
  simpa [Addr.add_lit] using this
theorem Row.take (h : Row w P size A n c xs) (hk : k ≤ n) : Row w P size A k c (xs.take (k * size)) := by
  obtain ⟨h1, h2, h3, h4⟩ := h
  refine ⟨?_, by omega, h3, fun hn => ?_⟩
  · rw [List.length_take, h1]; exact Nat.min_eq_left (Nat.mul_le_mul_right _ hk)
  · obtain ⟨b, off, rfl, hb, hp, hc⟩ := h4 (by omega)
    refine ⟨b, off, rfl, hb, hp, fun i v hv => hc i v ?_⟩
    rw [List.getElem?_take] at hv
    split at hv
    · exact hv
    · cases hv
theorem Row.drop (h : Row w P size A n c xs) (hk : k ≤ n) :
    Row w P size (if c = k then A else A.map (·.add (k * size))) (n - k) (c - k) (xs.drop (k * size)) := by
  obtain ⟨h1, h2, h3, h4⟩ := h
  refine ⟨by rw [List.length_drop, h1, Nat.sub_mul], by omega, by omega, fun hn => ?_⟩
  obtain ⟨b, off, rfl, hb, hp, hc⟩ := h4 (by omega)
  rw [if_neg (by omega)]
  refine ⟨b, off + k * size, by simp [Addr.add_lit], hb, hp, fun i v hv => ?_⟩
  rw [Nat.add_assoc]
  exact hc _ v (by rw [← hv, List.getElem?_drop])
end

/-! ### Bytes -/
def u8s (l : List UInt8) : List Value := l.map fun b => .int .u8 (b.toNat : Int)
theorem u8s_length (l : List UInt8) : (u8s l).length = l.length := by simp [u8s]
theorem u8s_append (l r : List UInt8) : u8s l ++ u8s r = u8s (l ++ r) := by simp [u8s]
theorem u8s_take (l : List UInt8) (k : Nat) : (u8s l).take k = u8s (l.take k) := by simp [u8s, List.map_take]
theorem u8s_drop (l : List UInt8) (k : Nat) : (u8s l).drop k = u8s (l.drop k) := by simp [u8s, List.map_drop]
theorem u8s_one (l : List UInt8) : ∀ u ∈ u8s l, u.oneCell' = true := by
  intro u hu; obtain ⟨_, _, rfl⟩ := List.mem_map.1 hu; rfl
/-- A []byte that reads as l. -/
def BV (w : World) (P : Nat → Prop) (A : Option Addr) (n c : Nat) (l : List UInt8) : Prop := Row w P 1 A n c (u8s l)
section
variable {P P' : Nat → Prop} {w w' : World} {n c k : Nat} {A : Option Addr} {l r : List UInt8}
theorem BV.fr (h : BV w P A n c l) (e : Fr P w w') : BV w' P A n c l := Row.fr h e
theorem BV.ext (h : BV w P A n c l) (e : Ext w w') : BV w' P A n c l := Row.ext h e
theorem BV.mono (h : BV w P A n c l) (hp : ∀ k, P k → P' k) : BV w P' A n c l := Row.mono h hp
theorem BV.sep {hi : Nat} (h : BV w P A n c l) : BV w (Sep P w.heap.size hi) A n c l := Row.sep h
theorem BV.nil_ (w : World) (P : Nat → Prop) : BV w P none 0 0 [] := Row.nil_ w P 1 0 none (by simp [maxLen])
theorem BV.len (h : BV w P A n c l) : l.length = n := by simpa [u8s] using h.1
theorem BV.le (h : BV w P A n c l) : n ≤ c ∧ c ≤ 9223372036854775807 := ⟨h.2.1, h.2.2.1⟩
theorem BV.at_ (h : BV w P A n c l) (hk : k < n) :
    ∃ b off, A = some ⟨b, off, none⟩ ∧ ∃ hl : k < l.length, w.cell? ⟨b, off + k, none⟩ = some (.int .u8 (l[k].toNat : Int)) := by
  obtain ⟨b, off, rfl, _, _, hc⟩ := h.2.2.2 (by omega)
  have hl : k < l.length := by rw [h.len]; exact hk
  exact ⟨b, off, rfl, hl, hc k _ (by simp [u8s, hl])⟩
theorem BV.take (h : BV w P A n c l) (hk : k ≤ n) : BV w P A k c (l.take k) := by
  have := Row.take h hk
  rwa [Nat.mul_one, u8s_take] at this
theorem BV.of_drop {A' : Option Addr} {n' c' : Nat} (h : Row w P 1 A' n' c' ((u8s l).drop (k * 1))) : BV w P A' n' c' (l.drop k) := by
  rwa [u8s_drop, Nat.mul_one] at h
theorem BV.of_take {A' : Option Addr} {n' c' : Nat} (h : Row w P 1 A' n' c' ((u8s l).take (k * 1))) : BV w P A' n' c' (l.take k) := by
  rwa [u8s_take, Nat.mul_one] at h
end
/-- A fresh []byte: the call owns it. -/
def OB (w : World) (base : Nat) (e : TypeId) (A : Option Addr) (n c : Nat) (l : List UInt8) : Prop := w.ownsRow base e 1 (.slice A n c) n (u8s l)
section
variable {P : Nat → Prop} {w w' : World} {base e n c k : Nat} {A : Option Addr} {l : List UInt8}
theorem OB.bv (h : OB w base e A n c l) (hP : ∀ k, base ≤ k → P k) : BV w P A n c l := Row.of_own h hP
theorem OB.len (h : OB w base e A n c l) : l.length = n := by simpa [u8s] using h.1
theorem OB.le (h : OB w base e A n c l) : n ≤ c ∧ c ≤ 9223372036854775807 := own_le h
theorem OB.mono {base' : Nat} (h : OB w base e A n c l) (hb : base' ≤ base) : OB w base' e A n c l := World.ownsRow.mono h hb
theorem OB.nil_ (w : World) (base : Nat) (e : TypeId) : OB w base e none 0 0 [] := World.ownsRow_nil _ _ _ _
theorem own_ext {size : Nat} {v : Value} {xs : List Value} (h : w.ownsRow base e size v n xs) (x : Ext w w') : w'.ownsRow base e size v n xs := by
  refine ⟨h.1, ?_⟩
  rcases h.2 with h2 | ⟨g, cap, cur, hv, hb, hg, r⟩
  · exact Or.inl h2
  · exact Or.inr ⟨g, cap, cur, hv, hb, (x.below.block g (Array.getElem?_eq_some_iff.1 hg).1).trans hg, r⟩
theorem OB.ext (h : OB w base e A n c l) (x : Ext w w') : OB w' base e A n c l := own_ext h x
end

/-! ### Lists of byte strings -/
def Each (w : World) (P : Nat → Prop) (vs : List Value) (ls : List (List UInt8)) : Prop :=
  vs.length = ls.length ∧ ∀ (i : Nat) (l : List UInt8), ls[i]? = some l → ∃ A n c, vs[i]? = some (Value.slice A n c) ∧ BV w P A n c l
/-- A [][]byte that reads as ls. -/
def BL (w : World) (P : Nat → Prop) (A : Option Addr) (n c : Nat) (ls : List (List UInt8)) : Prop := ∃ vs, Row w P 1 A n c vs ∧ Each w P vs ls
section
variable {P P' : Nat → Prop} {w w' : World} {n c k : Nat} {A : Option Addr} {ls : List (List UInt8)} {vs : List Value}
theorem Each.fr (h : Each w P vs ls) (e : Fr P w w') : Each w' P vs ls :=
  ⟨h.1, fun i l hl => let ⟨A, n, c, hv, hb⟩ := h.2 i l hl; ⟨A, n, c, hv, hb.fr e⟩⟩
theorem Each.mono (h : Each w P vs ls) (hp : ∀ k, P k → P' k) : Each w P' vs ls :=
  ⟨h.1, fun i l hl => let ⟨A, n, c, hv, hb⟩ := h.2 i l hl; ⟨A, n, c, hv, hb.mono hp⟩⟩
theorem Each.sep {hi : Nat} (h : Each w P vs ls) : Each w (Sep P w.heap.size hi) vs ls :=
  ⟨h.1, fun i l hl => let ⟨A, n, c, hv, hb⟩ := h.2 i l hl; ⟨A, n, c, hv, hb.sep⟩⟩
theorem Each.set {i : Nat} {B : Option Addr} {m d : Nat} {l : List UInt8} (h : Each w P vs ls) (hb : BV w P B m d l) : Each w P (vs.set i (.slice B m d)) (ls.set i l) := by
  refine ⟨by simp [h.1], fun j x hj => ?_⟩
  rw [List.getElem?_set] at hj ⊢
  by_cases hij : i = j
  · subst hij
    rw [if_pos rfl] at hj ⊢
    have hlen := h.1
    split at hj
    · cases hj
      rw [if_pos (by omega)]
      exact ⟨B, m, d, rfl, hb⟩
    · cases hj
  · rw [if_neg hij] at hj ⊢
    exact h.2 j x hj
theorem Each.snoc {B : Option Addr} {m d : Nat} {l : List UInt8} (h : Each w P vs ls) (hb : BV w P B m d l) : Each w P (vs ++ [.slice B m d]) (ls ++ [l]) := by
  refine ⟨by simp [h.1], fun j x hj => ?_⟩
  have hlen := h.1
  rw [List.getElem?_append] at hj ⊢
  by_cases hlt : j < ls.length
  · rw [if_pos hlt] at hj
    rw [if_pos (by omega)]
    exact h.2 j x hj
  · rw [if_neg hlt] at hj
    rw [if_neg (by omega), hlen]
    cases hh : j - ls.length with
    | zero => rw [hh] at hj; simp at hj; subst hj; exact ⟨B, m, d, rfl, hb⟩
    | succ q => rw [hh] at hj; simp at hj
theorem Each.nil_ : Each w P [] [] := ⟨rfl, fun i l h => by simp at h⟩
theorem BL.fr (h : BL w P A n c ls) (e : Fr P w w') : BL w' P A n c ls := let ⟨vs, hr, he⟩ := h; ⟨vs, hr.fr e, he.fr e⟩
theorem BL.ext (h : BL w P A n c ls) (e : Ext w w') : BL w' P A n c ls := h.fr e.fr
theorem BL.mono (h : BL w P A n c ls) (hp : ∀ k, P k → P' k) : BL w P' A n c ls := let ⟨vs, hr, he⟩ := h; ⟨vs, hr.mono hp, he.mono hp⟩
theorem BL.sep {hi : Nat} (h : BL w P A n c ls) : BL w (Sep P w.heap.size hi) A n c ls := let ⟨vs, hr, he⟩ := h; ⟨vs, hr.sep, he.sep⟩
theorem BL.nil_ (w : World) (P : Nat → Prop) : BL w P none 0 0 [] := ⟨[], Row.nil_ w P 1 0 none (by simp [maxLen]), Each.nil_⟩
theorem BL.len (h : BL w P A n c ls) : ls.length = n := by obtain ⟨vs, hr, he⟩ := h; have h1 := hr.1; have h2 := he.1; omega
theorem BL.le (h : BL w P A n c ls) : n ≤ c ∧ c ≤ 9223372036854775807 := by obtain ⟨vs, hr, _⟩ := h; exact hr.le
theorem BL.at_ (h : BL w P A n c ls) (hk : k < n) :
    ∃ b off, A = some ⟨b, off, none⟩ ∧ ∃ hl : k < ls.length, ∃ A' n' c', w.cell? ⟨b, off + k, none⟩ = some (.slice A' n' c') ∧ BV w P A' n' c' ls[k] := by
  have hlen := h.len
  obtain ⟨vs, hr, he⟩ := h
  obtain ⟨b, off, rfl, _, _, hc⟩ := hr.2.2.2 (by omega)
  have hl : k < ls.length := by omega
  obtain ⟨A', n', c', hv, hb⟩ := he.2 k _ (List.getElem?_eq_getElem hl)
  exact ⟨b, off, rfl, hl, A', n', c', hc k _ hv, hb⟩
end

/-! ### Blocks that are known whole -/
def Blk (w : World) (g : Nat) (t : TypeId) (cs : Array Value) : Prop := w.heap[g]? = some (.cells cs t (0, 0))
section
variable {P : Nat → Prop} {w w' : World} {g : Nat} {t : TypeId} {cs : Array Value}
theorem Blk.lt (h : Blk w g t cs) : g < w.heap.size := by
  rcases Nat.lt_or_ge g w.heap.size with hlt | hge
  · exact hlt
  · unfold Blk at h; rw [Array.getElem?_eq_none hge] at h; cases h
theorem Blk.cell (h : Blk w g t cs) (i : Nat) : w.cell? ⟨g, i, none⟩ = cs[i]? := cell_of_row w g i cs t (0, 0) h
theorem Blk.free (h : Blk w g t cs) : ∀ i, w.frozen? ⟨g, i, none⟩ = false := by
  intro i
  unfold Blk at h
  simp [World.frozen?, h]
theorem Blk.new (w : World) (t : TypeId) (cs : Array Value) : Blk (w.alloc (.cells cs t)) w.heap.size t cs := heap_alloc_new w _
theorem Blk.set_ (h : Blk w g t cs) (i : Nat) (u : Value) : Blk (w.setCell ⟨g, i, none⟩ u) g t (cs.setIfInBounds i u) := by
  unfold Blk at h ⊢
  simp [World.setCell, Array.getElem?_modify, h]
theorem Blk.ext (h : Blk w g t cs) (e : Ext w w') : Blk w' g t cs := (e.below.block g h.lt).trans h
theorem Blk.fr (h : Blk w g t cs) (e : Fr P w w') (hg : P g) : Blk w' g t cs := (e.block g h.lt hg).trans h
theorem Blk.c3 {a0 a1 a2 : Value} (h : Blk w g t #[a0, a1, a2]) : w.cell? ⟨g, 0, none⟩ = some a0 ∧ w.cell? ⟨g, 1, none⟩ = some a1 ∧ w.cell? ⟨g, 2, none⟩ = some a2 := ⟨h.cell 0, h.cell 1, h.cell 2⟩
end

/-! ### Operations: laws for the walk -/
section
variable {P : Program} {ops : Array Oper} {rest : List Oper} {o : Oper} {a : Act} {Q : Exit → Act → World → Prop} {S : Nat → Prop}

/-- 's[lo:]' -/
theorem wpList_cut_lo (w : World) (hgd : Region.wanted o (yielded ops a.tmps) = true) (x lo : Operand) (t : TypeId) (ho : o.op = .slice t x (some lo) none none)
    (e : TypeId) (i : TypeInfo) (size : Nat) (ht : P.underlying t = some (.slice e)) (hi : P.info? e = some i) (hsize : i.size = size)
    (A : Option Addr) (n c : Nat) (xs : List Value) (hx : a.eval x = .slice A n c) (hr : Row w S size A n c xs) (k : Nat) (kd : IntKind) (hlo : a.eval lo = .int kd k) (hk : k ≤ n)
    (h : ∀ A', Row w S size A' (n - k) (c - k) (xs.drop (k * size)) → wpList P ops Q rest (a.put o.dst (.slice A' (n - k) (c - k))) w) : wpList P ops Q (o :: rest) a w := by
  refine BigFrame.wpList_want hgd fun K hK => ?_
  have hel : P.elem t = e := by simp [Program.elem, ht]
  have hat := fun (x : Value) (lo hi mx : Option Value) => run_sliceAt_slice (P := P) w t x lo hi mx (by rw [hel]; exact ht)
  have hrun := run_slice_l (P := P) w t A n c (by rw [hel]; exact ht) kd k (by omega) (by omega)
  have hs : (sizeOf (P.elem t)).run P w = .ok size w := by simp [sizeOf, typeInfo, hel, hi, hsize]
  unfold Oper.wp execOp
  simp only [ho, hx, hlo, Option.map_some, Option.map_none, Sem.run_bind, hat, hrun, hs, Result.andThen_ok, Sem.run_pure, sliced, Int.toNat_natCast]
  exact hK _ _ (h _ (hr.drop hk))

/-- 's[:hi]', the bound within the length -/
theorem wpList_cut_hi (w : World) (hgd : Region.wanted o (yielded ops a.tmps) = true) (x hi' : Operand) (t : TypeId) (ho : o.op = .slice t x none (some hi') none)
    (e : TypeId) (i : TypeInfo) (size : Nat) (ht : P.underlying t = some (.slice e)) (hi : P.info? e = some i) (hsize : i.size = size)
    (A : Option Addr) (n c : Nat) (xs : List Value) (hx : a.eval x = .slice A n c) (hr : Row w S size A n c xs) (k : Nat) (kd : IntKind) (hhi : a.eval hi' = .int kd k) (hk : k ≤ n)
    (h : Row w S size A k c (xs.take (k * size)) → wpList P ops Q rest (a.put o.dst (.slice A k c)) w) : wpList P ops Q (o :: rest) a w := by
  refine BigFrame.wpList_want hgd fun K hK => ?_
  have hel : P.elem t = e := by simp [Program.elem, ht]
  have hat := fun (x : Value) (lo hi mx : Option Value) => run_sliceAt_slice (P := P) w t x lo hi mx (by rw [hel]; exact ht)
  have hrun := run_slice_h (P := P) w t A n c (by rw [hel]; exact ht) kd k (by omega) (by have := hr.le; omega)
  have hs : (sizeOf (P.elem t)).run P w = .ok size w := by simp [sizeOf, typeInfo, hel, hi, hsize]
  have e0 : (if c = 0 then A else A.map (·.add (0 * size))) = A := by
    split
    · rfl
    · cases A with
      | none => rfl
      | some p => simp [Addr.add]
  unfold Oper.wp execOp
  simp only [ho, hx, hhi, Option.map_some, Option.map_none, Sem.run_bind, hat, hrun, hs, Result.andThen_ok, Sem.run_pure, sliced, Int.toNat_natCast, e0, Nat.sub_zero]
  exact hK _ _ (h (hr.take hk))

/-- 'append(x, y...)', x the call's own, y whatever -/
theorem run_app (w : World) (base : Nat) (t ty e : TypeId) (i : TypeInfo) (z : Value) (size bytes : Nat) (ht : P.underlying t = some (.slice e)) (hi : P.info? e = some i) (hz : i.zero = some z)
    (hsize : i.size = size) (hby : i.bytes = bytes) (hzs : z.cells.size = size) (hsz : 0 < size)
    (B : Option Addr) (n sc : Nat) (xs : List Value) (hown : w.ownsRow base e size (.slice B n sc) n xs)
    (A : Option Addr) (m c : Nat) (news : List Value) (hr : Row w S size A m c news) (h1 : ∀ u ∈ news, u.oneCell' = true)
    (hbytes : (n + m) * bytes ≤ 140737488355328) (hpos : 0 < bytes) (hbase : base ≤ w.heap.size) :
    ∃ B' sc' w', (Builtin.append_ #[t, t] ty #[.slice B n sc, .slice A m c]).run P w = .ok (.slice B' (n + m) sc') w' ∧ w'.ownsRow base e size (.slice B' (n + m) sc') (n + m) (xs ++ news) ∧
      w.grownBy w' (Value.ownBlock (.slice B n sc)) ∧ (Value.ownBlock (.slice B' (n + m) sc') = Value.ownBlock (.slice B n sc) ∨ Value.ownBlock (.slice B' (n + m) sc') = some w.heap.size) := by
  have h63 : n + m ≤ maxLen := by
    have : n + m ≤ (n + m) * bytes := Nat.le_mul_of_pos_right _ hpos
    simp only [maxLen]; omega
  have key : ∃ v' w', (Builtin.append_ #[t, t] ty #[.slice B n sc, .slice A m c]).run P w = .ok v' w' ∧ w'.ownsRow base e size v' (n + m) (xs ++ news) ∧
      w.grownBy w' (Value.ownBlock (.slice B n sc)) ∧ (v'.ownBlock = Value.ownBlock (.slice B n sc) ∨ v'.ownBlock = some w.heap.size) := by
    by_cases hm : m = 0
    · subst hm
      have hn : news = [] := List.eq_nil_of_length_eq_zero (by simpa using hr.1)
      subst hn
      refine ⟨.slice B n sc, w, ?_, by simpa using hown, World.grownBy.refl w _, .inl rfl⟩
      rcases hown.2 with ⟨hv, rfl⟩ | ⟨g, cap, cur, hv, _, _, hnc, _⟩
      · rw [hv]
        cases A <;> simp [Builtin.append_, run_underlying ht, sizeOf, typeInfo, hi, Builtin.lenOf, Builtin.firstCells, loadCells, loadCellsFrom]
      · rw [hv]
        cases A <;> simp [Builtin.append_, run_underlying ht, sizeOf, typeInfo, hi, Builtin.lenOf, Builtin.firstCells, hnc, storeCells, loadCells, loadCellsFrom]
    · obtain ⟨b, off, rfl, _, _, hc⟩ := hr.2.2.2 (by omega)
      obtain ⟨v', w', hrun, h2, h3, _, h5⟩ := run_append_own_at (P := P) w base t ty e i z size bytes ht hi hz hsize hby hzs hsz (.slice B n sc) n xs hown ⟨b, off, none⟩ m c news hr.1
        (fun j u hu => by rw [Addr.add_lit]; exact hc j u hu) h1 h63 hbytes hbase
      exact ⟨v', w', hrun, h2, h3, h5⟩
  obtain ⟨v', w', hrun, h2, h3, h5⟩ := key
  have hform : ∃ B' sc', v' = .slice B' (n + m) sc' := by
    rcases h2.2 with ⟨hv, h0⟩ | ⟨g, cap, cur, hv, _⟩
    · exact ⟨none, 0, by rw [hv, h0]⟩
    · exact ⟨_, _, hv⟩
  obtain ⟨B', sc', rfl⟩ := hform
  exact ⟨B', sc', w', hrun, h2, h3, h5⟩

theorem wp_app (w : World) {K : Act → World → Prop} (s x : Operand) (t : TypeId)
    (ho : o.op = .call { callee := .builtin .append, args := #[s, x], argTypes := #[t, t] })
    (base : Nat) (e : TypeId) (i : TypeInfo) (z : Value) (size bytes : Nat) (ht : P.underlying t = some (.slice e)) (hi : P.info? e = some i) (hz : i.zero = some z)
    (hsize : i.size = size) (hby : i.bytes = bytes) (hzs : z.cells.size = size) (hsz : 0 < size)
    (B : Option Addr) (n sc : Nat) (xs : List Value) (hs : a.eval s = .slice B n sc) (hown : w.ownsRow base e size (.slice B n sc) n xs)
    (A : Option Addr) (m c : Nat) (news : List Value) (hx : a.eval x = .slice A m c) (hr : Row w S size A m c news) (h1 : ∀ u ∈ news, u.oneCell' = true)
    (hbytes : (n + m) * bytes ≤ 140737488355328) (hpos : 0 < bytes) (hbase : base ≤ w.heap.size)
    (h : ∀ B' sc' w', w'.ownsRow base e size (.slice B' (n + m) sc') (n + m) (xs ++ news) → w.grownBy w' (Value.ownBlock (.slice B n sc)) →
      (Value.ownBlock (.slice B' (n + m) sc') = Value.ownBlock (.slice B n sc) ∨ Value.ownBlock (.slice B' (n + m) sc') = some w.heap.size) → K (a.put o.dst (.slice B' (n + m) sc')) w') :
    o.wp P a w K Q := by
  obtain ⟨B', sc', w', hrun, h2, h3, h4⟩ := run_app (P := P) w base t o.type e i z size bytes ht hi hz hsize hby hzs hsz B n sc xs hown A m c news hr h1 hbytes hpos hbase
  unfold Oper.wp execOp
  simp only [ho, resolve, invoke, builtin, Sem.run_bind, Sem.run_pure, Result.andThen_ok, List.map_toArray, List.map_cons, List.map_nil, hs, hx, hrun]
  exact h B' sc' w' h2 h3 h4

theorem own_row_base {w : World} {base e size n c : Nat} {A : Option Addr} {xs : List Value} (h : w.ownsRow base e size (.slice A n c) n xs) : ∀ k, Value.ownBlock (.slice A n c) = some k → base ≤ k :=
  fun k hk => (h.lt k hk).1
def iMin (x y : Int) : Int := min x y
theorem run_min_nm (w : World) (ts : Array TypeId) (t : TypeId) (k k' : IntKind) (x y : Int) : (Builtin.min_ ts t #[.int k x, .int k' y]).run P w = .ok (.int k (iMin x y)) w := by
  have e : (if y < x then y else x) = iMin x y := by unfold iMin; split <;> omega
  rw [← e]
  simp [Builtin.min_, Builtin.min2]
theorem wp_forget {w : World} {c : Code} (R : World → Prop) (hR : R w) (h : ∀ w', R w' → c.wp P Q a w') : c.wp P Q a w := h w hR
/-- 'make([]T, n)' -/
theorem wpList_mk {w : World} (hg : o.guard = none) (l c : Operand) (t : TypeId) (hop : o.op = Op.makeSlice t l c)
    (e : TypeId) (z : Value) (size bytes : Nat) (hinf : (P.info? e).map (fun i => (i.zero, i.size, i.bytes)) = some (some z, size, bytes)) (h1 : P.underlying t = some (.slice e))
    (kl kc : IntKind) (n : Nat) (hl : a.eval l = .int kl n) (hc : a.eval c = .int kc n) (b2 : bytes * n ≤ 281474976710656) (b3 : n ≤ 9223372036854775807)
    (hK : ∀ g w', w.heap.size ≤ g → g < w'.heap.size → w'.ownsRow w.heap.size e size (.slice (some ⟨g, 0, none⟩) n n) n (madeCells z.cells (n * size)).toList → Ext w w' → wpList P ops Q rest (a.put o.dst (.slice (some ⟨g, 0, none⟩) n n)) w') :
    wpList P ops Q (o :: rest) a w := by
  obtain ⟨i, hi, hz0, hz1, hz2⟩ := info_parts hinf
  subst hz2
  exact wpList_make_full w hg l c t hop w.heap.size e i z size h1 hi hz0 hz1 kl kc n n n hl hc rfl rfl b2 (by simpa [maxLen] using b3) (Nat.le_refl _)
    fun w' r1 r2 => hK _ w' (Nat.le_refl _) ((r1.lt w.heap.size rfl).2) r1 ((Ext.refl w).grown r2 (fun k hk => by cases hk))
/-- bytes onto a row of the call's own (made since w0) -/
theorem wpList_appB {w0 w : World} (hgd : Region.wanted o (yielded ops a.tmps) = true) (s x : Operand) (t : TypeId)
    (ho : o.op = .call { callee := .builtin .append, args := #[s, x], argTypes := #[t, t] })
    (e : TypeId) (hinf : (P.info? e).map (fun i => (i.zero, i.size, i.bytes)) = some (some (.int .u8 0), 1, 1)) (ht : P.underlying t = some (.slice e))
    (B : Option Addr) (n sc : Nat) (l : List UInt8) (hs : a.eval s = .slice B n sc) (hown : OB w w0.heap.size e B n sc l)
    (A : Option Addr) (m c : Nat) (r : List UInt8) (hx : a.eval x = .slice A m c) (hr : BV w S A m c r)
    (hbytes : n + m ≤ 140737488355328) (hE : Ext w0 w)
    (h : ∀ B' sc' w', OB w' w0.heap.size e B' (n + m) sc' (l ++ r) → Ext w0 w' → wpList P ops Q rest (a.put o.dst (.slice B' (n + m) sc')) w') :
    wpList P ops Q (o :: rest) a w := by
  obtain ⟨i, hi, hz0, hz1, hz2⟩ := info_parts hinf
  exact BigFrame.wpList_want hgd fun K hK => wp_app w s x t ho w0.heap.size e i _ 1 1 ht hi hz0 hz1 hz2 rfl (by decide) B n sc (u8s l) hs hown A m c (u8s r) hx hr (u8s_one r) (by omega) (by decide) hE.size
    fun B' sc' w' h1 h2 _ => hK _ _ (h B' sc' w' (by rw [u8s_append] at h1; exact h1) (hE.grown h2 (own_row_base hown)))
end
end Go.Proofs.YtnbgieccindpnaaDoor
