/- WireTrip: what is written is read. No program. -/
import Derived.Test.YtbdiodibeiohlaaWireF
namespace Go.Proofs.Ytbdiodibeiohlaa
set_option linter.all false
open Go.RowKit
/-- the pairs of a size and a number that are written -/
def encP : List (Nat × Int) → List UInt8
  | [] => []
  | (s, v) :: r => beS v s ++ encP r
def wantP : List (Nat × Int) → List Int
  | [] => []
  | (s, v) :: r => (s : Int) :: v :: wantP r
def encB : List (List UInt8) → List UInt8
  | [] => []
  | l :: r => (beS (l.length : Nat) 2 ++ l) ++ encB r
def GoodP (p : Nat × Int) : Prop := 1 ≤ p.1 ∧ p.1 ≤ 8 ∧ 0 ≤ p.2 ∧ p.2 < 4611686018427387904 ∧ p.2 < (256 : Int) ^ p.1
theorem encP_app (a b : List (Nat × Int)) : encP (a ++ b) = encP a ++ encP b := by
  induction a with
  | nil => rfl
  | cons x r ih => obtain ⟨s, v⟩ := x; simp [encP, ih]
theorem wantP_app (a b : List (Nat × Int)) : wantP (a ++ b) = wantP a ++ wantP b := by
  induction a with
  | nil => rfl
  | cons x r ih => obtain ⟨s, v⟩ := x; simp [wantP, ih]
theorem encB_app (a b : List (List UInt8)) : encB (a ++ b) = encB a ++ encB b := by
  induction a with
  | nil => rfl
  | cons x r ih => simp [encB, ih]
theorem wantP_len (a : List (Nat × Int)) : (wantP a).length = 2 * a.length := by
  induction a with
  | nil => rfl
  | cons x r ih => obtain ⟨s, v⟩ := x; simp [wantP, ih]; omega
theorem wantP_at (a : List (Nat × Int)) (k : Nat) (h : k < a.length) : (wantP a)[2 * k]? = some ((a[k].1 : Nat) : Int) ∧ (wantP a)[2 * k + 1]? = some (a[k].2) := by
  induction a generalizing k with
  | nil => simp at h
  | cons x r ih =>
    obtain ⟨s, v⟩ := x
    cases k with
    | zero => simp [wantP]
    | succ k =>
      have := ih k (by simpa using h)
      simpa [wantP, Nat.mul_add, Nat.add_right_comm] using this
theorem encP_len (a : List (Nat × Int)) (h : ∀ p ∈ a, GoodP p) : (encP a).length ≤ 8 * a.length := by
  induction a with
  | nil => simp [encP]
  | cons x r ih =>
    obtain ⟨s, v⟩ := x
    have h1 := ih (fun p hp => h p (List.mem_cons_of_mem _ hp))
    have h2 := h (s, v) List.mem_cons_self
    simp only [encP, List.length_append, beS_len, List.length_cons]
    have := h2.2.1
    simp only at this
    omega
theorem beV_beS (n : Nat) (s : Nat) (h : n < 18446744073709551616) : beV (beS (n : Nat) s) = n % 256 ^ s := by
  have key : ∀ (s a : Nat), (beS (n : Nat) s).foldl (fun n (x : UInt8) => n * 256 + x.toNat) a = a * 256 ^ s + n % 256 ^ s := by
    intro s
    induction s with
    | zero => intro a; simp [beS, Nat.mod_one]
    | succ s ih =>
      intro a
      have hb : (byteAt (n : Nat) s).toNat = n / 256 ^ s % 256 := by
        unfold byteAt
        rw [UInt8.toNat_ofNat']
        have : ((n : Int) % 18446744073709551616).toNat = n := by omega
        rw [this]
        omega
      rw [beS, List.foldl_cons, ih, hb]
      have e := Nat.mod_mul (a := 256 ^ s) (b := 256) (x := n)
      rw [Nat.pow_succ, e, Nat.add_mul, Nat.mul_assoc, Nat.mul_comm 256 (256 ^ s), Nat.mul_comm (256 ^ s) (n / 256 ^ s % 256)]
      omega
  have := key s 0
  simpa [beV] using this
theorem rd_at (pre x post : List UInt8) : ((pre ++ (x ++ post)).drop pre.length).take x.length = x := by simp
/-- a number is read as it was written -/
theorem trip_uint (pre post : List UInt8) (s : Nat) (v : Int) (h : GoodP (s, v)) : rdUint ⟨pre ++ (beS v s ++ post), pre.length, 0⟩ s = (⟨pre ++ (beS v s ++ post), (pre ++ beS v s).length, 0⟩, v) := by
  obtain ⟨h1, h2, h3, h4, h5⟩ := h
  simp only at h1 h2 h3 h4 h5
  obtain ⟨n, rfl⟩ := Int.eq_ofNat_of_zero_le h3
  have hv : beV (beS (n : Nat) s) = n := by
    rw [beV_beS _ _ (by omega)]
    refine Nat.mod_eq_of_lt ?_
    have e : ((256 ^ s : Nat) : Int) = (256 : Int) ^ s := by simp
    omega
  have hr := rd_at pre (beS (n : Nat) s) post
  rw [beS_len] at hr
  unfold rdUint
  rw [if_neg (by simp), if_neg (by omega), if_neg (by simp only [Int.toNat_natCast, List.length_append, beS_len]; omega)]
  simp only [Int.toNat_natCast]
  rw [hr, hv, if_neg (by unfold tooBig; simp only [decide_eq_true_eq]; omega), List.length_append, beS_len]
/-- a blob is read as it was written -/
theorem trip_blob (pre post l : List UInt8) (h : l.length ≤ 200) : rdBlob ⟨pre ++ ((beS (l.length : Nat) 2 ++ l) ++ post), pre.length, 0⟩ 200 = (⟨pre ++ ((beS (l.length : Nat) 2 ++ l) ++ post), (pre ++ (beS (l.length : Nat) 2 ++ l)).length, 0⟩, l) := by
  have hv : beV (beS (l.length : Nat) 2) = l.length := by
    rw [beV_beS _ _ (by omega)]
    exact Nat.mod_eq_of_lt (by omega)
  have hr := rd_at pre (beS (l.length : Nat) 2) (l ++ post)
  rw [beS_len, ← List.append_assoc (beS _ 2)] at hr
  have hr2 : ((pre ++ ((beS (l.length : Nat) 2 ++ l) ++ post)).drop (pre.length + 2)).take l.length = l := by
    have e : pre ++ ((beS (l.length : Nat) 2 ++ l) ++ post) = (pre ++ beS (l.length : Nat) 2) ++ (l ++ post) := by simp
    have := rd_at (pre ++ beS (l.length : Nat) 2) l post
    rw [List.length_append, beS_len] at this
    rw [e]
    exact this
  unfold rdBlob
  rw [if_neg (by simp), if_neg (by simp only [List.length_append, beS_len]; omega)]
  simp only
  rw [hr, hv, if_neg (by omega), if_neg (by simp only [List.length_append, beS_len]; omega), hr2]
  simp only [List.length_append, beS_len]
theorem bits_and_i64 (x m : Int) (h0 : 0 ≤ m) (h1 : m < 9223372036854775808) : 0 ≤ bits .and .i64 x m ∧ bits .and .i64 x m ≤ m := by
  obtain ⟨k, rfl⟩ := Int.eq_ofNat_of_zero_le h0
  have h2 : (BitVec.ofInt 64 (k : Int)).toNat = k := by
    rw [BitVec.toNat_ofInt]
    omega
  have e : bits .and .i64 x (k : Int) = IntKind.i64.wrap ((BitVec.ofInt 64 x &&& BitVec.ofInt 64 (k : Int)).toNat : Int) := rfl
  rw [e, BitVec.toNat_and, h2]
  have h3 : (BitVec.ofInt 64 x).toNat &&& k ≤ k := Nat.and_le_right
  have h4 : IntKind.i64.wrap ((((BitVec.ofInt 64 x).toNat &&& k : Nat)) : Int) = ((((BitVec.ofInt 64 x).toNat &&& k : Nat)) : Int) := IntWalk.i64_in _ (by omega)
  rw [h4]
  omega
theorem trip_uint_at (ps : List (Nat × Int)) (ls : List (List UInt8)) (hg : ∀ p ∈ ps, GoodP p) (a : Nat) (h : a < ps.length) :
    rdUint ⟨encP ps ++ encB ls, (encP (ps.take a)).length, 0⟩ (ps[a].1 : Nat) = (⟨encP ps ++ encB ls, (encP (ps.take (a + 1))).length, 0⟩, ps[a].2) := by
  have e1 : ps = ps.take a ++ (ps[a] :: ps.drop (a + 1)) := by rw [← List.drop_eq_getElem_cons h, List.take_append_drop]
  have e2 : ps.take (a + 1) = ps.take a ++ [ps[a]] := List.take_succ_eq_append_getElem h
  have hgd := hg ps[a] (List.getElem_mem h)
  generalize hp : ps[a] = p at *
  obtain ⟨s, v⟩ := p
  have e3 : encP ps ++ encB ls = encP (ps.take a) ++ (beS v s ++ (encP (ps.drop (a + 1)) ++ encB ls)) := by
    conv => lhs; rw [e1]
    rw [encP_app]; simp [encP]
  have e4 : encP (ps.take (a + 1)) = encP (ps.take a) ++ beS v s := by rw [e2, encP_app]; simp [encP]
  rw [e3, e4]
  exact trip_uint _ _ s v hgd
theorem trip_blob_at (ps : List (Nat × Int)) (ls : List (List UInt8)) (hg : ∀ l ∈ ls, l.length ≤ 200) (a : Nat) (l : List UInt8) (hl : ls[a]? = some l) :
    rdBlob ⟨encP ps ++ encB ls, (encP ps ++ encB (ls.take a)).length, 0⟩ 200 = (⟨encP ps ++ encB ls, (encP ps ++ encB (ls.take (a + 1))).length, 0⟩, l) := by
  obtain ⟨h, hp⟩ := List.getElem?_eq_some_iff.1 hl
  have e1 : ls = ls.take a ++ (l :: ls.drop (a + 1)) := by rw [← hp, ← List.drop_eq_getElem_cons h, List.take_append_drop]
  have e2 : ls.take (a + 1) = ls.take a ++ [l] := by rw [List.take_succ_eq_append_getElem h, hp]
  have hgd := hg l (by rw [← hp]; exact List.getElem_mem h)
  have e3 : encP ps ++ encB ls = (encP ps ++ encB (ls.take a)) ++ ((beS (l.length : Nat) 2 ++ l) ++ encB (ls.drop (a + 1))) := by
    conv => lhs; rw [e1]
    rw [encB_app]; simp [encB]
  have e4 : encP ps ++ encB (ls.take (a + 1)) = (encP ps ++ encB (ls.take a)) ++ (beS (l.length : Nat) 2 ++ l) := by rw [e2, encB_app]; simp [encB]
  rw [e3, e4]
  exact trip_blob _ _ l hgd
theorem IV.cell {w : World} {P : Nat → Prop} {b off n c k : Nat} {l : List Int} {x : Int} (h : IV w P (some ⟨b, off, none⟩) n c l) (hx : l[k]? = some x) : w.cell? ⟨b, off + k, none⟩ = some (.int .i64 x) := by
  have hk := (List.getElem?_eq_some_iff.1 hx).1
  obtain ⟨b', off', e, _, _, hc⟩ := h.2.2.2 (by have := h.len; omega)
  injection e with e; injection e with e1 e2; subst e1; subst e2
  exact hc k _ (by simp [ints, hx])
end Go.Proofs.Ytbdiodibeiohlaa
