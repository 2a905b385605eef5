/- What the byte forms are, in plain words: no program. -/
import Derived.Test.YtnbgieccindpnaaDoorLib3
import Derived.Laws.Bits64
import Derived.IntWalk
namespace Go.Proofs.YtnbgieccindpnaaDoor
open Go.RowKit
set_option linter.all false
set_option maxRecDepth 20000
/-- byte number i of a number, in 64 bits -/
def byteAt (n : Int) (i : Nat) : UInt8 := UInt8.ofNat ((n % 18446744073709551616).toNat / 256 ^ i % 256)
/-- the lowest bytes, the highest first -/
def beS (n : Int) : Nat → List UInt8
  | 0 => []
  | k + 1 => byteAt n k :: beS n k
def uintS (b : List UInt8) (size n : Int) : List UInt8 := if 1 ≤ size ∧ size ≤ 8 then b ++ beS n size.toNat else b
def blobS (b x : List UInt8) : List UInt8 := uintS b 2 (min x.length 65535 : Nat) ++ x.take 65535
theorem beS_len (n : Int) (k : Nat) : (beS n k).length = k := by induction k with
  | zero => rfl
  | succ k ih => simp [beS, ih]
/-- what stands when so many are left -/
def upS (b : List UInt8) (n : Int) (size left : Nat) : List UInt8 := b ++ (beS n size).take (size - left)
theorem upS_step (b : List UInt8) (n : Int) (size j : Nat) (h : j < size) : upS b n size j = upS b n size (j + 1) ++ [byteAt n j] := by
  unfold upS
  have key : ∀ (s j : Nat), j < s → (beS n s).take (s - j) = (beS n s).take (s - (j + 1)) ++ [byteAt n j] := by
    intro s
    induction s with
    | zero => intro j h; omega
    | succ s ih =>
      intro j h
      by_cases hj : j = s
      · subst hj; simp [beS]
      · have := ih j (by omega)
        rw [show s + 1 - j = (s - j) + 1 by omega, show s + 1 - (j + 1) = (s - (j + 1)) + 1 by omega]
        simp [beS, this]
  rw [key size j h, List.append_assoc]
theorem upS_all (b : List UInt8) (n : Int) (size : Nat) : upS b n size 0 = b ++ beS n size := by
  unfold upS; rw [List.take_of_length_le]; rw [beS_len]; omega
theorem upS_none (b : List UInt8) (n : Int) (size : Nat) : upS b n size size = b := by simp [upS]
theorem upS_len (b : List UInt8) (n : Int) (size left : Nat) : (upS b n size left).length ≤ b.length + size := by
  unfold upS; rw [List.length_append, List.length_take, beS_len]; omega
theorem byteAt_int (n : Int) (j : Nat) : IntKind.u64.wrap n / 2 ^ (8 * j) % 256 = ((byteAt n j).toNat : Int) := by
  have h0 : 0 ≤ n % 18446744073709551616 := Int.emod_nonneg _ (by omega)
  obtain ⟨q, hq⟩ := Int.eq_ofNat_of_zero_le h0
  have h1 : IntKind.u64.wrap n = (q : Int) := by rw [← hq]; simp [IntKind.wrap, IntKind.bits, IntKind.signed]
  unfold byteAt
  have e : (2 : Int) ^ (8 * j) = ((256 ^ j : Nat) : Int) := by
    have e1 : (2 : Nat) ^ (8 * j) = 256 ^ j := by rw [Nat.pow_mul]
    rw [← e1]; simp
  rw [h1, hq, Int.toNat_natCast, UInt8.toNat_ofNat', e]
  omega
theorem ret_int {k : IntKind} {a b : Int} (h : a = b) : Ending.returned (.int k a) = .returned (.int k b) := by rw [h]
/-! readers -/
structure Rd where
  b : List UInt8
  at_ : Nat
  e : Int
def beV (l : List UInt8) : Nat := l.foldl (fun n x => n * 256 + x.toNat) 0
def tooBig (n : Nat) : Bool := decide (9223372036854775807 < n)
def rdUint (r : Rd) (size : Int) : Rd × Int :=
  if r.e ≠ 0 then (r, 0) else if ¬ (1 ≤ size ∧ size ≤ 8) then ({ r with e := 1 }, 0) else if r.b.length - r.at_ < size.toNat then ({ r with e := 2 }, 0)
  else if tooBig (beV ((r.b.drop r.at_).take size.toNat)) = true then ({ r with e := 4 }, 0) else ({ r with at_ := r.at_ + size.toNat }, (beV ((r.b.drop r.at_).take size.toNat) : Nat))
def rdRaw (r : Rd) (n : Int) : Rd × List UInt8 :=
  if r.e ≠ 0 then (r, []) else if n < 0 then ({ r with e := 1 }, []) else if ((r.b.length - r.at_ : Nat) : Int) < n then ({ r with e := 2 }, []) else ({ r with at_ := r.at_ + n.toNat }, (r.b.drop r.at_).take n.toNat)
def rdBlob (r : Rd) (most : Int) : Rd × List UInt8 :=
  if r.e ≠ 0 then (r, []) else if r.b.length - r.at_ < 2 then ({ r with e := 2 }, []) else if most < (beV ((r.b.drop r.at_).take 2) : Nat) then ({ r with e := 4 }, [])
  else if r.b.length - r.at_ < 2 + beV ((r.b.drop r.at_).take 2) then ({ r with e := 2 }, []) else ({ r with at_ := r.at_ + (2 + beV ((r.b.drop r.at_).take 2)) }, (r.b.drop (r.at_ + 2)).take (beV ((r.b.drop r.at_).take 2)))
def rdLeft (r : Rd) : Int := r.b.length - r.at_
def rdEnd (r : Rd) : Int := if r.e = 0 ∧ 0 < rdLeft r then 3 else r.e
theorem beV_snoc (l : List UInt8) (x : UInt8) : beV (l ++ [x]) = beV l * 256 + x.toNat := by simp [beV]
theorem beV_take (l : List UInt8) (k : Nat) (h : k < l.length) : beV (l.take (k + 1)) = beV (l.take k) * 256 + l[k].toNat := by
  rw [List.take_succ_eq_append_getElem h, beV_snoc]
theorem beV_lt (l : List UInt8) : beV l < 256 ^ l.length := by
  have key : ∀ (l : List UInt8) (a : Nat), l.foldl (fun n (x : UInt8) => n * 256 + x.toNat) a < (a + 1) * 256 ^ l.length := by
    intro l
    induction l with
    | nil => intro a; simp
    | cons x r ih =>
      intro a
      have h1 := ih (a * 256 + x.toNat)
      have h2 := x.toNat_lt
      rw [List.foldl_cons, List.length_cons, Nat.pow_succ]
      refine Nat.lt_of_lt_of_le h1 ?_
      calc (a * 256 + x.toNat + 1) * 256 ^ r.length ≤ ((a + 1) * 256) * 256 ^ r.length := Nat.mul_le_mul_right _ (by omega)
        _ = (a + 1) * (256 ^ r.length * 256) := by rw [Nat.mul_assoc, Nat.mul_comm 256]
  have := key l 0
  simpa [beV] using this
theorem bits_or_u64 (a b : Nat) (ha : a < 18446744073709551616) (hb : b < 18446744073709551616) : bits .or .u64 (a : Int) (b : Int) = ((a ||| b : Nat) : Int) := by
  have h1 : (BitVec.ofInt 64 (a : Int)).toNat = a := by
    rw [BitVec.toNat_ofInt]
    omega
  have h2 : (BitVec.ofInt 64 (b : Int)).toNat = b := by
    rw [BitVec.toNat_ofInt]
    omega
  show IntKind.u64.wrap ((BitVec.ofInt 64 (a : Int) ||| BitVec.ofInt 64 (b : Int)).toNat : Int) = _
  rw [BitVec.toNat_or, h1, h2, IntKind.wrap_u64]
  have : a ||| b < 2 ^ 64 := Nat.or_lt_two_pow (by omega) (by omega)
  omega
theorem orStep (v : Nat) (x : UInt8) (h : v < 256 ^ 7) : bits .or .u64 (IntKind.u64.wrap ((v : Int) * 256)) (IntKind.u64.wrap (x.toNat : Int)) = ((v * 256 + x.toNat : Nat) : Int) := by
  have hx := x.toNat_lt
  have h1 : IntKind.u64.wrap ((v : Int) * 256) = ((v * 256 : Nat) : Int) := by rw [IntKind.wrap_u64]; omega
  have h2 : IntKind.u64.wrap (x.toNat : Int) = ((x.toNat : Nat) : Int) := by rw [IntKind.wrap_u64]; omega
  rw [h1, h2, bits_or_u64 _ _ (by omega) (by omega)]
  have := Nat.shiftLeft_add_eq_or_of_lt (i := 8) (show x.toNat < 2 ^ 8 by omega) v
  rw [Nat.shiftLeft_eq] at this
  rw [this]
theorem beV_pow (l : List UInt8) (j : Nat) (h : j ≤ 7) : beV (l.take j) < 256 ^ 7 := by
  refine Nat.lt_of_lt_of_le (beV_lt _) (Nat.pow_le_pow_right (by omega) ?_)
  rw [List.length_take]; omega
theorem beV_step (l : List UInt8) (j : Nat) (h : j < l.length) (h7 : j ≤ 7) : bits .or .u64 (IntKind.u64.wrap ((beV (l.take j) : Nat) * 256 : Int)) (IntKind.u64.wrap (l[j].toNat : Int)) = (beV (l.take (j + 1)) : Nat) := by
  rw [orStep _ _ (beV_pow l j h7), beV_take l j h]
theorem bits_or_i64 (a b : Nat) (ha : a < 9223372036854775808) (hb : b < 9223372036854775808) : bits .or .i64 (a : Int) (b : Int) = ((a ||| b : Nat) : Int) := by
  have h1 : (BitVec.ofInt 64 (a : Int)).toNat = a := by
    rw [BitVec.toNat_ofInt]
    omega
  have h2 : (BitVec.ofInt 64 (b : Int)).toNat = b := by
    rw [BitVec.toNat_ofInt]
    omega
  show IntKind.i64.wrap ((BitVec.ofInt 64 (a : Int) ||| BitVec.ofInt 64 (b : Int)).toNat : Int) = _
  rw [BitVec.toNat_or, h1, h2]
  have : a ||| b < 2 ^ 63 := Nat.or_lt_two_pow (by omega) (by omega)
  exact IntWalk.i64_in _ (by omega)
theorem head2 (x y : UInt8) : bits BinOp.or IntKind.i64 (wrap64 (wrap64 (x.toNat : Int) * 256)) (wrap64 (y.toNat : Int)) = ((x.toNat * 256 + y.toNat : Nat) : Int) := by
  have hx := x.toNat_lt
  have hy := y.toNat_lt
  have h1 : wrap64 (x.toNat : Int) = ((x.toNat : Nat) : Int) := by unfold wrap64; omega
  have h2 : wrap64 (y.toNat : Int) = ((y.toNat : Nat) : Int) := by unfold wrap64; omega
  have h3 : wrap64 ((x.toNat : Int) * 256) = ((x.toNat * 256 : Nat) : Int) := by unfold wrap64; omega
  rw [h1, h3, h2, bits_or_i64 _ _ (by omega) (by omega)]
  have := Nat.shiftLeft_add_eq_or_of_lt (i := 8) (show y.toNat < 2 ^ 8 by omega) x.toNat
  rw [Nat.shiftLeft_eq] at this
  rw [this]
theorem beV_two (bs : List UInt8) (h0 : 0 < bs.length) (h1 : 1 < bs.length) (h : bs.length = 2) : beV bs = bs[0].toNat * 256 + bs[1].toNat := by
  match bs, h with
  | [a, b], _ => simp [beV]
theorem lit1v (w : World) (t : TypeId) (v : Int) (b : UInt8) (h : v = (b.toNat : Int)) : BV (w.alloc (.cells #[.int .u8 v] t)) (fun _ => True) (some ⟨w.heap.size, 0, none⟩) 1 1 [b] := by
  subst h
  refine Row.of_own (base := w.heap.size) (e := t) ?_ (fun _ _ => trivial)
  have h := World.ownsRow_lit (e := t) (size := 1) (base := w.heap.size) w #[.int .u8 (b.toNat : Int)] 1 (Nat.le_refl _) (by simp [maxLen]) (by simp)
  simpa [u8s] using h
end Go.Proofs.YtnbgieccindpnaaDoor
