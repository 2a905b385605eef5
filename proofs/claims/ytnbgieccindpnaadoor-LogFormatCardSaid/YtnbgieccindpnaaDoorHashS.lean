/- SHA-256 in plain words: lists of bytes and 32-bit words. No program. -/
import Derived.Test.YtnbgieccindpnaaDoorLib
import Derived.Laws.Bits64
import Derived.IntWalk
namespace Go.Proofs.YtnbgieccindpnaaDoor
set_option linter.all false
set_option maxRecDepth 20000
open Go.RowKit
/-- a word rotated to the right -/
def rr (x : UInt32) (n : Nat) : UInt32 := (x >>> UInt32.ofNat n) ||| (x <<< UInt32.ofNat (32 - n))
def word4 (a b c d : UInt8) : UInt32 := a.toUInt32 <<< 24 ||| b.toUInt32 <<< 16 ||| c.toUInt32 <<< 8 ||| d.toUInt32
def gb (l : List UInt8) (i : Nat) : UInt8 := l.getD i 0
def gw (l : List UInt32) (i : Nat) : UInt32 := l.getD i 0
def wordS (b : List UInt8) (t : Nat) : UInt32 := word4 (gb b (4 * t)) (gb b (4 * t + 1)) (gb b (4 * t + 2)) (gb b (4 * t + 3))
def sg0 (x : UInt32) : UInt32 := (rr x 7 ^^^ rr x 18) ^^^ (x >>> 3)
def sg1 (x : UInt32) : UInt32 := (rr x 17 ^^^ rr x 19) ^^^ (x >>> 10)
/-- one step of the schedule -/
def schedStep (b : List UInt8) (w : List UInt32) (t : Nat) : List UInt32 :=
  w.set t (if t < 16 then wordS b t else ((sg1 (gw w (t - 2)) + gw w (t - 7)) + sg0 (gw w (t - 15))) + gw w (t - 16))
def schedS (b : List UInt8) : Nat → List UInt32
  | 0 => List.replicate 64 0
  | t + 1 => schedStep b (schedS b t) t
theorem schedS_len (b : List UInt8) (t : Nat) : (schedS b t).length = 64 := by
  induction t with
  | zero => simp [schedS]
  | succ t ih => simp [schedS, schedStep, ih]
structure S8 where
  a : UInt32
  b : UInt32
  c : UInt32
  d : UInt32
  e : UInt32
  f : UInt32
  g : UInt32
  h : UInt32
def S8.l (s : S8) : List UInt32 := [s.a, s.b, s.c, s.d, s.e, s.f, s.g, s.h]
def t1S (s : S8) (k w : UInt32) : UInt32 := (((s.h + ((rr s.e 6 ^^^ rr s.e 11) ^^^ rr s.e 25)) + ((s.e &&& s.f) ^^^ (~~~ s.e &&& s.g))) + k) + w
def t2S (s : S8) : UInt32 := ((rr s.a 2 ^^^ rr s.a 13) ^^^ rr s.a 22) + (((s.a &&& s.b) ^^^ (s.a &&& s.c)) ^^^ (s.b &&& s.c))
def roundS (s : S8) (k w : UInt32) : S8 := ⟨t1S s k w + t2S s, s.a, s.b, s.c, s.d + t1S s k w, s.e, s.f, s.g⟩
def consts : List UInt32 := [
    0x428a2f98, 0x71374491, 0xb5c0fbcf, 0xe9b5dba5, 0x3956c25b, 0x59f111f1, 0x923f82a4, 0xab1c5ed5,
    0xd807aa98, 0x12835b01, 0x243185be, 0x550c7dc3, 0x72be5d74, 0x80deb1fe, 0x9bdc06a7, 0xc19bf174,
    0xe49b69c1, 0xefbe4786, 0x0fc19dc6, 0x240ca1cc, 0x2de92c6f, 0x4a7484aa, 0x5cb0a9dc, 0x76f988da,
    0x983e5152, 0xa831c66d, 0xb00327c8, 0xbf597fc7, 0xc6e00bf3, 0xd5a79147, 0x06ca6351, 0x14292967,
    0x27b70a85, 0x2e1b2138, 0x4d2c6dfc, 0x53380d13, 0x650a7354, 0x766a0abb, 0x81c2c92e, 0x92722c85,
    0xa2bfe8a1, 0xa81a664b, 0xc24b8b70, 0xc76c51a3, 0xd192e819, 0xd6990624, 0xf40e3585, 0x106aa070,
    0x19a4c116, 0x1e376c08, 0x2748774c, 0x34b0bcb5, 0x391c0cb3, 0x4ed8aa4a, 0x5b9cca4f, 0x682e6ff3,
    0x748f82ee, 0x78a5636f, 0x84c87814, 0x8cc70208, 0x90befffa, 0xa4506ceb, 0xbef9a3f7, 0xc67178f2]
theorem consts_len : consts.length = 64 := rfl
def roundsS (w : List UInt32) (s : S8) : Nat → S8
  | 0 => s
  | t + 1 => roundS (roundsS w s t) (gw consts t) (gw w t)
def addS (s t : S8) : S8 := ⟨s.a + t.a, s.b + t.b, s.c + t.c, s.d + t.d, s.e + t.e, s.f + t.f, s.g + t.g, s.h + t.h⟩
/-- a block added to the state -/
def blockS (s : S8) (b : List UInt8) : S8 := addS s (roundsS (schedS b 64) s 64)
def iv256 : S8 := ⟨0x6a09e667, 0xbb67ae85, 0x3c6ef372, 0xa54ff53a, 0x510e527f, 0x9b05688c, 0x1f83d9ab, 0x5be0cd19⟩
/-- so many blocks added -/
def blocksS (x : List UInt8) (s : S8) : Nat → S8
  | 0 => s
  | k + 1 => blockS (blocksS x s k) ((x.drop (64 * k)).take 64)
/-- the number of zeros of the padding -/
def padN (n : Nat) : Nat := (119 - n % 64) % 64
def be8 (v : Nat) : Nat → List UInt8
  | 0 => []
  | k + 1 => UInt8.ofNat (v / 256 ^ k % 256) :: be8 v k
def padS (b : List UInt8) : List UInt8 := (b ++ [128]) ++ List.replicate (padN b.length) 0 ++ be8 (b.length * 8) 8
def bytes4 (w : UInt32) : List UInt8 := [UInt8.ofNat (w.toNat / 16777216 % 256), UInt8.ofNat (w.toNat / 65536 % 256), UInt8.ofNat (w.toNat / 256 % 256), UInt8.ofNat (w.toNat % 256)]
def bytesS : List UInt32 → List UInt8
  | [] => []
  | w :: r => bytes4 w ++ bytesS r
def sha256S (b : List UInt8) : List UInt8 := bytesS (blocksS (padS b) iv256 ((padS b).length / 64)).l
theorem be8_len (v k : Nat) : (be8 v k).length = k := by induction k with
  | zero => rfl
  | succ k ih => simp [be8, ih]
theorem bytesS_len (l : List UInt32) : (bytesS l).length = 4 * l.length := by
  induction l with
  | nil => rfl
  | cons x r ih => simp [bytesS, bytes4, ih]; omega
theorem sha256S_len (b : List UInt8) : (sha256S b).length = 32 := by unfold sha256S; rw [bytesS_len]; rfl
theorem padS_len (b : List UInt8) : (padS b).length = b.length + 9 + padN b.length := by
  unfold padS; simp only [List.length_append, List.length_replicate, be8_len, List.length_cons, List.length_nil]; omega
theorem padS_mod (b : List UInt8) : (padS b).length % 64 = 0 ∧ (padS b).length ≤ b.length + 72 := by
  rw [padS_len]; unfold padN; omega
theorem bytesS_app (a b : List UInt32) : bytesS (a ++ b) = bytesS a ++ bytesS b := by
  induction a with
  | nil => rfl
  | cons x r ih => simp [bytesS, ih]
/-! operations on words, as the walk writes them -/
theorem u32_lt (x : UInt32) : (x.toNat : Int) < 4294967296 := by have := x.toNat_lt; omega
theorem w32 (n : Int) : IntKind.u32.wrap n = n % 4294967296 := by simp [IntKind.wrap, IntKind.bits, IntKind.signed]
theorem bits_u32 (a b : UInt32) : bits .or .u32 (a.toNat : Int) (b.toNat : Int) = ((a ||| b).toNat : Int) ∧ bits .xor .u32 (a.toNat : Int) (b.toNat : Int) = ((a ^^^ b).toNat : Int) ∧ bits .and .u32 (a.toNat : Int) (b.toNat : Int) = ((a &&& b).toNat : Int) := by
  have h1 : ∀ x : UInt32, (BitVec.ofInt 32 (x.toNat : Int)).toNat = x.toNat := by
    intro x
    rw [BitVec.toNat_ofInt]
    have := x.toNat_lt
    omega
  refine ⟨?_, ?_, ?_⟩
  · show IntKind.u32.wrap ((BitVec.ofInt 32 (a.toNat : Int) ||| BitVec.ofInt 32 (b.toNat : Int)).toNat : Int) = _
    rw [BitVec.toNat_or, h1, h1, w32, UInt32.toNat_or]
    have : a.toNat ||| b.toNat < 2 ^ 32 := Nat.or_lt_two_pow (by have := a.toNat_lt; omega) (by have := b.toNat_lt; omega)
    omega
  · show IntKind.u32.wrap ((BitVec.ofInt 32 (a.toNat : Int) ^^^ BitVec.ofInt 32 (b.toNat : Int)).toNat : Int) = _
    rw [BitVec.toNat_xor, h1, h1, w32, UInt32.toNat_xor]
    have : a.toNat ^^^ b.toNat < 2 ^ 32 := Nat.xor_lt_two_pow (by have := a.toNat_lt; omega) (by have := b.toNat_lt; omega)
    omega
  · show IntKind.u32.wrap ((BitVec.ofInt 32 (a.toNat : Int) &&& BitVec.ofInt 32 (b.toNat : Int)).toNat : Int) = _
    rw [BitVec.toNat_and, h1, h1, w32, UInt32.toNat_and]
    have : a.toNat &&& b.toNat ≤ a.toNat := Nat.and_le_left
    have := a.toNat_lt
    omega
theorem add_u32 (a b : UInt32) : IntKind.u32.wrap ((a.toNat : Int) + (b.toNat : Int)) = ((a + b).toNat : Int) := by
  rw [w32, UInt32.toNat_add]; omega
theorem shr_u32 (a : UInt32) (n : Nat) (h : n < 32) : (a.toNat : Int) / 2 ^ n = ((a >>> UInt32.ofNat n).toNat : Int) := by
  rw [UInt32.toNat_shiftRight, UInt32.toNat_ofNat']
  have e : n % 2 ^ 32 % 32 = n := by omega
  rw [e, Nat.shiftRight_eq_div_pow]
  simp
theorem shl_u32 (a : UInt32) (n : Nat) (h : n < 32) : IntKind.u32.wrap ((a.toNat : Int) * 2 ^ n) = ((a <<< UInt32.ofNat n).toNat : Int) := by
  rw [w32, UInt32.toNat_shiftLeft, UInt32.toNat_ofNat']
  have e : n % 2 ^ 32 % 32 = n := by omega
  rw [e, Nat.shiftLeft_eq]
  simp
end Go.Proofs.YtnbgieccindpnaaDoor
