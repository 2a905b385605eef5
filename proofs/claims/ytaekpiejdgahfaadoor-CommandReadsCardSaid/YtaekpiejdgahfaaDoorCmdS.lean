/- Commands: what the byte forms are, in plain words. No program. -/
import Derived.Test.YtaekpiejdgahfaaDoorWireV
namespace Go.Proofs.YtaekpiejdgahfaaDoor
set_option linter.all false
open Go.RowKit
structure Auth where
  ses : Int
  nonce : List UInt8
  val : List UInt8
structure Req where
  code : Int
  hs : List Int
  us : List Auth
  is : List Int
  bs : List (List UInt8)
def zeroReq : Req := ⟨0, [], [], [], []⟩
/-- how many handles, authorizations, integers, blobs; and whether it is a command -/
structure Shp where
  h : Int
  a : Int
  i : Int
  b : Int
  ok : Bool
deriving DecidableEq
def noShp : Shp := ⟨0, 0, 0, 0, false⟩
def shapeRows : List Shp := [noShp, ⟨0, 0, 1, 0, true⟩, ⟨0, 0, 1, 0, true⟩, noShp, ⟨0, 0, 0, 0, true⟩, ⟨0, 0, 2, 0, true⟩, ⟨0, 0, 1, 2, true⟩, ⟨0, 0, 1, 1, true⟩, ⟨0, 0, 1, 0, true⟩,
  ⟨1, 1, 3, 3, true⟩, ⟨1, 1, 3, 3, true⟩, ⟨1, 1, 0, 2, true⟩, ⟨0, 0, 1, 0, true⟩, ⟨1, 1, 0, 0, true⟩, ⟨1, 1, 0, 1, true⟩, ⟨1, 1, 2, 1, true⟩,
  ⟨0, 0, 1, 0, true⟩, ⟨0, 0, 6, -1, true⟩, ⟨1, 1, 2, 1, true⟩, ⟨0, 0, 1, 3, true⟩, ⟨0, 0, 1, 0, true⟩,
  ⟨1, 1, 4, 2, true⟩, ⟨1, 1, 1, 0, true⟩, ⟨2, 1, 1, 1, true⟩, ⟨2, 1, 2, 0, true⟩, ⟨2, 1, 0, 0, true⟩, ⟨2, 1, 0, 1, true⟩, ⟨2, 1, 0, 1, true⟩, ⟨2, 1, 0, 0, true⟩, ⟨2, 1, 0, 0, true⟩,
  ⟨1, 1, 0, 1, true⟩, ⟨1, 1, 0, 0, true⟩, ⟨1, 1, 0, 0, true⟩, ⟨1, 1, 3, 0, true⟩]
def shapeS (code : Int) : Shp := if 0 ≤ code ∧ code < 34 then shapeRows.getD code.toNat noShp else noShp
/-- what is in the list of the program, in its order -/
def formsT : List (Int × Shp) := [(1, ⟨0, 0, 1, 0, true⟩), (2, ⟨0, 0, 1, 0, true⟩), (4, ⟨0, 0, 0, 0, true⟩), (5, ⟨0, 0, 2, 0, true⟩), (6, ⟨0, 0, 1, 2, true⟩), (7, ⟨0, 0, 1, 1, true⟩), (8, ⟨0, 0, 1, 0, true⟩), (9, ⟨1, 1, 3, 3, true⟩), (10, ⟨1, 1, 3, 3, true⟩), (11, ⟨1, 1, 0, 2, true⟩), (12, ⟨0, 0, 1, 0, true⟩), (13, ⟨1, 1, 0, 0, true⟩), (14, ⟨1, 1, 0, 1, true⟩), (15, ⟨1, 1, 2, 1, true⟩), (16, ⟨0, 0, 1, 0, true⟩), (17, ⟨0, 0, 6, -1, true⟩), (18, ⟨1, 1, 2, 1, true⟩), (19, ⟨0, 0, 1, 3, true⟩), (20, ⟨0, 0, 1, 0, true⟩), (21, ⟨1, 1, 4, 2, true⟩), (22, ⟨1, 1, 1, 0, true⟩), (23, ⟨2, 1, 1, 1, true⟩), (24, ⟨2, 1, 2, 0, true⟩), (25, ⟨2, 1, 0, 0, true⟩), (26, ⟨2, 1, 0, 1, true⟩), (27, ⟨2, 1, 0, 1, true⟩), (28, ⟨2, 1, 0, 0, true⟩), (29, ⟨2, 1, 0, 0, true⟩), (30, ⟨1, 1, 0, 1, true⟩), (31, ⟨1, 1, 0, 0, true⟩), (32, ⟨1, 1, 0, 0, true⟩), (33, ⟨1, 1, 3, 0, true⟩)]
def fT (k : Nat) : Int × Shp := formsT.getD k (0, noShp)
theorem form_found : ∀ i < 32, shapeS (fT i).1 = (fT i).2 := by decide
theorem form_none (code : Int) (h : ∀ j < 32, (fT j).1 ≠ code) : shapeS code = noShp := by
  unfold shapeS
  split
  · rename_i hc
    obtain ⟨k, rfl⟩ := Int.eq_ofNat_of_zero_le hc.1
    rw [Int.toNat_natCast]
    have key : ∀ k < 34, (∀ j < 32, (fT j).1 ≠ ((k : Nat) : Int)) → shapeRows.getD k noShp = noShp := by decide
    exact key k (by omega) h
  · rfl
theorem form_range (i : Nat) (h : i < 32) : (fT i).2.ok = true := by
  have key : ∀ i < 32, (fT i).2.ok = true := by decide
  exact key i h
def fitsS (want n : Int) : Bool := decide (n = want) || (decide (want = -1) && (decide (0 ≤ n) && decide (n ≤ 8)))
def wordS (n : Int) : Bool := decide (0 ≤ n) && decide (n ≤ 65535)
theorem shape_bounds (code : Int) : 0 ≤ (shapeS code).h ∧ (shapeS code).h ≤ 2 ∧ 0 ≤ (shapeS code).a ∧ (shapeS code).a ≤ 1 ∧ 0 ≤ (shapeS code).i ∧ (shapeS code).i ≤ 6 ∧ -1 ≤ (shapeS code).b ∧ (shapeS code).b ≤ 3 := by
  unfold shapeS
  split
  · rename_i h
    obtain ⟨k, rfl⟩ := Int.eq_ofNat_of_zero_le h.1
    rw [Int.toNat_natCast]
    have hk : k < 34 := by omega
    have key : ∀ k < 34, 0 ≤ (shapeRows.getD k noShp).h ∧ (shapeRows.getD k noShp).h ≤ 2 ∧ 0 ≤ (shapeRows.getD k noShp).a ∧ (shapeRows.getD k noShp).a ≤ 1 ∧ 0 ≤ (shapeRows.getD k noShp).i ∧ (shapeRows.getD k noShp).i ≤ 6 ∧ -1 ≤ (shapeRows.getD k noShp).b ∧ (shapeRows.getD k noShp).b ≤ 3 := by decide
    exact key k hk
  · exact by show (0:Int) ≤ 0 ∧ (0:Int) ≤ 2 ∧ (0:Int) ≤ 0 ∧ (0:Int) ≤ 1 ∧ (0:Int) ≤ 0 ∧ (0:Int) ≤ 6 ∧ (-1:Int) ≤ 0 ∧ (0:Int) ≤ 3; decide
/-! the byte form -/
def authS (b : List UInt8) (a : Auth) : List UInt8 := blobS (blobS (uintS b 2 a.ses) a.nonce) a.val
/-- what stands when the numbers, authorizations .. so far are written -/
def handsS (b : List UInt8) (hs : List Int) : List UInt8 := hs.foldl (fun b h => uintS b 2 h) b
def authsS (b : List UInt8) (l : List Auth) : List UInt8 := l.foldl authS b
def intsS (b : List UInt8) (l : List Int) : List UInt8 := l.foldl (fun b h => uintS b 8 h) b
def blobsS (b : List UInt8) (l : List (List UInt8)) : List UInt8 := l.foldl blobS b
def byteOf (n : Int) : UInt8 := UInt8.ofNat (n % 256).toNat
def headS (code : Int) : List UInt8 := [83, 87, 0, 0, byteOf code]
def bodyS (q : Req) : List UInt8 := blobsS (intsS (authsS (handsS (headS q.code) q.hs) q.us) q.is ++ [byteOf q.bs.length]) q.bs
def lenIn (b : List UInt8) : List UInt8 := (b.set 2 (byteAt b.length 1)).set 3 (byteAt b.length 0)
def formS (q : Req) : List UInt8 := lenIn (bodyS q)
theorem byteOf_int (n : Int) : IntKind.u8.wrap n = ((byteOf n).toNat : Int) := by
  unfold byteOf
  rw [UInt8.toNat_ofNat']
  have h0 : IntKind.u8.wrap n = n % 256 := by simp [IntKind.wrap, IntKind.bits, IntKind.signed]
  rw [h0]; omega
theorem byteAt0_int (n : Nat) (h : n < 4294967296) : IntKind.u8.wrap (n : Int) = ((byteAt n 0).toNat : Int) := by
  unfold byteAt
  rw [UInt8.toNat_ofNat']
  have h0 : IntKind.u8.wrap (n : Int) = (n : Int) % 256 := by simp [IntKind.wrap, IntKind.bits, IntKind.signed]
  rw [h0]; omega
theorem byteAt1_int (n : Nat) (h : n < 4294967296) : IntKind.u8.wrap ((n : Int) / 2 ^ 8) = ((byteAt n 1).toNat : Int) := by
  unfold byteAt
  rw [UInt8.toNat_ofNat']
  have h0 : IntKind.u8.wrap ((n : Int) / 2 ^ 8) = (n : Int) / 2 ^ 8 % 256 := by simp [IntKind.wrap, IntKind.bits, IntKind.signed]
  rw [h0]; omega
theorem uintS_two (n : Int) : uintS [] 2 n = [byteAt n 1, byteAt n 0] := by
  unfold uintS
  rw [if_pos (by omega)]
  rfl
theorem fold_take {α β : Type} (f : β → α → β) (b : β) (l : List α) (i : Nat) (x : α) (h : l[i]? = some x) : (l.take (i + 1)).foldl f b = f ((l.take i).foldl f b) x := by
  obtain ⟨hi, hx⟩ := List.getElem?_eq_some_iff.1 h
  rw [List.take_succ_eq_append_getElem hi, List.foldl_append, hx]; rfl
theorem fold_all {α β : Type} (f : β → α → β) (b : β) (l : List α) (i : Nat) (h : l.length = i) : (l.take i).foldl f b = l.foldl f b := by rw [List.take_of_length_le (by omega)]
/-! the error of a request -/
def argF (q : Req) (t : Shp) : Bool := decide ((q.hs.length : Int) = t.h) && (decide ((q.us.length : Int) = t.a) && (decide ((q.is.length : Int) = t.i) && fitsS t.b q.bs.length))
def authW (a : Auth) : Bool := wordS a.ses
def timeS (z : Int) : Bool := decide (0 ≤ z) && decide (z ≤ 1099511627776)
def argOk (q : Req) (t : Shp) : Bool := ((argF q t && q.hs.all wordS) && q.us.all authW) && q.is.all timeS
def authShort (a : Auth) : Bool := decide ((a.nonce.length : Int) ≤ 128) && decide ((a.val.length : Int) ≤ 128)
def blobShort (b : List UInt8) : Bool := decide ((b.length : Int) ≤ 1024)
def longS (q : Req) : Bool := !((q.us.all authShort && q.bs.all blobShort) && decide (((formS q).length : Int) ≤ 2048))
theorem all_take {α : Type} (p : α → Bool) (l : List α) (i : Nat) (x : α) (h : l[i]? = some x) : (l.take (i + 1)).all p = ((l.take i).all p && p x) := by
  obtain ⟨hi, hx⟩ := List.getElem?_eq_some_iff.1 h
  rw [List.take_succ_eq_append_getElem hi, List.all_append, hx]; simp
theorem all_all {α : Type} (p : α → Bool) (l : List α) (i : Nat) (h : l.length = i) : (l.take i).all p = l.all p := by rw [List.take_of_length_le (by omega)]
def checkS (q : Req) : Int := if (shapeS q.code).ok = false then 6 else if argOk q (shapeS q.code) = false then 1 else if longS q = true then 4 else 0
def encS (q : Req) : List UInt8 := if checkS q = 0 then formS q else []
/-! reading -/
def refuseS (r : Rd) (c : Bool) (e : Int) : Rd := if r.e = 0 ∧ c = true then { r with e := e } else r
def handU (r : Rd) : Nat → Rd × List Int
  | 0 => (r, [])
  | k + 1 => ((rdUint (handU r k).1 2).1, (handU r k).2 ++ [(rdUint (handU r k).1 2).2])
def authR (r : Rd) : Rd × Auth := ((rdBlob (rdBlob (rdUint r 2).1 128).1 128).1, ⟨(rdUint r 2).2, (rdBlob (rdUint r 2).1 128).2, (rdBlob (rdBlob (rdUint r 2).1 128).1 128).2⟩)
def authU (r : Rd) : Nat → Rd × List Auth
  | 0 => (r, [])
  | k + 1 => ((authR (authU r k).1).1, (authU r k).2 ++ [(authR (authU r k).1).2])
def intR (r : Rd) : Rd × Int := (refuseS (rdUint r 8).1 (decide (1099511627776 < (rdUint r 8).2)) 1, (rdUint r 8).2)
def intU (r : Rd) : Nat → Rd × List Int
  | 0 => (r, [])
  | k + 1 => ((intR (intU r k).1).1, (intU r k).2 ++ [(intR (intU r k).1).2])
def blobU (r : Rd) (most : Int) : Nat → Rd × List (List UInt8)
  | 0 => (r, [])
  | k + 1 => ((rdBlob (blobU r most k).1 most).1, (blobU r most k).2 ++ [(rdBlob (blobU r most k).1 most).2])
end Go.Proofs.YtaekpiejdgahfaaDoor
