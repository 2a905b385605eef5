/- Responses: their byte form in plain words; what is written is read. No program. -/
import Derived.Test.YtaekpiejdgahfaaDoorCmdI
import Derived.Test.YtaekpiejdgahfaaDoorCmdM
namespace Go.Proofs.YtaekpiejdgahfaaDoor
set_option linter.all false
open Go.RowKit
structure Rsp where
  err : Int
  is : List Int
  bs : List (List UInt8)
  ns : List (List UInt8)
def zeroR : Rsp := ⟨0, [], [], []⟩
def listS (b : List UInt8) (l : List (List UInt8)) : List UInt8 := blobsS (b ++ [byteOf l.length]) l
def respI (x : Rsp) : List UInt8 := intsS ([byteOf x.err] ++ [byteOf x.is.length]) x.is
def respS (x : Rsp) : List UInt8 := if x.err = 0 then [x.bs, x.ns].foldl listS (respI x) else [byteOf x.err]
structure SmallR (x : Rsp) : Prop where
  is : x.is.length ≤ 1000
  bs : x.bs.length ≤ 1000
  ns : x.ns.length ≤ 1000
  b : ∀ l ∈ x.bs, l.length ≤ 100000
  n : ∀ l ∈ x.ns, l.length ≤ 100000
/-! reading -/
def numU (r : Rd) : Nat → Rd × List Int
  | 0 => (r, [])
  | k + 1 => ((rdUint (numU r k).1 8).1, (numU r k).2 ++ [(rdUint (numU r k).1 8).2])
def listU (r : Rd) : Rd × List (List UInt8) := blobU (rdUint r 1).1 1024 (rdUint r 1).2.toNat
section
variable (l : List UInt8)
def rs1 : Rd × Int := rdUint ⟨l, 0, 0⟩ 1
def rs2 : Rd × Int := rdUint (rs1 l).1 1
def rs3 : Rd × List Int := numU (rs2 l).1 (rs2 l).2.toNat
def rs4 : Rd × List (List UInt8) := listU (rs3 l).1
def rs5 : Rd × List (List UInt8) := listU (rs4 l).1
def rsF : Rd := if (rs1 l).2 = 0 then (rs5 l).1 else (rs1 l).1
def rsX : Rsp := if (rs1 l).2 = 0 then ⟨0, (rs3 l).2, (rs4 l).2, (rs5 l).2⟩ else ⟨(rs1 l).2, [], [], []⟩
def rspE : Int := rdEnd (rsF l)
def rspQ : Rsp := if rspE l = 0 then rsX l else zeroR
end
theorem numU_stop {r : Rd} {j : Nat} : ∀ (k : Nat), j ≤ k → (numU r j).1.e ≠ 0 → (numU r k).1 = (numU r j).1
  | 0, h, _ => by obtain rfl : j = 0 := by omega
                  rfl
  | k + 1, h, he => by
    by_cases hj : j = k + 1
    · rw [hj]
    · have ih := numU_stop k (by omega) he
      show (rdUint (numU r k).1 8).1 = _
      rw [ih, rdUint_stuck he]
theorem numU_stuck {r : Rd} (h : r.e ≠ 0) (k : Nat) : (numU r k).1 = r := numU_stop (j := 0) k (Nat.zero_le _) h
theorem listU_stuck {r : Rd} (h : r.e ≠ 0) : (listU r).1 = r := by
  unfold listU
  rw [rdUint_stuck h]
  exact blobU_stuck _ h _
/-- an error in the first number is the last -/
theorem rsF_stuck {l : List UInt8} (h : (rs1 l).1.e ≠ 0) : rsF l = (rs1 l).1 := by
  have h2 : (rs2 l).1 = (rs1 l).1 := by unfold rs2; rw [rdUint_stuck h]
  have h3 : (rs3 l).1 = (rs1 l).1 := by unfold rs3; rw [h2, numU_stuck h]
  have h4 : (rs4 l).1 = (rs1 l).1 := by unfold rs4; rw [h3, listU_stuck h]
  have h5 : (rs5 l).1 = (rs1 l).1 := by unfold rs5; rw [h4, listU_stuck h]
  unfold rsF
  rw [h5]; split <;> rfl
theorem rspQ_zero {l : List UInt8} (h : rspE l ≠ 0) : rspQ l = zeroR := by unfold rspQ; rw [if_neg h]
theorem numU_at {r : Rd} {post : List UInt8} (hs : List Int) (hw : ∀ h ∈ hs, 0 ≤ h ∧ h ≤ 9223372036854775807) (h : At r (intsT hs ++ post)) : ∀ k, k ≤ hs.length → At (numU r k).1 (intsT (hs.drop k) ++ post) ∧ (numU r k).2 = hs.take k
  | 0, _ => ⟨by simpa [numU] using h, rfl⟩
  | k + 1, hk => by
    obtain ⟨ih, ih2⟩ := numU_at hs hw h k (by omega)
    have hx := hw hs[k] (List.getElem_mem _)
    obtain ⟨v, hv⟩ := Int.eq_ofNat_of_zero_le hx.1
    have hlt := hx.2
    rw [List.drop_eq_getElem_cons (show k < hs.length by omega)] at ih
    have e : intsT (hs[k] :: hs.drop (k + 1)) ++ post = beS ((v : Nat) : Int) 8 ++ (intsT (hs.drop (k + 1)) ++ post) := by rw [hv]; unfold intsT; rw [List.flatMap_cons, List.append_assoc]
    rw [e] at ih
    obtain ⟨r', h1, h2⟩ := rdUint_at v 8 (by decide) (by decide) (by omega) (by omega) ih
    have h1' : rdUint (numU r k).1 8 = (r', ((v : Nat) : Int)) := h1
    refine ⟨?_, ?_⟩
    · show At (rdUint (numU r k).1 8).1 _
      rw [h1']; exact h2
    · show (numU r k).2 ++ [(rdUint (numU r k).1 8).2] = _
      rw [h1', ih2, List.take_succ_eq_append_getElem (show k < hs.length by omega), hv]
theorem listU_at {r : Rd} {post : List UInt8} (ls : List (List UInt8)) (hn : ls.length ≤ 255) (hw : ∀ x ∈ ls, x.length ≤ 1024) (h : At r (beS ((ls.length : Nat) : Int) 1 ++ (blobsT ls ++ post))) : At (listU r).1 post ∧ (listU r).2 = ls := by
  obtain ⟨r1, h1, a1⟩ := rdUint_at ls.length 1 (by decide) (by decide) (by omega) (by omega) h
  have h1' : rdUint r 1 = (r1, ((ls.length : Nat) : Int)) := h1
  obtain ⟨a2, v2⟩ := blobU_at 1024 ls (fun x hx => by have := hw x hx; omega) a1 ls.length (Nat.le_refl _)
  rw [List.drop_length] at a2
  rw [List.take_length] at v2
  unfold listU
  rw [h1']
  exact ⟨a2, v2⟩
/-- A response as the statements make it. -/
structure GoodR (x : Rsp) : Prop where
  err : 0 ≤ x.err ∧ x.err < 256
  none : x.err ≠ 0 → x.is = [] ∧ x.bs = [] ∧ x.ns = []
  i : x.is.length ≤ 6
  b : x.bs.length ≤ 4
  n : x.ns.length ≤ 2
  iw : ∀ z ∈ x.is, 0 ≤ z ∧ z ≤ 9223372036854775807
  bw : ∀ l ∈ x.bs, l.length ≤ 300
  nw : ∀ l ∈ x.ns, l.length ≤ 60
theorem GoodR.small {x : Rsp} (h : GoodR x) : SmallR x := ⟨by have := h.i; omega, by have := h.b; omega, by have := h.n; omega, fun l hl => by have := h.bw l hl; omega, fun l hl => by have := h.nw l hl; omega⟩
theorem GoodR.form {x : Rsp} (h : GoodR x) (h0 : x.err = 0) : respS x = beS (((0 : Nat) : Nat) : Int) 1 ++ (beS ((x.is.length : Nat) : Int) 1 ++ (intsT x.is ++ (beS ((x.bs.length : Nat) : Int) 1 ++ (blobsT x.bs ++ (beS ((x.ns.length : Nat) : Int) 1 ++ (blobsT x.ns ++ [])))))) := by
  have hi := h.i
  have hb := h.b
  have hn := h.n
  unfold respS
  rw [if_pos h0]
  unfold respI
  simp only [List.foldl_cons, List.foldl_nil]
  unfold listS
  rw [blobsS_eq x.ns _ (fun l hl => by have := h.nw l hl; omega), blobsS_eq x.bs _ (fun l hl => by have := h.bw l hl; omega), intsS_eq, h0]
  rw [byteOf_be x.is.length (by omega), byteOf_be x.bs.length (by omega), byteOf_be x.ns.length (by omega)]
  rw [show [byteOf 0] = beS (((0 : Nat) : Nat) : Int) 1 from rfl]
  simp only [List.append_assoc, List.append_nil]
theorem rsp_trip {x : Rsp} (h : GoodR x) : rspE (respS x) = 0 ∧ rspQ (respS x) = x := by
  by_cases h0 : x.err = 0
  · have hA : At ⟨respS x, 0, 0⟩ _ := ⟨rfl, h.form h0⟩
    have hi := h.i
    have hb := h.b
    have hn := h.n
    obtain ⟨r1, h1, a1⟩ := rdUint_at 0 1 (by decide) (by decide) (by decide) (by decide) hA
    have e1 : rs1 (respS x) = (r1, 0) := h1
    obtain ⟨r2, h2, a2⟩ := rdUint_at x.is.length 1 (by decide) (by decide) (by omega) (by omega) a1
    have e2 : rs2 (respS x) = (r2, ((x.is.length : Nat) : Int)) := by unfold rs2; rw [e1]; exact h2
    obtain ⟨a3, v3⟩ := numU_at x.is h.iw a2 x.is.length (Nat.le_refl _)
    rw [List.drop_length] at a3
    rw [List.take_length] at v3
    have e3 : rs3 (respS x) = numU r2 x.is.length := by unfold rs3; rw [e2]; rfl
    obtain ⟨a4, v4⟩ := listU_at x.bs (by omega) (fun l hl => by have := h.bw l hl; omega) a3
    have e4 : rs4 (respS x) = listU (numU r2 x.is.length).1 := by unfold rs4; rw [e3]
    obtain ⟨a5, v5⟩ := listU_at x.ns (by omega) (fun l hl => by have := h.nw l hl; omega) a4
    have e5 : rs5 (respS x) = listU (listU (numU r2 x.is.length).1).1 := by unfold rs5; rw [e4]
    have hF : rsF (respS x) = (listU (listU (numU r2 x.is.length).1).1).1 := by unfold rsF; rw [e1, if_pos rfl, e5]
    have hE : rspE (respS x) = 0 := by
      unfold rspE
      rw [hF]
      have hl := a5.left
      have hle : rdLeft (listU (listU (numU r2 x.is.length).1).1).1 = ((listU (listU (numU r2 x.is.length).1).1).1.b.length : Int) - (listU (listU (numU r2 x.is.length).1).1).1.at_ := rfl
      have hl0 : (listU (listU (numU r2 x.is.length).1).1).1.b.length - (listU (listU (numU r2 x.is.length).1).1).1.at_ = 0 := hl
      unfold rdEnd
      rw [if_neg (fun hh => by rw [hle] at hh; omega)]
      exact a5.e
    refine ⟨hE, ?_⟩
    unfold rspQ rsX
    rw [if_pos hE, e1, if_pos rfl, e3, e4, e5, v3, v4, v5, ← h0]
  · obtain ⟨k, hk⟩ := Int.eq_ofNat_of_zero_le h.err.1
    have hk2 := h.err.2
    have hl : respS x = [byteOf x.err] := by unfold respS; rw [if_neg h0]
    have hb : (gb1 (respS x) 0).toNat = k := by
      rw [hl, hk]
      show (byteOf (k : Int)).toNat = k
      unfold byteOf
      rw [UInt8.toNat_ofNat']
      omega
    have hlen : (respS x).length = 1 := by rw [hl]; rfl
    have e1 : rs1 (respS x) = (⟨respS x, 1, 0⟩, x.err) := by
      unfold rs1
      rw [rd_one 0 (by omega), hb, hk]
    have hF : rsF (respS x) = ⟨respS x, 1, 0⟩ := by unfold rsF; rw [e1, if_neg h0]
    have hE : rspE (respS x) = 0 := by
      unfold rspE
      rw [hF]
      have hle : rdLeft ⟨respS x, 1, 0⟩ = ((respS x).length : Int) - (1 : Nat) := rfl
      unfold rdEnd
      rw [if_neg (fun hh => by rw [hle, hlen] at hh; have := hh.2; omega)]
    refine ⟨hE, ?_⟩
    obtain ⟨n1, n2, n3⟩ := h.none h0
    unfold rspQ rsX
    rw [if_pos hE, e1, if_neg h0, ← n1, ← n2]
    conv => rhs; rw [show x = ⟨x.err, x.is, x.bs, x.ns⟩ from rfl]
    rw [n3, n1, n2]
end Go.Proofs.YtaekpiejdgahfaaDoor
