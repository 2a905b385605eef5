/- Commands: what is read. No program. -/
import Derived.Test.YtaekpiejdgahfaaDoorCmdD1
namespace Go.Proofs.YtaekpiejdgahfaaDoor
set_option linter.all false
open Go.RowKit
section
variable (s : Shp) (r0 : Rd)
def stH : Rd × List Int := handU r0 s.h.toNat
def stU : Rd × List Auth := authU (stH s r0).1 s.a.toNat
def stI : Rd × List Int := intU (stU s r0).1 s.i.toNat
def stN : Rd × Int := rdUint (stI s r0).1 1
def stR : Rd := refuseS (stN s r0).1 (!fitsS s.b (stN s r0).2) 1
def stB : Rd × List (List UInt8) := blobU (stR s r0) 1024 (stN s r0).2.toNat
def decE : Int := rdEnd (stB s r0).1
def decQ (code : Int) : Req := if decE s r0 = 0 then ⟨code, (stH s r0).2, (stU s r0).2, (stI s r0).2, (stB s r0).2⟩ else zeroReq
end
theorem rdUint_stuck {r : Rd} (h : r.e ≠ 0) (k : Int) : rdUint r k = (r, 0) := by unfold rdUint; rw [if_pos h]
theorem rdBlob_stuck {r : Rd} (h : r.e ≠ 0) (k : Int) : rdBlob r k = (r, []) := by unfold rdBlob; rw [if_pos h]
theorem refuse_stuck {r : Rd} (h : r.e ≠ 0) (c : Bool) (e : Int) : refuseS r c e = r := by unfold refuseS; rw [if_neg (fun x => h x.1)]
theorem refuse_no {r : Rd} {c : Bool} (h : r.e ≠ 0 ∨ c = false) (e : Int) : refuseS r c e = r := by
  unfold refuseS
  rw [if_neg]
  rintro ⟨h1, h2⟩
  rcases h with h | h
  · exact h h1
  · rw [h] at h2; cases h2
theorem intR_stuck {r : Rd} (h : r.e ≠ 0) : (intR r).1 = r := by unfold intR; rw [rdUint_stuck h]; exact refuse_stuck h _ _
theorem intU_stuck {r : Rd} {j : Nat} : ∀ (k : Nat), j ≤ k → (intU r j).1.e ≠ 0 → (intU r k).1 = (intU r j).1
  | 0, h, _ => by obtain rfl : j = 0 := by omega
                  rfl
  | k + 1, h, he => by
    by_cases hj : j = k + 1
    · rw [hj]
    · have ih := intU_stuck k (by omega) he
      show (intR (intU r k).1).1 = _
      rw [ih]; exact intR_stuck he
theorem blobU_stuck {r : Rd} (most : Int) (h : r.e ≠ 0) : ∀ (k : Nat), (blobU r most k).1 = r
  | 0 => rfl
  | k + 1 => by show (rdBlob (blobU r most k).1 most).1 = r; rw [blobU_stuck most h k, rdBlob_stuck h]
theorem handU_stuck {r : Rd} (h : r.e ≠ 0) : ∀ (k : Nat), (handU r k).1 = r
  | 0 => rfl
  | k + 1 => by show (rdUint (handU r k).1 2).1 = r; rw [handU_stuck h k, rdUint_stuck h]
theorem authR_stuck {r : Rd} (h : r.e ≠ 0) : (authR r).1 = r := by unfold authR; rw [rdUint_stuck h]; simp only [rdBlob_stuck h]
theorem authU_stuck {r : Rd} (h : r.e ≠ 0) : ∀ (k : Nat), (authU r k).1 = r
  | 0 => rfl
  | k + 1 => by show (authR (authU r k).1).1 = r; rw [authU_stuck h k, authR_stuck h]
theorem end_stuck {r : Rd} (h : r.e ≠ 0) : rdEnd r = r.e := by unfold rdEnd; rw [if_neg (fun x => h x.1)]
theorem refuse_yes {r : Rd} (h : r.e = 0) (e : Int) : refuseS r true e = { r with e := e } := by unfold refuseS; rw [if_pos ⟨h, rfl⟩]
section
variable {s : Shp} {r0 : Rd}
theorem dec_after_i (h : (stI s r0).1.e ≠ 0) : decE s r0 = (stI s r0).1.e := by
  have hN : (stN s r0).1 = (stI s r0).1 := by unfold stN; rw [rdUint_stuck h]
  have hR : stR s r0 = (stI s r0).1 := by unfold stR; rw [hN]; exact refuse_stuck h _ _
  unfold decE stB
  rw [hR, blobU_stuck _ h, end_stuck h]
/-- a number that is too great -/
theorem early_i {i : Nat} (hi : i < s.i.toNat) (he : (rdUint (intU (stU s r0).1 i).1 8).1.e = 0) (hn : 1099511627776 < (rdUint (intU (stU s r0).1 i).1 8).2) : decE s r0 = 1 := by
  have h1 : (intU (stU s r0).1 (i + 1)).1 = { (rdUint (intU (stU s r0).1 i).1 8).1 with e := 1 } := by
    show (intR (intU (stU s r0).1 i).1).1 = _
    unfold intR
    simp only
    rw [decide_eq_true hn, refuse_yes he]
  have h2 : (intU (stU s r0).1 (i + 1)).1.e = 1 := by rw [h1]
  have h3 : (stI s r0).1 = (intU (stU s r0).1 (i + 1)).1 := intU_stuck _ (by omega) (by rw [h2]; decide)
  rw [dec_after_i (by rw [h3, h2]; decide), h3, h2]
/-- a wrong number of blobs -/
theorem early_n (he : (stN s r0).1.e = 0) (hf : fitsS s.b (stN s r0).2 = false) : decE s r0 = 1 := by
  have hR : stR s r0 = { (stN s r0).1 with e := 1 } := by unfold stR; rw [hf]; exact refuse_yes he 1
  unfold decE stB
  rw [hR, blobU_stuck _ (by show (1 : Int) ≠ 0; decide), end_stuck (by show (1 : Int) ≠ 0; decide)]
theorem intR_ok {r : Rd} (h : (rdUint r 8).1.e ≠ 0 ∨ ¬ 1099511627776 < (rdUint r 8).2) : (intR r).1 = (rdUint r 8).1 := by
  unfold intR
  exact refuse_no (h.imp id (fun x => decide_eq_false x)) 1
theorem stR_ok (h : (stN s r0).1.e ≠ 0 ∨ fitsS s.b (stN s r0).2 = true) : stR s r0 = (stN s r0).1 := by
  unfold stR
  exact refuse_no (h.imp id (fun x => by rw [x]; rfl)) 1
end
theorem rdUint_lo (r : Rd) (k : Int) : 0 ≤ (rdUint r k).2 := by
  unfold rdUint
  repeat' split
  all_goals first | exact Int.le_refl _ | exact Int.natCast_nonneg _
theorem rdUint1_hi (r : Rd) : (rdUint r 1).2 ≤ 255 := by
  unfold rdUint
  repeat' split
  all_goals first | (show (0 : Int) ≤ 255; decide) | skip
  have h := beV_lt ((r.b.drop r.at_).take 1)
  have h2 : ((r.b.drop r.at_).take 1).length ≤ 1 := by rw [List.length_take]; omega
  have h3 : 256 ^ ((r.b.drop r.at_).take 1).length ≤ 256 ^ 1 := Nat.pow_le_pow_right (by omega) h2
  show ((beV ((r.b.drop r.at_).take (1 : Int).toNat) : Nat) : Int) ≤ 255
  have h4 : (1 : Int).toNat = 1 := rfl
  rw [h4]; omega
/-- Decode of the program -/
def decP (l : List UInt8) : Req × Int :=
  if startE l ≠ 0 then (zeroReq, startE l) else if (shapeS (startC l)).ok = false then (zeroReq, 6) else (decQ (shapeS (startC l)) ⟨l.drop 5, 0, 0⟩ (startC l), decE (shapeS (startC l)) ⟨l.drop 5, 0, 0⟩)
end Go.Proofs.YtaekpiejdgahfaaDoor
