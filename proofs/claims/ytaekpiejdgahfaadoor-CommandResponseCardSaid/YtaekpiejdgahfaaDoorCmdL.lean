/- Commands: reading from further on; the reference's head. No program. -/
import Derived.Test.YtaekpiejdgahfaaDoorCmdD2
namespace Go.Proofs.YtaekpiejdgahfaaDoor
set_option linter.all false
open Go.RowKit
/-! the same bytes, read from further on -/
structure Sft (k : Nat) (r r' : Rd) : Prop where
  b : r'.b = r.b.drop k
  at_ : r.at_ = r'.at_ + k
  e : r.e = r'.e
section
variable {k : Nat} {r r' : Rd}
theorem Sft.left (h : Sft k r r') : r.b.length - r.at_ = r'.b.length - r'.at_ := by rw [h.b, h.at_, List.length_drop]; omega
theorem Sft.rest (h : Sft k r r') (j : Nat) : r.b.drop (r.at_ + j) = r'.b.drop (r'.at_ + j) := by
  rw [h.b, h.at_, List.drop_drop]; congr 1; omega
theorem rdUint_sft (h : Sft k r r') (s : Int) : Sft k (rdUint r s).1 (rdUint r' s).1 ∧ (rdUint r s).2 = (rdUint r' s).2 := by
  have h1 := h.left
  have h2 := h.rest 0
  have h3 := h.at_
  simp only [Nat.add_zero] at h2
  unfold rdUint
  rw [h.e, h1, h2]
  repeat' split
  all_goals first | exact ⟨h, rfl⟩ | exact ⟨⟨h.b, h.at_, rfl⟩, rfl⟩ | exact ⟨⟨h.b, by show r.at_ + s.toNat = r'.at_ + s.toNat + k; omega, by first | exact h.e | exact rfl⟩, rfl⟩
theorem rdBlob_sft (h : Sft k r r') (m : Int) : Sft k (rdBlob r m).1 (rdBlob r' m).1 ∧ (rdBlob r m).2 = (rdBlob r' m).2 := by
  have h1 := h.left
  have h2 := h.rest 0
  have h4 := h.rest 2
  have h3 := h.at_
  simp only [Nat.add_zero] at h2
  unfold rdBlob
  rw [h.e, h1, h2, h4]
  generalize beV (List.take 2 (List.drop r'.at_ r'.b)) = q
  repeat' split
  all_goals first | exact ⟨h, rfl⟩ | exact ⟨⟨h.b, h.at_, rfl⟩, rfl⟩ | exact ⟨⟨h.b, by show r.at_ + (2 + q) = r'.at_ + (2 + q) + k; omega, by first | exact h.e | exact rfl⟩, rfl⟩
theorem rdEnd_sft (h : Sft k r r') : rdEnd r = rdEnd r' := by
  have h1 : rdLeft r = ((r.b.length : Int) - r.at_) := rfl
  have h2 : rdLeft r' = ((r'.b.length : Int) - r'.at_) := rfl
  have h3 := h.at_
  unfold rdEnd
  rw [h.e, h1, h2, h.b, List.length_drop]
  by_cases hc : r'.e = 0 ∧ (0 : Int) < r.b.length - r.at_
  · rw [if_pos hc, if_pos ⟨hc.1, by omega⟩]
  · rw [if_neg hc, if_neg (fun x => hc ⟨x.1, by omega⟩)]
theorem refuse_sft (h : Sft k r r') (c : Bool) (e : Int) : Sft k (refuseS r c e) (refuseS r' c e) := by
  unfold refuseS
  rw [h.e]
  split
  · exact ⟨h.b, h.at_, rfl⟩
  · exact h
theorem handU_sft (h : Sft k r r') : ∀ j, Sft k (handU r j).1 (handU r' j).1 ∧ (handU r j).2 = (handU r' j).2
  | 0 => ⟨h, rfl⟩
  | j + 1 => by
    have ih := handU_sft h j
    have h1 := rdUint_sft ih.1 2
    exact ⟨h1.1, by show _ ++ [_] = _ ++ [_]; rw [ih.2, h1.2]⟩
theorem authR_sft (h : Sft k r r') : Sft k (authR r).1 (authR r').1 ∧ (authR r).2 = (authR r').2 := by
  have h1 := rdUint_sft h 2
  have h2 := rdBlob_sft h1.1 128
  have h3 := rdBlob_sft h2.1 128
  exact ⟨h3.1, by unfold authR; rw [h1.2, h2.2, h3.2]⟩
theorem authU_sft (h : Sft k r r') : ∀ j, Sft k (authU r j).1 (authU r' j).1 ∧ (authU r j).2 = (authU r' j).2
  | 0 => ⟨h, rfl⟩
  | j + 1 => by
    have ih := authU_sft h j
    have h1 := authR_sft ih.1
    exact ⟨h1.1, by show _ ++ [_] = _ ++ [_]; rw [ih.2, h1.2]⟩
theorem intR_sft (h : Sft k r r') : Sft k (intR r).1 (intR r').1 ∧ (intR r).2 = (intR r').2 := by
  have h1 := rdUint_sft h 8
  refine ⟨?_, h1.2⟩
  unfold intR
  simp only [h1.2]
  exact refuse_sft h1.1 _ _
theorem intU_sft (h : Sft k r r') : ∀ j, Sft k (intU r j).1 (intU r' j).1 ∧ (intU r j).2 = (intU r' j).2
  | 0 => ⟨h, rfl⟩
  | j + 1 => by
    have ih := intU_sft h j
    have h1 := intR_sft ih.1
    exact ⟨h1.1, by show _ ++ [_] = _ ++ [_]; rw [ih.2, h1.2]⟩
theorem blobU_sft (h : Sft k r r') (m : Int) : ∀ j, Sft k (blobU r m j).1 (blobU r' m j).1 ∧ (blobU r m j).2 = (blobU r' m j).2
  | 0 => ⟨h, rfl⟩
  | j + 1 => by
    have ih := blobU_sft h m j
    have h1 := rdBlob_sft ih.1 m
    exact ⟨h1.1, by show _ ++ [_] = _ ++ [_]; rw [ih.2, h1.2]⟩
variable {s : Shp}
theorem dec_sft (h : Sft k r r') (code : Int) : decE s r = decE s r' ∧ decQ s r code = decQ s r' code := by
  have hH := handU_sft h s.h.toNat
  have hU := authU_sft hH.1 s.a.toNat
  have hI := intU_sft hU.1 s.i.toNat
  have hN := rdUint_sft hI.1 1
  have hN2 : (stN s r).2 = (stN s r').2 := hN.2
  have hR : Sft k (stR s r) (stR s r') := by unfold stR; rw [hN2]; exact refuse_sft hN.1 _ _
  have hB : Sft k (stB s r).1 (stB s r').1 ∧ (stB s r).2 = (stB s r').2 := by unfold stB; rw [hN2]; exact blobU_sft hR 1024 _
  have hE : decE s r = decE s r' := rdEnd_sft hB.1
  have e1 : (stH s r).2 = (stH s r').2 := hH.2
  have e2 : (stU s r).2 = (stU s r').2 := hU.2
  have e3 : (stI s r).2 = (stI s r').2 := hI.2
  refine ⟨hE, ?_⟩
  unfold decQ
  rw [hE, e1, e2, e3, hB.2]
theorem dec_stuck (h : r.e ≠ 0) : decE s r = r.e := by
  have hH : (stH s r).1 = r := handU_stuck h _
  have hU : (stU s r).1 = r := by unfold stU; rw [hH]; exact authU_stuck h _
  have hI : (stI s r).1 = r := by unfold stI; rw [hU]; exact intU_stuck _ (Nat.zero_le _) h
  rw [dec_after_i (by rw [hI]; exact h), hI]
theorem decQ_zero' (h : r.e ≠ 0) (code : Int) : decQ s r code = zeroReq := by unfold decQ; rw [if_neg (by rw [dec_stuck h]; exact h)]
end
/-! the head, as the reference reads it -/
def hd1 (l : List UInt8) : Rd := refuseS ⟨l, 0, 0⟩ (decide ((l.length : Int) < 5)) 2
def hd2 (l : List UInt8) : Rd × Int := rdUint (hd1 l) 2
def hd3 (l : List UInt8) : Rd := refuseS (hd2 l).1 (!decide ((hd2 l).2 = 21335)) 5
def hd4 (l : List UInt8) : Rd × Int := rdUint (hd3 l) 2
def hd5 (l : List UInt8) : Rd := refuseS (hd4 l).1 (decide ((l.length : Int) < (hd4 l).2)) 2
def hd6 (l : List UInt8) : Rd := refuseS (hd5 l) (decide ((hd4 l).2 < (l.length : Int))) 3
def hd7 (l : List UInt8) : Rd × Int := rdUint (hd6 l) 1
def hd8 (l : List UInt8) : Rd := refuseS (hd7 l).1 (!(shapeS (hd7 l).2).ok) 6
def decR (l : List UInt8) : Req × Int := if 2048 < l.length then (zeroReq, 4) else (decQ (shapeS (hd7 l).2) (hd8 l) (hd7 l).2, decE (shapeS (hd7 l).2) (hd8 l))
section
variable {l : List UInt8}
theorem drop_gb (p : Nat) (h : p < l.length) : l.drop p = gb1 l p :: l.drop (p + 1) := by
  rw [List.drop_eq_getElem_cons h]
  unfold gb1
  simp [List.getD, h]
theorem rd_one (p : Nat) (h : p + 1 ≤ l.length) : rdUint ⟨l, p, 0⟩ 1 = (⟨l, p + 1, 0⟩, ((gb1 l p).toNat : Int)) := by
  have hb := (gb1 l p).toNat_lt
  have ht : (l.drop p).take (1 : Int).toNat = [gb1 l p] := by rw [drop_gb p (by omega)]; rfl
  unfold rdUint
  simp only [ht]
  rw [if_neg (by simp), if_neg (by omega), if_neg (by show ¬ l.length - p < 1; omega), if_neg (by simp [beV, tooBig]; omega)]
  simp [beV]
theorem rd_two (p : Nat) (h : p + 2 ≤ l.length) : rdUint ⟨l, p, 0⟩ 2 = (⟨l, p + 2, 0⟩, (((gb1 l p).toNat * 256 + (gb1 l (p + 1)).toNat : Nat) : Int)) := by
  have hb := (gb1 l p).toNat_lt
  have hb' := (gb1 l (p + 1)).toNat_lt
  have ht : (l.drop p).take (2 : Int).toNat = [gb1 l p, gb1 l (p + 1)] := by rw [drop_gb p (by omega), drop_gb (p + 1) (by omega)]; rfl
  unfold rdUint
  simp only [ht]
  rw [if_neg (by simp), if_neg (by omega), if_neg (by show ¬ l.length - p < 2; omega), if_neg (by simp [beV, tooBig]; omega)]
  simp [beV]
theorem hd_stuck (h0 : ¬ 2048 < l.length) (h : (hd6 l).e ≠ 0) : decR l = (zeroReq, (hd6 l).e) := by
  have h7 : hd7 l = (hd6 l, 0) := rdUint_stuck h 1
  have h8 : hd8 l = hd6 l := by unfold hd8; rw [h7]; exact refuse_stuck h _ _
  unfold decR
  rw [if_neg h0, h7, h8, dec_stuck h, decQ_zero' h]
theorem ok_no (code : Int) (h : (shapeS code).ok = false) : ∀ r : Rd, r.e ≠ 0 → decQ (shapeS code) r code = zeroReq := fun r hr => decQ_zero' hr code
theorem dec_eq (l : List UInt8) : decR l = decP l := by
  by_cases h0 : 2048 < l.length
  · have hs : startE l = 4 := by unfold startE; rw [if_pos h0]
    unfold decR decP
    rw [if_pos h0, hs, if_pos (by decide)]
  · by_cases h5 : l.length < 5
    · have hs : startE l = 2 := by unfold startE; rw [if_neg h0, if_pos h5]
      have h1 : hd1 l = ⟨l, 0, 2⟩ := by unfold hd1; rw [decide_eq_true (by omega)]; exact refuse_yes rfl 2
      have hne : (hd1 l).e ≠ 0 := by rw [h1]; exact (by decide : (2 : Int) ≠ 0)
      have h2 : hd2 l = (hd1 l, 0) := rdUint_stuck hne 2
      have h3 : hd3 l = hd1 l := by unfold hd3; rw [h2]; exact refuse_stuck hne _ _
      have h4 : hd4 l = (hd1 l, 0) := by unfold hd4; rw [h3]; exact rdUint_stuck hne 2
      have h5' : hd5 l = hd1 l := by unfold hd5; rw [h4]; exact refuse_stuck hne _ _
      have h6 : hd6 l = hd1 l := by unfold hd6; rw [h5']; exact refuse_stuck hne _ _
      rw [hd_stuck h0 (by rw [h6]; exact hne), h6, h1]
      unfold decP
      rw [hs, if_pos (by decide)]
    · have h1 : hd1 l = ⟨l, 0, 0⟩ := by unfold hd1; exact refuse_no (Or.inr (decide_eq_false (by omega))) _
      have h2 : hd2 l = (⟨l, 2, 0⟩, (((gb1 l 0).toNat * 256 + (gb1 l 1).toNat : Nat) : Int)) := by unfold hd2; rw [h1]; exact rd_two 0 (by omega)
      have b0 := (gb1 l 0).toNat_lt
      have b1 := (gb1 l 1).toNat_lt
      by_cases ht : gb1 l 0 ≠ 83 ∨ gb1 l 1 ≠ 87
      · have hs : startE l = 5 := by unfold startE; rw [if_neg h0, if_neg h5, if_pos ht]
        have hne : ¬ (((gb1 l 0).toNat * 256 + (gb1 l 1).toNat : Nat) : Int) = 21335 := by
          intro hh
          rcases ht with ht | ht
          · exact ht (UInt8.toNat_inj.1 (by show (gb1 l 0).toNat = 83; omega))
          · exact ht (UInt8.toNat_inj.1 (by show (gb1 l 1).toNat = 87; omega))
        have h3 : hd3 l = ⟨l, 2, 5⟩ := by unfold hd3; rw [h2]; simp only; rw [decide_eq_false hne]; exact refuse_yes rfl 5
        have hn3 : (hd3 l).e ≠ 0 := by rw [h3]; exact (by decide : (5 : Int) ≠ 0)
        have h4 : hd4 l = (hd3 l, 0) := rdUint_stuck hn3 2
        have h5' : hd5 l = hd3 l := by unfold hd5; rw [h4]; exact refuse_stuck hn3 _ _
        have h6 : hd6 l = hd3 l := by unfold hd6; rw [h5']; exact refuse_stuck hn3 _ _
        rw [hd_stuck h0 (by rw [h6]; exact hn3), h6, h3]
        unfold decP
        rw [hs, if_pos (by decide)]
      · have hyes : (((gb1 l 0).toNat * 256 + (gb1 l 1).toNat : Nat) : Int) = 21335 := by
          have e0 : gb1 l 0 = 83 := by simp at ht; exact ht.1
          have e1 : gb1 l 1 = 87 := by simp at ht; exact ht.2
          rw [e0, e1]; rfl
        have h3 : hd3 l = ⟨l, 2, 0⟩ := by unfold hd3; rw [h2]; simp only; rw [decide_eq_true hyes]; exact refuse_no (Or.inr rfl) _
        have h4 : hd4 l = (⟨l, 4, 0⟩, ((lenAt l : Nat) : Int)) := by unfold hd4; rw [h3]; exact rd_two 2 (by omega)
        by_cases hgt : l.length < lenAt l
        · have hs : startE l = 2 := by unfold startE; rw [if_neg h0, if_neg h5, if_neg ht, if_pos hgt]
          have h5' : hd5 l = ⟨l, 4, 2⟩ := by unfold hd5; rw [h4]; simp only; rw [decide_eq_true (by omega)]; exact refuse_yes rfl 2
          have hn5 : (hd5 l).e ≠ 0 := by rw [h5']; exact (by decide : (2 : Int) ≠ 0)
          have h6 : hd6 l = hd5 l := by unfold hd6; exact refuse_stuck hn5 _ _
          rw [hd_stuck h0 (by rw [h6]; exact hn5), h6, h5']
          unfold decP
          rw [hs, if_pos (by decide)]
        · have h5' : hd5 l = ⟨l, 4, 0⟩ := by unfold hd5; rw [h4]; simp only; exact refuse_no (Or.inr (decide_eq_false (by omega))) _
          by_cases hlt : lenAt l < l.length
          · have hs : startE l = 3 := by unfold startE; rw [if_neg h0, if_neg h5, if_neg ht, if_neg hgt, if_pos hlt]
            have h6 : hd6 l = ⟨l, 4, 3⟩ := by unfold hd6; rw [h5', h4]; simp only; rw [decide_eq_true (by omega)]; exact refuse_yes rfl 3
            rw [hd_stuck h0 (by rw [h6]; exact (by decide : (3 : Int) ≠ 0)), h6]
            unfold decP
            rw [hs, if_pos (by decide)]
          · have hs : startE l = 0 := by unfold startE; rw [if_neg h0, if_neg h5, if_neg ht, if_neg hgt, if_neg hlt]
            have h6 : hd6 l = ⟨l, 4, 0⟩ := by unfold hd6; rw [h5', h4]; simp only; exact refuse_no (Or.inr (decide_eq_false (by omega))) _
            have h7 : hd7 l = (⟨l, 5, 0⟩, ((gb1 l 4).toNat : Int)) := by unfold hd7; rw [h6]; exact rd_one 4 (by omega)
            have hc : startC l = ((gb1 l 4).toNat : Int) := by unfold startC; rw [if_pos hs]
            have hsf : Sft 5 ⟨l, 5, 0⟩ ⟨l.drop 5, 0, 0⟩ := ⟨rfl, rfl, rfl⟩
            unfold decR decP
            rw [if_neg h0, hs, if_neg (show ¬ ((0 : Int) ≠ 0) by decide), h7, hc]
            simp only
            cases hk : (shapeS ((gb1 l 4).toNat : Int)).ok with
            | false =>
              have h8 : hd8 l = ⟨l, 5, 6⟩ := by unfold hd8; rw [h7]; simp only; rw [hk]; exact refuse_yes rfl 6
              rw [h8, dec_stuck (r := ⟨l, 5, 6⟩) (by show (6 : Int) ≠ 0; decide), decQ_zero' (r := ⟨l, 5, 6⟩) (by show (6 : Int) ≠ 0; decide), if_pos rfl]
            | true =>
              have h8 : hd8 l = ⟨l, 5, 0⟩ := by unfold hd8; rw [h7]; simp only; rw [hk]; exact refuse_no (Or.inr rfl) _
              rw [h8, if_neg (show ¬ (true = false) by decide), (dec_sft hsf ((gb1 l 4).toNat : Int)).1, (dec_sft hsf ((gb1 l 4).toNat : Int)).2]
end
end Go.Proofs.YtaekpiejdgahfaaDoor
