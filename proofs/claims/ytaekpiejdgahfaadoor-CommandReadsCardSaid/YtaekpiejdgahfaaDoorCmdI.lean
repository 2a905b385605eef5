/- Commands: what is read is written. No program. -/
import Derived.Test.YtaekpiejdgahfaaDoorCmdT
namespace Go.Proofs.YtaekpiejdgahfaaDoor
set_option linter.all false
open Go.RowKit
theorem foldl_acc (l : List UInt8) : ∀ a : Nat, l.foldl (fun n (x : UInt8) => n * 256 + x.toNat) a = a * 256 ^ l.length + beV l := by
  induction l with
  | nil => intro a; simp [beV]
  | cons x r ih =>
    intro a
    unfold beV
    rw [List.foldl_cons, List.foldl_cons, ih, ih, List.length_cons, Nat.pow_succ, Nat.zero_mul, Nat.zero_add, Nat.add_mul, Nat.mul_assoc, Nat.mul_comm 256]
    omega
theorem beV_cons (x : UInt8) (r : List UInt8) : beV (x :: r) = x.toNat * 256 ^ r.length + beV r := by
  have := foldl_acc r x.toNat
  unfold beV at *
  rw [List.foldl_cons, Nat.zero_mul, Nat.zero_add]
  exact this
theorem two_digits {a b x y K : Nat} (hx : x < K) (hy : y < K) (h : a * K + x = b * K + y) : a = b ∧ x = y := by
  have key : ∀ {a b x y : Nat}, x < K → a < b → a * K + x < b * K + y := by
    intro a b x y hx hlt
    have h1 : (a + 1) * K ≤ b * K := Nat.mul_le_mul_right K hlt
    rw [Nat.succ_mul] at h1
    omega
  rcases Nat.lt_trichotomy a b with hlt | rfl | hlt
  · have := key (y := y) hx hlt; omega
  · exact ⟨rfl, by omega⟩
  · have := key (y := x) hy hlt; omega
theorem beV_inj : ∀ (x y : List UInt8), x.length = y.length → beV x = beV y → x = y
  | [], [], _, _ => rfl
  | [], _ :: _, h, _ => by simp at h
  | _ :: _, [], h, _ => by simp at h
  | a :: x, b :: y, h, hv => by
    have hl : x.length = y.length := by simpa using h
    rw [beV_cons, beV_cons, hl] at hv
    have h1 := beV_lt x
    have h2 := beV_lt y
    rw [hl] at h1
    obtain ⟨h3, h4⟩ := two_digits h1 h2 hv
    rw [UInt8.toNat_inj.1 h3, beV_inj x y hl h4]
theorem beS_beV (x : List UInt8) (h : x.length ≤ 8) : beS ((beV x : Nat) : Int) x.length = x := by
  have h1 := beV_lt x
  have h2 : 256 ^ x.length ≤ 256 ^ 8 := Nat.pow_le_pow_right (by omega) h
  refine beV_inj _ _ (beS_len _ _) ?_
  rw [beV_beS' _ _ (by omega)]
  exact Nat.mod_eq_of_lt h1
/-- what is still to be read -/
def rest (r : Rd) : List UInt8 := r.b.drop r.at_
theorem rest_len (r : Rd) : (rest r).length = r.b.length - r.at_ := by unfold rest; rw [List.length_drop]
theorem rdUint_inv {r : Rd} {s : Nat} (h1 : 1 ≤ s) (h8 : s ≤ 8) (h : (rdUint r ((s : Nat) : Int)).1.e = 0) :
    r.e = 0 ∧ ∃ v : Nat, (rdUint r ((s : Nat) : Int)).2 = (v : Int) ∧ v < 256 ^ s ∧ rest r = beS ((v : Nat) : Int) s ++ rest (rdUint r ((s : Nat) : Int)).1 := by
  have he : r.e = 0 := by
    rcases Decidable.em (r.e = 0) with h0 | h0
    · exact h0
    · rw [rdUint_stuck h0] at h; exact h
  refine ⟨he, ?_⟩
  unfold rdUint at *
  rw [if_neg (by simp [he]), if_neg (by omega)] at *
  rw [Int.toNat_natCast] at *
  by_cases hl : r.b.length - r.at_ < s
  · rw [if_pos hl] at h; cases h
  · rw [if_neg hl] at *
    split at h
    · cases h
    · rename_i hb
      rw [if_neg hb]
      have hln : ((r.b.drop r.at_).take s).length = s := by rw [List.length_take, List.length_drop]; omega
      have hv := beV_lt ((r.b.drop r.at_).take s)
      have hbb := beS_beV ((r.b.drop r.at_).take s) (by rw [hln]; exact h8)
      rw [hln] at hv hbb
      refine ⟨_, rfl, hv, ?_⟩
      rw [hbb]
      show r.b.drop r.at_ = (r.b.drop r.at_).take s ++ r.b.drop (r.at_ + s)
      rw [← List.drop_drop, List.take_append_drop]
theorem rdBlob_inv {r : Rd} {most : Int} (h : (rdBlob r most).1.e = 0) :
    r.e = 0 ∧ (rdBlob r most).2.length ≤ 65535 ∧ ((rdBlob r most).2.length : Int) ≤ most ∧ rest r = blobT (rdBlob r most).2 ++ rest (rdBlob r most).1 := by
  have he : r.e = 0 := by
    rcases Decidable.em (r.e = 0) with h0 | h0
    · exact h0
    · rw [rdBlob_stuck h0] at h; exact h
  refine ⟨he, ?_⟩
  unfold rdBlob at *
  rw [if_neg (by simp [he])] at *
  by_cases h2 : r.b.length - r.at_ < 2
  · rw [if_pos h2] at h; cases h
  · rw [if_neg h2] at *
    by_cases h3 : most < (beV ((r.b.drop r.at_).take 2) : Nat)
    · rw [if_pos h3] at h; cases h
    · rw [if_neg h3] at *
      by_cases h4 : r.b.length - r.at_ < 2 + beV ((r.b.drop r.at_).take 2)
      · rw [if_pos h4] at h; cases h
      · rw [if_neg h4] at *
        have hln : ((r.b.drop r.at_).take 2).length = 2 := by rw [List.length_take, List.length_drop]; omega
        have hv := beV_lt ((r.b.drop r.at_).take 2)
        have hbb := beS_beV ((r.b.drop r.at_).take 2) (by rw [hln]; decide)
        rw [hln] at hv hbb
        generalize hq : beV ((r.b.drop r.at_).take 2) = q at *
        have hxl : ((r.b.drop (r.at_ + 2)).take q).length = q := by rw [List.length_take, List.length_drop]; omega
        refine ⟨by rw [hxl]; omega, by rw [hxl]; omega, ?_⟩
        unfold blobT
        rw [hxl, hbb]
        show r.b.drop r.at_ = (r.b.drop r.at_).take 2 ++ (r.b.drop (r.at_ + 2)).take q ++ r.b.drop (r.at_ + (2 + q))
        rw [← Nat.add_assoc, ← List.drop_drop (i := q), List.append_assoc, List.take_append_drop, ← List.drop_drop, List.take_append_drop]
theorem handU_inv {r : Rd} : ∀ k, (handU r k).1.e = 0 → r.e = 0 ∧ (handU r k).2.length = k ∧ (∀ h ∈ (handU r k).2, small16 h) ∧ rest r = handsT (handU r k).2 ++ rest (handU r k).1
  | 0, h => ⟨h, rfl, by simp [handU], by simp [handU, handsT]⟩
  | k + 1, h => by
    have h' : (rdUint (handU r k).1 ((2 : Nat) : Int)).1.e = 0 := h
    obtain ⟨e1, v, hv, hlt, hr⟩ := rdUint_inv (by decide) (by decide) h'
    obtain ⟨e2, hl, hw, hr2⟩ := handU_inv k e1
    have hv' : (rdUint (handU r k).1 2).2 = (v : Int) := hv
    have e3 : (handU r (k + 1)).2 = (handU r k).2 ++ [(v : Int)] := by rw [← hv']; rfl
    refine ⟨e2, by rw [e3, List.length_append, hl]; rfl, ?_, ?_⟩
    · rw [e3]
      intro x hx
      rcases List.mem_append.1 hx with hx | hx
      · exact hw x hx
      · rw [List.mem_singleton.1 hx]
        unfold small16
        omega
    · rw [e3, hr2, hr]
      unfold handsT
      rw [List.flatMap_append, List.append_assoc]
      simp
      try rfl
theorem authR_inv {r : Rd} (h : (authR r).1.e = 0) : r.e = 0 ∧ small16 (authR r).2.ses ∧ (authR r).2.nonce.length ≤ 128 ∧ (authR r).2.val.length ≤ 128 ∧ rest r = authT (authR r).2 ++ rest (authR r).1 := by
  have h' : (rdBlob (rdBlob (rdUint r ((2 : Nat) : Int)).1 128).1 128).1.e = 0 := h
  obtain ⟨e1, _, b2, b3⟩ := rdBlob_inv h'
  obtain ⟨e2, _, c2, c3⟩ := rdBlob_inv e1
  obtain ⟨e3, v, hv, hlt, hr⟩ := rdUint_inv (by decide) (by decide) e2
  refine ⟨e3, ?_, ?_, ?_, ?_⟩
  · have hv' : (authR r).2.ses = (v : Int) := hv
    rw [hv']; unfold small16; omega
  · have : ((authR r).2.nonce.length : Int) ≤ 128 := c2
    omega
  · have : ((authR r).2.val.length : Int) ≤ 128 := b2
    omega
  · have hv' : (authR r).2.ses = (v : Int) := hv
    unfold authT
    rw [hr, c3, b3, hv', List.append_assoc, List.append_assoc]
    rfl
theorem authU_inv {r : Rd} : ∀ k, (authU r k).1.e = 0 → r.e = 0 ∧ (authU r k).2.length = k ∧ (∀ a ∈ (authU r k).2, small16 a.ses ∧ a.nonce.length ≤ 128 ∧ a.val.length ≤ 128) ∧ rest r = authsT (authU r k).2 ++ rest (authU r k).1
  | 0, h => ⟨h, rfl, by simp [authU], by simp [authU, authsT]⟩
  | k + 1, h => by
    obtain ⟨e1, s1, s2, s3, hr⟩ := authR_inv (r := (authU r k).1) h
    obtain ⟨e2, hl, hw, hr2⟩ := authU_inv k e1
    have e3 : (authU r (k + 1)).2 = (authU r k).2 ++ [(authR (authU r k).1).2] := rfl
    refine ⟨e2, by rw [e3, List.length_append, hl]; rfl, ?_, ?_⟩
    · rw [e3]
      intro x hx
      rcases List.mem_append.1 hx with hx | hx
      · exact hw x hx
      · rw [List.mem_singleton.1 hx]
        exact ⟨s1, s2, s3⟩
    · rw [e3, hr2, hr]
      unfold authsT
      rw [List.flatMap_append, List.append_assoc]
      simp
      try rfl
theorem refuse_e {r : Rd} {c : Bool} {e : Int} (he : e ≠ 0) (h : (refuseS r c e).e = 0) : r.e = 0 ∧ c = false ∧ refuseS r c e = r := by
  unfold refuseS at *
  split at h
  · exact absurd h he
  · rename_i hh
    refine ⟨h, ?_, by rw [if_neg hh]⟩
    cases c with
    | false => rfl
    | true => exact absurd ⟨h, rfl⟩ hh
theorem intU_inv {r : Rd} : ∀ k, (intU r k).1.e = 0 → r.e = 0 ∧ (intU r k).2.length = k ∧ (∀ z ∈ (intU r k).2, timeS z = true) ∧ rest r = intsT (intU r k).2 ++ rest (intU r k).1
  | 0, h => ⟨h, rfl, by simp [intU], by simp [intU, intsT]⟩
  | k + 1, h => by
    obtain ⟨h', hc, hq⟩ := refuse_e (by decide) (show (refuseS (rdUint (intU r k).1 8).1 (decide (1099511627776 < (rdUint (intU r k).1 8).2)) 1).e = 0 from h)
    have h'' : (rdUint (intU r k).1 ((8 : Nat) : Int)).1.e = 0 := h'
    obtain ⟨e1, v, hv, hlt, hr⟩ := rdUint_inv (by decide) (by decide) h''
    obtain ⟨e2, hl, hw, hr2⟩ := intU_inv k e1
    have hv' : (rdUint (intU r k).1 8).2 = (v : Int) := hv
    rw [hv'] at hc
    have hc := of_decide_eq_false hc
    have e3 : (intU r (k + 1)).2 = (intU r k).2 ++ [(v : Int)] := by rw [← hv']; rfl
    have e4 : (intU r (k + 1)).1 = (rdUint (intU r k).1 8).1 := hq
    refine ⟨e2, by rw [e3, List.length_append, hl]; rfl, ?_, ?_⟩
    · rw [e3]
      intro x hx
      rcases List.mem_append.1 hx with hx | hx
      · exact hw x hx
      · rw [List.mem_singleton.1 hx]
        unfold timeS
        rw [decide_eq_true (by omega), decide_eq_true (by omega)]; rfl
    · rw [e3, e4, hr2, hr]
      unfold intsT
      rw [List.flatMap_append, List.append_assoc]
      simp
      try rfl
theorem blobU_inv {r : Rd} {most : Int} : ∀ k, (blobU r most k).1.e = 0 → r.e = 0 ∧ (blobU r most k).2.length = k ∧ (∀ x ∈ (blobU r most k).2, x.length ≤ 65535 ∧ (x.length : Int) ≤ most) ∧ rest r = blobsT (blobU r most k).2 ++ rest (blobU r most k).1
  | 0, h => ⟨h, rfl, by simp [blobU], by simp [blobU, blobsT]⟩
  | k + 1, h => by
    obtain ⟨e1, s1, s2, hr⟩ := rdBlob_inv (r := (blobU r most k).1) (most := most) h
    obtain ⟨e2, hl, hw, hr2⟩ := blobU_inv k e1
    have e3 : (blobU r most (k + 1)).2 = (blobU r most k).2 ++ [(rdBlob (blobU r most k).1 most).2] := rfl
    refine ⟨e2, by rw [e3, List.length_append, hl]; rfl, ?_, ?_⟩
    · rw [e3]
      intro x hx
      rcases List.mem_append.1 hx with hx | hx
      · exact hw x hx
      · rw [List.mem_singleton.1 hx]
        exact ⟨s1, s2⟩
    · rw [e3, hr2, hr]
      unfold blobsT
      rw [List.flatMap_append, List.append_assoc]
      simp
      try rfl
theorem end_zero {r : Rd} (h : rdEnd r = 0) : r.e = 0 ∧ rest r = [] := by
  unfold rdEnd at h
  split at h
  · cases h
  · rename_i hh
    refine ⟨h, List.eq_nil_of_length_eq_zero ?_⟩
    rw [rest_len]
    have hl : ¬ (0 : Int) < rdLeft r := fun x => hh ⟨h, x⟩
    have : rdLeft r = (r.b.length : Int) - r.at_ := rfl
    omega
/-- What is accepted is a request with a byte form, and these are its bytes. -/
theorem dec_back {l : List UInt8} (h : (decP l).2 = 0) : Fine (decP l).1 ∧ formS (decP l).1 = l := by
  unfold decP at *
  by_cases hs : startE l ≠ 0
  · rw [if_pos hs] at h; exact absurd h hs
  · rw [if_neg hs] at *
    have hs0 : startE l = 0 := by simpa using hs
    by_cases hk : (shapeS (startC l)).ok = false
    · rw [if_pos hk] at h; cases h
    · rw [if_neg hk] at *
      have hok : (shapeS (startC l)).ok = true := by simpa using hk
      generalize hcode : startC l = code at *
      generalize hsq : shapeS code = s at *
      generalize hr0 : (⟨l.drop 5, 0, 0⟩ : Rd) = r0 at *
      simp only at h
      have hE : decE s r0 = 0 := h
      have hE' := hE
      unfold decE at hE
      obtain ⟨e5, hrest⟩ := end_zero hE
      obtain ⟨e4, l4, w4, r4⟩ := blobU_inv _ e5
      obtain ⟨e3, hf, hq3⟩ := refuse_e (by decide) (show (refuseS (stN s r0).1 (!fitsS s.b (stN s r0).2) 1).e = 0 from e4)
      have hR : stR s r0 = (stN s r0).1 := hq3
      have e3' : (rdUint (stI s r0).1 ((1 : Nat) : Int)).1.e = 0 := e3
      obtain ⟨e2, nb, hnb, hnlt, r3⟩ := rdUint_inv (by decide) (by decide) e3'
      have hnb' : (stN s r0).2 = (nb : Int) := hnb
      have r3' : rest (stI s r0).1 = beS ((nb : Nat) : Int) 1 ++ rest (stN s r0).1 := r3
      obtain ⟨e1, l2, w2, r2⟩ := intU_inv _ e2
      obtain ⟨e0, l1, w1, r1⟩ := authU_inv _ e1
      obtain ⟨_, l0, w0, rr⟩ := handU_inv _ e0
      have hq : decQ s r0 code = ⟨code, (stH s r0).2, (stU s r0).2, (stI s r0).2, (stB s r0).2⟩ := by unfold decQ; rw [if_pos hE']
      have l4' : (stB s r0).2.length = nb := by show (blobU (stR s r0) 1024 (stN s r0).2.toNat).2.length = nb; rw [l4, hnb', Int.toNat_natCast]
      have hbd := shape_bounds code
      rw [hsq] at hbd
      have hfit : fitsS s.b ((nb : Nat) : Int) = true := by rw [hnb'] at hf; simpa using hf
      -- all that follows the head
      have htail : l.drop 5 = tailT ⟨code, (stH s r0).2, (stU s r0).2, (stI s r0).2, (stB s r0).2⟩ := by
        have h0 : rest r0 = l.drop 5 := by rw [← hr0]; rfl
        have r1' : rest (stH s r0).1 = authsT (stU s r0).2 ++ rest (stU s r0).1 := r1
        have r2' : rest (stU s r0).1 = intsT (stI s r0).2 ++ rest (stI s r0).1 := r2
        have rr' : rest r0 = handsT (stH s r0).2 ++ rest (stH s r0).1 := rr
        have r4' : rest (stR s r0) = blobsT (stB s r0).2 ++ rest (stB s r0).1 := r4
        rw [← h0, rr', r1', r2', r3', ← hR, r4', hrest, List.append_nil]
        unfold tailT
        rw [l4']
      have hlen : 5 ≤ l.length ∧ l.length ≤ 2048 ∧ gb1 l 0 = 83 ∧ gb1 l 1 = 87 ∧ lenAt l = l.length := by
        unfold startE at hs0
        by_cases h0 : 2048 < l.length
        · rw [if_pos h0] at hs0; cases hs0
        · rw [if_neg h0] at hs0
          by_cases h1 : l.length < 5
          · rw [if_pos h1] at hs0; cases hs0
          · rw [if_neg h1] at hs0
            by_cases h2 : gb1 l 0 ≠ 83 ∨ gb1 l 1 ≠ 87
            · rw [if_pos h2] at hs0; cases hs0
            · rw [if_neg h2] at hs0
              by_cases h3 : l.length < lenAt l
              · rw [if_pos h3] at hs0; cases hs0
              · rw [if_neg h3] at hs0
                by_cases h4 : lenAt l < l.length
                · rw [if_pos h4] at hs0; cases hs0
                · simp at h2
                  exact ⟨by omega, by omega, h2.1, h2.2, by omega⟩
      obtain ⟨k5, k2048, kb0, kb1, kla⟩ := hlen
      have hcb : code = ((gb1 l 4).toNat : Int) := by rw [← hcode]; unfold startC; rw [if_pos hs0]
      generalize hqq : (⟨code, (stH s r0).2, (stU s r0).2, (stI s r0).2, (stB s r0).2⟩ : Req) = q at *
      have q1 : q.code = code := by rw [← hqq]
      have q2 : q.hs = (stH s r0).2 := by rw [← hqq]
      have q3 : q.us = (stU s r0).2 := by rw [← hqq]
      have q4 : q.is = (stI s r0).2 := by rw [← hqq]
      have q5 : q.bs = (stB s r0).2 := by rw [← hqq]
      have hbw : ∀ x ∈ q.bs, x.length ≤ 1024 := by
        rw [q5]; intro x hx
        have := w4 x hx
        omega
      have haw : ∀ a ∈ q.us, small16 a.ses ∧ a.nonce.length ≤ 128 ∧ a.val.length ≤ 128 := by rw [q3]; exact w1
      have htl : (tailT q).length + 5 = l.length := by rw [← htail, List.length_drop]; omega
      have hform : formS q = l := by
        rw [formS_eq q (fun a ha => by have := haw a ha; omega) (fun x hx => by have := hbw x hx; omega) (by rw [q5, l4']; omega), htl, ← htail]
        have hsz : lenAt l = (gb1 l 2).toNat * 256 + (gb1 l 3).toNat := rfl
        have g2 := (gb1 l 2).toNat_lt
        have g3 := (gb1 l 3).toNat_lt
        have e2 : byteAt ((l.length : Nat) : Int) 1 = gb1 l 2 := by
          apply UInt8.toNat_inj.1
          have := byteAt_two l.length (by omega)
          have := (byteAt ((l.length : Nat) : Int) 0).toNat_lt
          omega
        have e3 : byteAt ((l.length : Nat) : Int) 0 = gb1 l 3 := by
          apply UInt8.toNat_inj.1
          have := byteAt_two l.length (by omega)
          have := (byteAt ((l.length : Nat) : Int) 0).toNat_lt
          omega
        have e4 : byteOf q.code = gb1 l 4 := by
          rw [q1, hcb]
          unfold byteOf
          apply UInt8.toNat_inj.1
          rw [UInt8.toNat_ofNat']
          have := (gb1 l 4).toNat_lt
          omega
        rw [e2, e3, e4, ← kb0, ← kb1]
        have hd0 := drop_gb (l := l) 0 (by omega)
        rw [List.drop_zero] at hd0
        rw [← drop_gb 4 (by omega), ← drop_gb 3 (by omega), ← drop_gb 2 (by omega), ← drop_gb 1 (by omega)]
        exact hd0.symm
      refine ⟨?_, ?_⟩
      · show Fine (decQ s r0 code)
        rw [hq]
        exact ⟨by rw [q1, hsq]; exact hok, by rw [q1, hsq, q2]; show ((handU r0 s.h.toNat).2.length : Int) = s.h; rw [l0]; omega, by rw [q1, hsq, q3]; show ((authU (stH s r0).1 s.a.toNat).2.length : Int) = s.a; rw [l1]; omega,
          by rw [q1, hsq, q4]; show ((intU (stU s r0).1 s.i.toNat).2.length : Int) = s.i; rw [l2]; omega, by rw [q1, hsq, q5, l4']; exact hfit, by rw [q2]; exact w0, haw, by rw [q4]; exact w2, hbw, by rw [hform]; exact k2048⟩
      · show formS (decQ s r0 code) = l
        rw [hq]; exact hform
theorem Fine.small {q : Req} (h : Fine q) : SmallQ q := by
  have hbd := shape_bounds q.code
  have h1 := h.h
  have h2 := h.a
  have h3 := h.i
  have h4 := h.count
  exact ⟨by omega, by omega, by omega, by omega, fun a ha => by have := h.aw a ha; omega, fun b hb => by have := h.bw b hb; omega⟩
theorem enc_back {l : List UInt8} (h : (decP l).2 = 0) : checkS (decP l).1 = 0 ∧ encS (decP l).1 = l := by
  obtain ⟨hf, he⟩ := dec_back h
  have hc := (fine_iff _).2 hf
  exact ⟨hc, by unfold encS; rw [if_pos hc]; exact he⟩
theorem zero_small : SmallQ zeroReq := ⟨by decide, by decide, by decide, by decide, fun a h => by simp [zeroReq] at h, fun a h => by simp [zeroReq] at h⟩
end Go.Proofs.YtaekpiejdgahfaaDoor
