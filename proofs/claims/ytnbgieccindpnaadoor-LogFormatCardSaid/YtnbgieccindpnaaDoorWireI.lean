/- Readers: what is written is read, what is read was written. No program. -/
import Derived.Test.YtnbgieccindpnaaDoorWireV
namespace Go.Proofs.YtnbgieccindpnaaDoor
set_option linter.all false
set_option maxRecDepth 20000
open Go.RowKit
theorem rdUint_stuck {r : Rd} (h : r.e ≠ 0) (k : Int) : rdUint r k = (r, 0) := by unfold rdUint; rw [if_pos h]
theorem rdBlob_stuck {r : Rd} (h : r.e ≠ 0) (k : Int) : rdBlob r k = (r, []) := by unfold rdBlob; rw [if_pos h]
theorem uintS_ok (b : List UInt8) (n : Int) (s : Int) (h1 : 1 ≤ s) (h8 : s ≤ 8) : uintS b s n = b ++ beS n s.toNat := by unfold uintS; rw [if_pos ⟨h1, h8⟩]
def blobT (x : List UInt8) : List UInt8 := beS ((x.length : Nat) : Int) 2 ++ x
theorem blobS_eq (b x : List UInt8) (h : x.length ≤ 65535) : blobS b x = b ++ blobT x := by
  unfold blobS blobT
  rw [uintS_ok _ _ _ (by omega) (by omega), List.take_of_length_le h, Nat.min_eq_left h, List.append_assoc]
  rfl
structure At (r : Rd) (post : List UInt8) : Prop where
  e : r.e = 0
  d : r.b.drop r.at_ = post
theorem At.left {r : Rd} {post : List UInt8} (h : At r post) : r.b.length - r.at_ = post.length := by rw [← h.d, List.length_drop]
theorem At.step {r : Rd} {x post : List UInt8} (h : At r (x ++ post)) : At ⟨r.b, r.at_ + x.length, 0⟩ post := ⟨rfl, by show r.b.drop (r.at_ + x.length) = post; rw [← List.drop_drop, h.d, List.drop_left]⟩
theorem rdUint_at {r : Rd} {post : List UInt8} (v : Nat) (s : Nat) (h1 : 1 ≤ s) (h8 : s ≤ 8) (hv : v < 256 ^ s) (hb : v ≤ 9223372036854775807) (h : At r (beS ((v : Nat) : Int) s ++ post)) :
    ∃ r', rdUint r ((s : Nat) : Int) = (r', ((v : Nat) : Int)) ∧ At r' post := by
  have hbv : beV (beS (v : Nat) s) = v := by rw [beV_beS' _ _ (by omega)]; exact Nat.mod_eq_of_lt hv
  have hs := h.step
  rw [beS_len] at hs
  refine ⟨_, ?_, hs⟩
  unfold rdUint
  rw [if_neg (by simp [h.e]), if_neg (by omega), if_neg (by rw [h.left, Int.toNat_natCast, List.length_append, beS_len]; omega), Int.toNat_natCast, h.d, List.take_left' (beS_len _ _), hbv, if_neg (by unfold tooBig; simp; omega), h.e]
theorem rdBlob_at {r : Rd} {post : List UInt8} (x : List UInt8) (most : Int) (hx : x.length ≤ 65535) (hm : (x.length : Int) ≤ most) (h : At r (blobT x ++ post)) :
    ∃ r', rdBlob r most = (r', x) ∧ At r' post := by
  have hbv : beV (beS ((x.length : Nat) : Int) 2) = x.length := by rw [beV_beS' _ _ (by omega)]; exact Nat.mod_eq_of_lt (by omega)
  have hs := h.step
  have hl : (blobT x).length = 2 + x.length := by unfold blobT; rw [List.length_append, beS_len]
  have hd := h.d
  have hd2 : r.b.drop (r.at_ + 2) = x ++ post := by rw [← List.drop_drop, hd]; unfold blobT; rw [List.append_assoc, List.drop_left' (beS_len _ _)]
  rw [hl] at hs
  refine ⟨_, ?_, hs⟩
  have ht : (r.b.drop r.at_).take 2 = beS ((x.length : Nat) : Int) 2 := by rw [hd]; unfold blobT; rw [List.append_assoc, List.take_left' (beS_len _ _)]
  unfold rdBlob
  rw [ht, hbv, hd2, h.left, List.length_append, hl]
  rw [if_neg (by simp [h.e]), if_neg (by omega), if_neg (by omega), if_neg (by omega), List.take_left, h.e]
theorem foldl_acc (l : List UInt8) : ∀ a : Nat, l.foldl (fun n (x : UInt8) => n * 256 + x.toNat) a = a * 256 ^ l.length + beV l := by
  induction l with
  | nil => intro a; simp [beV]
  | cons x r ih =>
    intro a
    unfold beV
    rw [List.foldl_cons, List.foldl_cons, ih, ih, List.length_cons, Nat.pow_succ, Nat.zero_mul, Nat.zero_add, Nat.add_mul, Nat.mul_assoc, Nat.mul_comm 256]
    omega
theorem beV_cons (x : UInt8) (r : List UInt8) : beV (x :: r) = x.toNat * 256 ^ r.length + beV r := by
  have := foldl_acc r x.toNat
  unfold beV at *
  rw [List.foldl_cons, Nat.zero_mul, Nat.zero_add]
  exact this
theorem two_digits {a b x y K : Nat} (hx : x < K) (hy : y < K) (h : a * K + x = b * K + y) : a = b ∧ x = y := by
  have key : ∀ {a b x y : Nat}, x < K → a < b → a * K + x < b * K + y := by
    intro a b x y hx hlt
    have h1 : (a + 1) * K ≤ b * K := Nat.mul_le_mul_right K hlt
    rw [Nat.succ_mul] at h1
    omega
  rcases Nat.lt_trichotomy a b with hlt | rfl | hlt
  · have := key (y := y) hx hlt; omega
  · exact ⟨rfl, by omega⟩
  · have := key (y := x) hy hlt; omega
theorem beV_inj : ∀ (x y : List UInt8), x.length = y.length → beV x = beV y → x = y
  | [], [], _, _ => rfl
  | [], _ :: _, h, _ => by simp at h
  | _ :: _, [], h, _ => by simp at h
  | a :: x, b :: y, h, hv => by
    have hl : x.length = y.length := by simpa using h
    rw [beV_cons, beV_cons, hl] at hv
    have h1 := beV_lt x
    have h2 := beV_lt y
    rw [hl] at h1
    obtain ⟨h3, h4⟩ := two_digits h1 h2 hv
    rw [UInt8.toNat_inj.1 h3, beV_inj x y hl h4]
theorem beS_beV (x : List UInt8) (h : x.length ≤ 8) : beS ((beV x : Nat) : Int) x.length = x := by
  have h1 := beV_lt x
  have h2 : 256 ^ x.length ≤ 256 ^ 8 := Nat.pow_le_pow_right (by omega) h
  refine beV_inj _ _ (beS_len _ _) ?_
  rw [beV_beS' _ _ (by omega)]
  exact Nat.mod_eq_of_lt h1
def rest (r : Rd) : List UInt8 := r.b.drop r.at_
theorem rest_len (r : Rd) : (rest r).length = r.b.length - r.at_ := by unfold rest; rw [List.length_drop]
theorem rdUint_inv {r : Rd} {s : Nat} (h1 : 1 ≤ s) (h8 : s ≤ 8) (h : (rdUint r ((s : Nat) : Int)).1.e = 0) :
    r.e = 0 ∧ ∃ v : Nat, (rdUint r ((s : Nat) : Int)).2 = (v : Int) ∧ v < 256 ^ s ∧ rest r = beS ((v : Nat) : Int) s ++ rest (rdUint r ((s : Nat) : Int)).1 := by
  have he : r.e = 0 := by
    rcases Decidable.em (r.e = 0) with h0 | h0
    · exact h0
    · rw [rdUint_stuck h0] at h; exact h
  refine ⟨he, ?_⟩
  unfold rdUint at *
  rw [if_neg (by simp [he]), if_neg (by omega)] at *
  rw [Int.toNat_natCast] at *
  by_cases hl : r.b.length - r.at_ < s
  · rw [if_pos hl] at h; cases h
  · rw [if_neg hl] at *
    split at h
    · cases h
    · rename_i hb
      rw [if_neg hb]
      have hln : ((r.b.drop r.at_).take s).length = s := by rw [List.length_take, List.length_drop]; omega
      have hv := beV_lt ((r.b.drop r.at_).take s)
      have hbb := beS_beV ((r.b.drop r.at_).take s) (by rw [hln]; exact h8)
      rw [hln] at hv hbb
      refine ⟨_, rfl, hv, ?_⟩
      rw [hbb]
      show r.b.drop r.at_ = (r.b.drop r.at_).take s ++ r.b.drop (r.at_ + s)
      rw [← List.drop_drop, List.take_append_drop]
theorem rdBlob_inv {r : Rd} {most : Int} (h : (rdBlob r most).1.e = 0) :
    r.e = 0 ∧ (rdBlob r most).2.length ≤ 65535 ∧ ((rdBlob r most).2.length : Int) ≤ most ∧ rest r = blobT (rdBlob r most).2 ++ rest (rdBlob r most).1 := by
  have he : r.e = 0 := by
    rcases Decidable.em (r.e = 0) with h0 | h0
    · exact h0
    · rw [rdBlob_stuck h0] at h; exact h
  refine ⟨he, ?_⟩
  unfold rdBlob at *
  rw [if_neg (by simp [he])] at *
  by_cases h2 : r.b.length - r.at_ < 2
  · rw [if_pos h2] at h; cases h
  · rw [if_neg h2] at *
    by_cases h3 : most < (beV ((r.b.drop r.at_).take 2) : Nat)
    · rw [if_pos h3] at h; cases h
    · rw [if_neg h3] at *
      by_cases h4 : r.b.length - r.at_ < 2 + beV ((r.b.drop r.at_).take 2)
      · rw [if_pos h4] at h; cases h
      · rw [if_neg h4] at *
        have hln : ((r.b.drop r.at_).take 2).length = 2 := by rw [List.length_take, List.length_drop]; omega
        have hv := beV_lt ((r.b.drop r.at_).take 2)
        have hbb := beS_beV ((r.b.drop r.at_).take 2) (by rw [hln]; decide)
        rw [hln] at hv hbb
        generalize hq : beV ((r.b.drop r.at_).take 2) = q at *
        have hxl : ((r.b.drop (r.at_ + 2)).take q).length = q := by rw [List.length_take, List.length_drop]; omega
        refine ⟨by rw [hxl]; omega, by rw [hxl]; omega, ?_⟩
        unfold blobT
        rw [hxl, hbb]
        show r.b.drop r.at_ = (r.b.drop r.at_).take 2 ++ (r.b.drop (r.at_ + 2)).take q ++ r.b.drop (r.at_ + (2 + q))
        rw [← Nat.add_assoc, ← List.drop_drop (i := q), List.append_assoc, List.take_append_drop, ← List.drop_drop, List.take_append_drop]
theorem end_zero {r : Rd} (h : rdEnd r = 0) : r.e = 0 ∧ rest r = [] := by
  unfold rdEnd at h
  split at h
  · cases h
  · rename_i hh
    refine ⟨h, List.eq_nil_of_length_eq_zero ?_⟩
    rw [rest_len]
    have hl : ¬ (0 : Int) < rdLeft r := fun x => hh ⟨h, x⟩
    have : rdLeft r = (r.b.length : Int) - r.at_ := rfl
    omega
theorem rdRaw_stuck {r : Rd} (h : r.e ≠ 0) (k : Int) : rdRaw r k = (r, []) := by unfold rdRaw; rw [if_pos h]
theorem rdRaw_at {r : Rd} {post : List UInt8} (x : List UInt8) {n : Int} (hn : n = (x.length : Nat)) (h : At r (x ++ post)) : ∃ r', rdRaw r n = (r', x) ∧ At r' post := by
  subst hn
  have hs := h.step
  refine ⟨_, ?_, hs⟩
  unfold rdRaw
  rw [if_neg (by simp [h.e]), if_neg (by omega), h.left, List.length_append, if_neg (by omega), Int.toNat_natCast, h.d, List.take_left, h.e]
theorem rdRaw_inv {r : Rd} {n : Int} (h : (rdRaw r n).1.e = 0) : r.e = 0 ∧ ((rdRaw r n).2.length : Int) = n ∧ rest r = (rdRaw r n).2 ++ rest (rdRaw r n).1 := by
  have he : r.e = 0 := by
    rcases Decidable.em (r.e = 0) with h0 | h0
    · exact h0
    · rw [rdRaw_stuck h0] at h; exact h
  refine ⟨he, ?_⟩
  unfold rdRaw at *
  rw [if_neg (by simp [he])] at *
  by_cases h2 : n < 0
  · rw [if_pos h2] at h; cases h
  · rw [if_neg h2] at *
    by_cases h3 : ((r.b.length - r.at_ : Nat) : Int) < n
    · rw [if_pos h3] at h; cases h
    · rw [if_neg h3] at *
      obtain ⟨k, rfl⟩ := Int.eq_ofNat_of_zero_le (show 0 ≤ n by omega)
      rw [Int.toNat_natCast] at *
      refine ⟨by show (((r.b.drop r.at_).take k).length : Int) = k; rw [List.length_take, List.length_drop]; omega, ?_⟩
      show r.b.drop r.at_ = (r.b.drop r.at_).take k ++ r.b.drop (r.at_ + k)
      rw [← List.drop_drop, List.take_append_drop]
end Go.Proofs.YtnbgieccindpnaaDoor
