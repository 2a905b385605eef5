/- JrnA: merged. -/
import Derived.Test.YtbbeoojlgfegjaaDoorDiskS
import Derived.Test.YtbbeoojlgfegjaaDoorWireV
import Derived.Test.YtbbeoojlgfegjaaDoorHashS
/- Journals: what is written and read, in plain words. No program. -/
namespace Go.Proofs.YtbbeoojlgfegjaaDoor
set_option linter.all false
open Go.RowKit
/-- a tag and fields with their lengths -/
def fieldS (b f : List UInt8) : List UInt8 := b ++ beS ((f.length : Nat) : Int) 4 ++ f
def frameS (tag : UInt8) (fs : List (List UInt8)) : List UInt8 := fs.foldl fieldS [tag]
def jFrame (seq : Int) (p : List UInt8) : List UInt8 := frameS 12 [uintS [] 8 seq, p]
def markS (seq : Int) (p : List UInt8) : List UInt8 := sha256S (jFrame seq p)
def recordS (seq : Int) (p : List UInt8) : List UInt8 := uintS (uintS (markS seq p) 8 seq) 4 ((p.length : Nat) : Int) ++ p
def basedS (base : Int) : Bool := decide (0 ≤ base) && decide (base ≤ 1000)
def seqS (seq : Int) : Bool := decide (1 ≤ seq) && decide (seq ≤ 1099511627776)
def commitS (d : Dk) (base seq : Int) (p : List UInt8) : Dk := if (seqS seq && basedS base) = false then d else if 60000 < p.length then d else writeS d (base + seq.tmod 2) (recordS seq p)
def commitE (d : Dk) (base seq : Int) (p : List UInt8) : Int := if (seqS seq && basedS base) = false then 1 else if 60000 < p.length then 4 else putE d (base + seq.tmod 2) (recordS seq p).length
/-! reading a record -/
def ra1 (b : List UInt8) : Rd × List UInt8 := rdRaw ⟨b, 0, 0⟩ 32
def ra2 (b : List UInt8) : Rd × Int := rdUint (ra1 b).1 8
def ra3 (b : List UInt8) : Rd × Int := rdUint (ra2 b).1 4
def ra4 (b : List UInt8) : Rd × List UInt8 := rdRaw (ra3 b).1 (ra3 b).2
def okS (b : List UInt8) (k : Int) : Bool := decide ((ra4 b).1.e = 0) && (decide (1 ≤ (ra2 b).2) && (decide ((ra2 b).2.tmod 2 = k) && decide ((ra1 b).2 = markS (ra2 b).2 (ra4 b).2)))
/-- the record with which an area begins -/
structure Jr where
  p : List UInt8
  s : Int
  ok : Bool
def noJr : Jr := ⟨[], 0, false⟩
def parseS (b : List UInt8) (k : Int) : Jr := if okS b k = true then ⟨(ra4 b).2, (ra2 b).2, true⟩ else noJr
def bestS (a b : Jr) : Jr := if (b.ok && decide (a.s < b.s)) = true then b else a
def recS (d : Dk) (base : Int) : Jr := bestS (bestS noJr (parseS (readS d base) 0)) (parseS (readS d (base + 1)) 1)
def recoverE (d : Dk) (base : Int) : Int := if basedS base = false then 1 else if readE d base ≠ 0 then readE d base else if readE d (base + 1) ≠ 0 then readE d (base + 1) else if (recS d base).ok = true then 0 else 30
def recoverJ (d : Dk) (base : Int) : Jr := if recoverE d base = 0 then recS d base else noJr
end Go.Proofs.YtbbeoojlgfegjaaDoor
/- Readers: what is written is read, what is read was written. No program. -/
namespace Go.Proofs.YtbbeoojlgfegjaaDoor
set_option linter.all false
open Go.RowKit
theorem rdUint_stuck {r : Rd} (h : r.e ≠ 0) (k : Int) : rdUint r k = (r, 0) := by unfold rdUint; rw [if_pos h]
theorem rdBlob_stuck {r : Rd} (h : r.e ≠ 0) (k : Int) : rdBlob r k = (r, []) := by unfold rdBlob; rw [if_pos h]
theorem end_stuck {r : Rd} (h : r.e ≠ 0) : rdEnd r = r.e := by unfold rdEnd; rw [if_neg (fun x => h x.1)]
theorem uintS_ok (b : List UInt8) (n : Int) (s : Int) (h1 : 1 ≤ s) (h8 : s ≤ 8) : uintS b s n = b ++ beS n s.toNat := by unfold uintS; rw [if_pos ⟨h1, h8⟩]
def blobT (x : List UInt8) : List UInt8 := beS ((x.length : Nat) : Int) 2 ++ x
theorem blobS_eq (b x : List UInt8) (h : x.length ≤ 65535) : blobS b x = b ++ blobT x := by
  unfold blobS blobT
  rw [uintS_ok _ _ _ (by omega) (by omega), List.take_of_length_le h, Nat.min_eq_left h, List.append_assoc]
  rfl
structure At (r : Rd) (post : List UInt8) : Prop where
  e : r.e = 0
  d : r.b.drop r.at_ = post
theorem At.left {r : Rd} {post : List UInt8} (h : At r post) : r.b.length - r.at_ = post.length := by rw [← h.d, List.length_drop]
theorem At.step {r : Rd} {x post : List UInt8} (h : At r (x ++ post)) : At ⟨r.b, r.at_ + x.length, 0⟩ post := ⟨rfl, by show r.b.drop (r.at_ + x.length) = post; rw [← List.drop_drop, h.d, List.drop_left]⟩
theorem rdUint_at {r : Rd} {post : List UInt8} (v : Nat) (s : Nat) (h1 : 1 ≤ s) (h8 : s ≤ 8) (hv : v < 256 ^ s) (hb : v ≤ 9223372036854775807) (h : At r (beS ((v : Nat) : Int) s ++ post)) :
    ∃ r', rdUint r ((s : Nat) : Int) = (r', ((v : Nat) : Int)) ∧ At r' post := by
  have hbv : beV (beS (v : Nat) s) = v := by rw [beV_beS' _ _ (by omega)]; exact Nat.mod_eq_of_lt hv
  have hs := h.step
  rw [beS_len] at hs
  refine ⟨_, ?_, hs⟩
  unfold rdUint
  rw [if_neg (by simp [h.e]), if_neg (by omega), if_neg (by rw [h.left, Int.toNat_natCast, List.length_append, beS_len]; omega), Int.toNat_natCast, h.d, List.take_left' (beS_len _ _), hbv, if_neg (by unfold tooBig; simp; omega), h.e]
theorem rdBlob_at {r : Rd} {post : List UInt8} (x : List UInt8) (most : Int) (hx : x.length ≤ 65535) (hm : (x.length : Int) ≤ most) (h : At r (blobT x ++ post)) :
    ∃ r', rdBlob r most = (r', x) ∧ At r' post := by
  have hbv : beV (beS ((x.length : Nat) : Int) 2) = x.length := by rw [beV_beS' _ _ (by omega)]; exact Nat.mod_eq_of_lt (by omega)
  have hs := h.step
  have hl : (blobT x).length = 2 + x.length := by unfold blobT; rw [List.length_append, beS_len]
  have hd := h.d
  have hd2 : r.b.drop (r.at_ + 2) = x ++ post := by rw [← List.drop_drop, hd]; unfold blobT; rw [List.append_assoc, List.drop_left' (beS_len _ _)]
  rw [hl] at hs
  refine ⟨_, ?_, hs⟩
  have ht : (r.b.drop r.at_).take 2 = beS ((x.length : Nat) : Int) 2 := by rw [hd]; unfold blobT; rw [List.append_assoc, List.take_left' (beS_len _ _)]
  unfold rdBlob
  rw [ht, hbv, hd2, h.left, List.length_append, hl]
  rw [if_neg (by simp [h.e]), if_neg (by omega), if_neg (by omega), if_neg (by omega), List.take_left, h.e]
theorem foldl_acc (l : List UInt8) : ∀ a : Nat, l.foldl (fun n (x : UInt8) => n * 256 + x.toNat) a = a * 256 ^ l.length + beV l := by
  induction l with
  | nil => intro a; simp [beV]
  | cons x r ih =>
    intro a
    unfold beV
    rw [List.foldl_cons, List.foldl_cons, ih, ih, List.length_cons, Nat.pow_succ, Nat.zero_mul, Nat.zero_add, Nat.add_mul, Nat.mul_assoc, Nat.mul_comm 256]
    omega
theorem beV_cons (x : UInt8) (r : List UInt8) : beV (x :: r) = x.toNat * 256 ^ r.length + beV r := by
  have := foldl_acc r x.toNat
  unfold beV at *
  rw [List.foldl_cons, Nat.zero_mul, Nat.zero_add]
  exact this
theorem two_digits {a b x y K : Nat} (hx : x < K) (hy : y < K) (h : a * K + x = b * K + y) : a = b ∧ x = y := by
  have key : ∀ {a b x y : Nat}, x < K → a < b → a * K + x < b * K + y := by
    intro a b x y hx hlt
    have h1 : (a + 1) * K ≤ b * K := Nat.mul_le_mul_right K hlt
    rw [Nat.succ_mul] at h1
    omega
  rcases Nat.lt_trichotomy a b with hlt | rfl | hlt
  · have := key (y := y) hx hlt; omega
  · exact ⟨rfl, by omega⟩
  · have := key (y := x) hy hlt; omega
theorem beV_inj : ∀ (x y : List UInt8), x.length = y.length → beV x = beV y → x = y
  | [], [], _, _ => rfl
  | [], _ :: _, h, _ => by simp at h
  | _ :: _, [], h, _ => by simp at h
  | a :: x, b :: y, h, hv => by
    have hl : x.length = y.length := by simpa using h
    rw [beV_cons, beV_cons, hl] at hv
    have h1 := beV_lt x
    have h2 := beV_lt y
    rw [hl] at h1
    obtain ⟨h3, h4⟩ := two_digits h1 h2 hv
    rw [UInt8.toNat_inj.1 h3, beV_inj x y hl h4]
theorem beS_beV (x : List UInt8) (h : x.length ≤ 8) : beS ((beV x : Nat) : Int) x.length = x := by
  have h1 := beV_lt x
  have h2 : 256 ^ x.length ≤ 256 ^ 8 := Nat.pow_le_pow_right (by omega) h
  refine beV_inj _ _ (beS_len _ _) ?_
  rw [beV_beS' _ _ (by omega)]
  exact Nat.mod_eq_of_lt h1
def rest (r : Rd) : List UInt8 := r.b.drop r.at_
theorem rest_len (r : Rd) : (rest r).length = r.b.length - r.at_ := by unfold rest; rw [List.length_drop]
theorem rdUint_inv {r : Rd} {s : Nat} (h1 : 1 ≤ s) (h8 : s ≤ 8) (h : (rdUint r ((s : Nat) : Int)).1.e = 0) :
    r.e = 0 ∧ ∃ v : Nat, (rdUint r ((s : Nat) : Int)).2 = (v : Int) ∧ v < 256 ^ s ∧ rest r = beS ((v : Nat) : Int) s ++ rest (rdUint r ((s : Nat) : Int)).1 := by
  have he : r.e = 0 := by
    rcases Decidable.em (r.e = 0) with h0 | h0
    · exact h0
    · rw [rdUint_stuck h0] at h; exact h
  refine ⟨he, ?_⟩
  unfold rdUint at *
  rw [if_neg (by simp [he]), if_neg (by omega)] at *
  rw [Int.toNat_natCast] at *
  by_cases hl : r.b.length - r.at_ < s
  · rw [if_pos hl] at h; cases h
  · rw [if_neg hl] at *
    split at h
    · cases h
    · rename_i hb
      rw [if_neg hb]
      have hln : ((r.b.drop r.at_).take s).length = s := by rw [List.length_take, List.length_drop]; omega
      have hv := beV_lt ((r.b.drop r.at_).take s)
      have hbb := beS_beV ((r.b.drop r.at_).take s) (by rw [hln]; exact h8)
      rw [hln] at hv hbb
      refine ⟨_, rfl, hv, ?_⟩
      rw [hbb]
      show r.b.drop r.at_ = (r.b.drop r.at_).take s ++ r.b.drop (r.at_ + s)
      rw [← List.drop_drop, List.take_append_drop]
theorem rdBlob_inv {r : Rd} {most : Int} (h : (rdBlob r most).1.e = 0) :
    r.e = 0 ∧ (rdBlob r most).2.length ≤ 65535 ∧ ((rdBlob r most).2.length : Int) ≤ most ∧ rest r = blobT (rdBlob r most).2 ++ rest (rdBlob r most).1 := by
  have he : r.e = 0 := by
    rcases Decidable.em (r.e = 0) with h0 | h0
    · exact h0
    · rw [rdBlob_stuck h0] at h; exact h
  refine ⟨he, ?_⟩
  unfold rdBlob at *
  rw [if_neg (by simp [he])] at *
  by_cases h2 : r.b.length - r.at_ < 2
  · rw [if_pos h2] at h; cases h
  · rw [if_neg h2] at *
    by_cases h3 : most < (beV ((r.b.drop r.at_).take 2) : Nat)
    · rw [if_pos h3] at h; cases h
    · rw [if_neg h3] at *
      by_cases h4 : r.b.length - r.at_ < 2 + beV ((r.b.drop r.at_).take 2)
      · rw [if_pos h4] at h; cases h
      · rw [if_neg h4] at *
        have hln : ((r.b.drop r.at_).take 2).length = 2 := by rw [List.length_take, List.length_drop]; omega
        have hv := beV_lt ((r.b.drop r.at_).take 2)
        have hbb := beS_beV ((r.b.drop r.at_).take 2) (by rw [hln]; decide)
        rw [hln] at hv hbb
        generalize hq : beV ((r.b.drop r.at_).take 2) = q at *
        have hxl : ((r.b.drop (r.at_ + 2)).take q).length = q := by rw [List.length_take, List.length_drop]; omega
        refine ⟨by rw [hxl]; omega, by rw [hxl]; omega, ?_⟩
        unfold blobT
        rw [hxl, hbb]
        show r.b.drop r.at_ = (r.b.drop r.at_).take 2 ++ (r.b.drop (r.at_ + 2)).take q ++ r.b.drop (r.at_ + (2 + q))
        rw [← Nat.add_assoc, ← List.drop_drop (i := q), List.append_assoc, List.take_append_drop, ← List.drop_drop, List.take_append_drop]
theorem end_zero {r : Rd} (h : rdEnd r = 0) : r.e = 0 ∧ rest r = [] := by
  unfold rdEnd at h
  split at h
  · cases h
  · rename_i hh
    refine ⟨h, List.eq_nil_of_length_eq_zero ?_⟩
    rw [rest_len]
    have hl : ¬ (0 : Int) < rdLeft r := fun x => hh ⟨h, x⟩
    have : rdLeft r = (r.b.length : Int) - r.at_ := rfl
    omega
theorem rdRaw_stuck {r : Rd} (h : r.e ≠ 0) (k : Int) : rdRaw r k = (r, []) := by unfold rdRaw; rw [if_pos h]
theorem rdRaw_at {r : Rd} {post : List UInt8} (x : List UInt8) {n : Int} (hn : n = (x.length : Nat)) (h : At r (x ++ post)) : ∃ r', rdRaw r n = (r', x) ∧ At r' post := by
  subst hn
  have hs := h.step
  refine ⟨_, ?_, hs⟩
  unfold rdRaw
  rw [if_neg (by simp [h.e]), if_neg (by omega), h.left, List.length_append, if_neg (by omega), Int.toNat_natCast, h.d, List.take_left, h.e]
theorem rdRaw_inv {r : Rd} {n : Int} (h : (rdRaw r n).1.e = 0) : r.e = 0 ∧ ((rdRaw r n).2.length : Int) = n ∧ rest r = (rdRaw r n).2 ++ rest (rdRaw r n).1 := by
  have he : r.e = 0 := by
    rcases Decidable.em (r.e = 0) with h0 | h0
    · exact h0
    · rw [rdRaw_stuck h0] at h; exact h
  refine ⟨he, ?_⟩
  unfold rdRaw at *
  rw [if_neg (by simp [he])] at *
  by_cases h2 : n < 0
  · rw [if_pos h2] at h; cases h
  · rw [if_neg h2] at *
    by_cases h3 : ((r.b.length - r.at_ : Nat) : Int) < n
    · rw [if_pos h3] at h; cases h
    · rw [if_neg h3] at *
      obtain ⟨k, rfl⟩ := Int.eq_ofNat_of_zero_le (show 0 ≤ n by omega)
      rw [Int.toNat_natCast] at *
      refine ⟨by show (((r.b.drop r.at_).take k).length : Int) = k; rw [List.length_take, List.length_drop]; omega, ?_⟩
      show r.b.drop r.at_ = (r.b.drop r.at_).take k ++ r.b.drop (r.at_ + k)
      rw [← List.drop_drop, List.take_append_drop]
/-- too little is left -/
theorem rdRaw_short {r : Rd} {n : Int} (he : r.e = 0) (h0 : 0 ≤ n) (h : ((rest r).length : Int) < n) : (rdRaw r n).1.e = 2 := by
  rw [rest_len] at h
  unfold rdRaw
  rw [if_neg (by simp [he]), if_neg (by omega), if_pos h]
theorem rdUint_short {r : Rd} {s : Int} (he : r.e = 0) (h1 : 1 ≤ s) (h8 : s ≤ 8) (h : (rest r).length < s.toNat) : (rdUint r s).1.e = 2 := by
  rw [rest_len] at h
  unfold rdUint
  rw [if_neg (by simp [he]), if_neg (by omega), if_pos h]
end Go.Proofs.YtbbeoojlgfegjaaDoor
/- Journals: what is committed is recovered; interrupted commits. No program. -/
namespace Go.Proofs.YtbbeoojlgfegjaaDoor
set_option linter.all false
open Go.RowKit
theorem markS_len (s : Int) (p : List UInt8) : (markS s p).length = 32 := sha256S_len _
theorem record_eq (seq : Int) (p : List UInt8) : recordS seq p = markS seq p ++ (beS seq 8 ++ (beS ((p.length : Nat) : Int) 4 ++ p)) := by
  unfold recordS
  rw [uintS_ok _ _ 4 (by omega) (by omega), uintS_ok _ _ 8 (by omega) (by omega)]
  simp only [List.append_assoc]
  rfl
theorem record_len (seq : Int) (p : List UInt8) : (recordS seq p).length = 44 + p.length := by
  rw [record_eq]; simp only [List.length_append, markS_len, beS_len]; omega
/-- What is read of bytes that are so made. -/
theorem ra_at (sum p tail : List UInt8) (s : Nat) (hs : sum.length = 32) (h8 : s ≤ 9223372036854775807) (hp : p.length < 4294967296) :
    (ra1 (sum ++ (beS ((s : Nat) : Int) 8 ++ (beS ((p.length : Nat) : Int) 4 ++ (p ++ tail))))).2 = sum ∧ (ra2 (sum ++ (beS ((s : Nat) : Int) 8 ++ (beS ((p.length : Nat) : Int) 4 ++ (p ++ tail))))).2 = s ∧
      (ra4 (sum ++ (beS ((s : Nat) : Int) 8 ++ (beS ((p.length : Nat) : Int) 4 ++ (p ++ tail))))).2 = p ∧ (ra4 (sum ++ (beS ((s : Nat) : Int) 8 ++ (beS ((p.length : Nat) : Int) 4 ++ (p ++ tail))))).1.e = 0 := by
  generalize hb : sum ++ (beS ((s : Nat) : Int) 8 ++ (beS ((p.length : Nat) : Int) 4 ++ (p ++ tail))) = b
  have hA : At ⟨b, 0, 0⟩ (sum ++ (beS ((s : Nat) : Int) 8 ++ (beS ((p.length : Nat) : Int) 4 ++ (p ++ tail)))) := ⟨rfl, by show b.drop 0 = _; rw [List.drop_zero, hb]⟩
  obtain ⟨r1, h1, a1⟩ := rdRaw_at sum (n := 32) (by rw [hs]; rfl) hA
  have e1 : ra1 b = (r1, sum) := h1
  obtain ⟨r2, h2, a2⟩ := rdUint_at s 8 (by decide) (by decide) (by omega) h8 a1
  have e2 : ra2 b = (r2, (s : Int)) := by unfold ra2; rw [e1]; exact h2
  obtain ⟨r3, h3, a3⟩ := rdUint_at p.length 4 (by decide) (by decide) (by omega) (by omega) a2
  have e3 : ra3 b = (r3, ((p.length : Nat) : Int)) := by unfold ra3; rw [e2]; exact h3
  obtain ⟨r4, h4, a4⟩ := rdRaw_at p rfl a3
  have e4 : ra4 b = (r4, p) := by unfold ra4; rw [e3]; exact h4
  rw [e1, e2, e4]
  exact ⟨rfl, rfl, rfl, a4.e⟩
theorem tmod2 {s : Int} (h : 0 ≤ s) : s.tmod 2 = s % 2 := Int.tmod_eq_emod_of_nonneg h
theorem parse_record {s : Nat} {p tail : List UInt8} {k : Int} (h1 : 1 ≤ s) (h8 : s ≤ 9223372036854775807) (hp : p.length < 4294967296) (hk : ((s : Nat) : Int).tmod 2 = k) : parseS (recordS s p ++ tail) k = ⟨p, s, true⟩ := by
  have hb : recordS s p ++ tail = markS s p ++ (beS ((s : Nat) : Int) 8 ++ (beS ((p.length : Nat) : Int) 4 ++ (p ++ tail))) := by rw [record_eq]; simp only [List.append_assoc]
  obtain ⟨e1, e2, e3, e4⟩ := ra_at (markS s p) p tail s (markS_len _ _) h8 hp
  rw [← hb] at e1 e2 e3 e4
  have hok : okS (recordS s p ++ tail) k = true := by
    unfold okS
    rw [e1, e2, e3, e4, decide_eq_true rfl, decide_eq_true (show (1 : Int) ≤ s by omega), decide_eq_true hk, decide_eq_true rfl]; rfl
  unfold parseS
  rw [if_pos hok, e2, e3]
/-- What is accepted is so made. -/
theorem ok_inv {b : List UInt8} {k : Int} (h : okS b k = true) :
    ∃ (s : Nat) (tail : List UInt8), (ra2 b).2 = s ∧ 1 ≤ s ∧ s ≤ 9223372036854775807 ∧ ((s : Nat) : Int).tmod 2 = k ∧ (ra4 b).2.length < 4294967296 ∧
      b = markS s (ra4 b).2 ++ (beS ((s : Nat) : Int) 8 ++ (beS (((ra4 b).2.length : Nat) : Int) 4 ++ ((ra4 b).2 ++ tail))) := by
  unfold okS at h
  simp only [Bool.and_eq_true, decide_eq_true_eq] at h
  obtain ⟨he, h1, hk, hm⟩ := h
  obtain ⟨e3, l4, r4⟩ := rdRaw_inv (show (rdRaw (ra3 b).1 (ra3 b).2).1.e = 0 from he)
  obtain ⟨e2, v3, q3, b3, r3⟩ := rdUint_inv (r := (ra2 b).1) (s := 4) (by decide) (by decide) e3
  obtain ⟨e1, v2, q2, b2, r2⟩ := rdUint_inv (r := (ra1 b).1) (s := 8) (by decide) (by decide) e2
  obtain ⟨e0, l1, r1⟩ := rdRaw_inv (r := ⟨b, 0, 0⟩) (n := 32) e1
  have q2' : (ra2 b).2 = (v2 : Int) := q2
  have q3' : (ra3 b).2 = (v3 : Int) := q3
  have hb63 : v2 ≤ 9223372036854775807 := by
    have hx : (ra2 b).2 ≤ 9223372036854775807 := by
      unfold ra2 rdUint
      repeat' split
      all_goals first | (show (0 : Int) ≤ 9223372036854775807; decide) | skip
      rename_i hx
      unfold tooBig at hx
      simp only [decide_eq_true_eq] at hx
      show ((beV _ : Nat) : Int) ≤ _
      omega
    omega
  have hl : (ra4 b).2.length = v3 := by have : ((ra4 b).2.length : Int) = (ra3 b).2 := l4; omega
  refine ⟨v2, rest (ra4 b).1, q2', by omega, hb63, by rw [← q2']; exact hk, by omega, ?_⟩
  have s1 : rest (⟨b, 0, 0⟩ : Rd) = b := rfl
  have r1' : rest (⟨b, 0, 0⟩ : Rd) = (ra1 b).2 ++ rest (ra1 b).1 := r1
  have r2' : rest (ra1 b).1 = beS ((v2 : Nat) : Int) 8 ++ rest (ra2 b).1 := r2
  have r3' : rest (ra2 b).1 = beS ((v3 : Nat) : Int) 4 ++ rest (ra3 b).1 := r3
  have r4' : rest (ra3 b).1 = (ra4 b).2 ++ rest (ra4 b).1 := r4
  rw [q2'] at hm
  conv => lhs; rw [← s1, r1', r2', r3', r4', hm]
  rw [hl]
theorem be_inj {a b s : Nat} (ha : a < 256 ^ s) (hb : b < 256 ^ s) (h8 : s ≤ 8) (h : beS ((a : Nat) : Int) s = beS ((b : Nat) : Int) s) : a = b := by
  have hp : 256 ^ s ≤ 256 ^ 8 := Nat.pow_le_pow_right (by omega) h8
  have h1 := beV_beS' a s (by omega)
  have h2 := beV_beS' b s (by omega)
  rw [h, h2, Nat.mod_eq_of_lt ha, Nat.mod_eq_of_lt hb] at h1
  exact h1.symm
/-- a shortened record -/
theorem parse_take {s : Nat} {p : List UInt8} {k : Int} {j : Nat} (hp : p.length < 4294967296) (hj : j < (recordS s p).length) : parseS ((recordS s p).take j) k = noJr := by
  unfold parseS
  rw [if_neg]
  intro hok
  obtain ⟨s', tail, _, _, _, _, hp', hb⟩ := ok_inv hok
  generalize (ra4 ((recordS s p).take j)).2 = p' at *
  have hl := congrArg List.length hb
  have hrl := record_len s p
  rw [List.length_take, Nat.min_eq_left (by omega)] at hl
  simp only [List.length_append, markS_len, beS_len] at hl
  have h1 : ((recordS s p).take j).drop 40 = (beS ((p'.length : Nat) : Int) 4 ++ (p' ++ tail)) := by
    rw [hb, ← List.append_assoc, List.drop_left' (by simp [markS_len, beS_len])]
  have h2 : (((recordS s p).take j).drop 40).take 4 = beS ((p'.length : Nat) : Int) 4 := by rw [h1, List.take_left' (beS_len _ _)]
  have h3 : (((recordS s p).take j).drop 40).take 4 = beS ((p.length : Nat) : Int) 4 := by
    rw [List.drop_take, List.take_take, Nat.min_eq_left (by omega), record_eq, ← List.append_assoc, List.drop_left' (by simp [markS_len, beS_len]), List.take_left' (beS_len _ _)]
  have h4 := be_inj (by omega) (by omega) (by omega) (h2.symm.trans h3)
  omega
/-! frames -/
theorem frame_eq (s : Int) (p : List UInt8) : jFrame s p = [12] ++ (beS 8 4 ++ (beS s 8 ++ (beS ((p.length : Nat) : Int) 4 ++ p))) := by
  unfold jFrame frameS
  simp only [List.foldl_cons, List.foldl_nil]
  unfold fieldS
  rw [uintS_ok _ _ 8 (by omega) (by omega)]
  have hl : (([] : List UInt8) ++ beS s (8 : Int).toNat).length = 8 := by simp [beS_len]
  rw [hl]
  simp only [List.append_assoc, List.nil_append]
  rfl
theorem frame_inj {s s' : Nat} {p p' : List UInt8} (hs : s < 256 ^ 8) (hs' : s' < 256 ^ 8) (h : jFrame s p = jFrame s' p') : s = s' ∧ p = p' := by
  rw [frame_eq, frame_eq] at h
  have h1 := List.append_cancel_left (List.append_cancel_left h)
  have h2 : beS ((s : Nat) : Int) 8 = beS ((s' : Nat) : Int) 8 := by
    have := congrArg (List.take 8) h1
    rwa [List.take_left' (beS_len _ _), List.take_left' (beS_len _ _)] at this
  rw [h2] at h1
  have h3 := congrArg (List.drop 4) (List.append_cancel_left h1)
  rw [List.drop_left' (beS_len _ _), List.drop_left' (beS_len _ _)] at h3
  exact ⟨be_inj hs hs' (by decide) h2, h3⟩
end Go.Proofs.YtbbeoojlgfegjaaDoor
/- Journals: disks with a journal. No program. -/
namespace Go.Proofs.YtbbeoojlgfegjaaDoor
set_option linter.all false
open Go.RowKit
/-- the area of an index -/
def arS (d : Dk) (i : Nat) : List UInt8 := d.areas.getD i []
theorem read_in {d : Dk} {i : Nat} (h : d.off = false) (hi : i < d.areas.length) : readE d (i : Int) = 0 ∧ readS d (i : Int) = arS d i := by
  have hin : ¬ ¬ ((0 : Int) ≤ (i : Int) ∧ (i : Int) < d.areas.length) := by omega
  refine ⟨?_, ?_⟩
  · unfold readE
    rw [if_neg (by simp [h]), if_neg hin]
  · unfold readS arS
    rw [if_neg (by simp [h]), if_neg hin, Int.toNat_natCast]
/-- On, not to be cut, six areas. -/
structure OnN (N : Nat) (d : Dk) : Prop where
  le : N ≤ 64
  off : d.off = false
  ct : d.ct = 0
  wr : 0 ≤ d.wr
  len : d.areas.length = N
theorem OnN.cuts {N : Nat} {d : Dk} (h : OnN N d) : cutsS d = false := by unfold cutsS; rw [h.ct]; exact decide_eq_false (by have := h.wr; omega)
/-- a commit that is done -/
theorem commit_in {N : Nat} {d : Dk} (h : OnN N d) {k : Nat} (hk : k + 2 ≤ N) {s : Nat} {p : List UInt8} (h1 : 1 ≤ s) (h2 : s ≤ 1099511627776) (hp : p.length ≤ 60000) :
    commitE d k s p = 0 ∧ commitS d k s p = { d with areas := d.areas.set (k + s % 2) (recordS s p), wr := d.wr + 1 } := by
  have hle := h.le
  have hb : (seqS s && basedS k) = true := by
    unfold seqS basedS
    rw [decide_eq_true (by omega), decide_eq_true (by omega), decide_eq_true (by omega), decide_eq_true (by omega)]; rfl
  have hrl := record_len s p
  have hm : ((k : Nat) : Int) + ((s : Nat) : Int).tmod 2 = ((k + s % 2 : Nat) : Int) := by rw [tmod2 (by omega)]; omega
  have hi : k + s % 2 < d.areas.length := by rw [h.len]; omega
  refine ⟨?_, ?_⟩
  · unfold commitE
    rw [if_neg (by rw [hb]; decide), if_neg (by omega), hm, putE_in h.off hi (by omega), h.cuts]; rfl
  · unfold commitS
    rw [if_neg (by rw [hb]; decide), if_neg (by omega), hm]
    unfold writeS
    rw [putS_in h.off hi (by omega), h.cuts]
    have hw : ∀ old : List UInt8, write1S (!d.off && false) (bringS d (recordS s p).length) old (recordS s p) = recordS s p := by
      intro old
      unfold write1S bringS
      rw [h.cuts, if_neg (by decide), if_neg (by simp), List.take_length, List.append_nil]
    rw [hw]
    obtain ⟨ar, wr, ct, tn, off⟩ := d
    have hoff : off = false := h.off
    subst hoff
    congr 2
theorem OnN.set {N : Nat} {d : Dk} (h : OnN N d) (i : Nat) (x : List UInt8) : OnN N { d with areas := d.areas.set i x, wr := d.wr + 1 } := ⟨h.le, h.off, h.ct, by have := h.wr; show 0 ≤ d.wr + 1; omega, by simpa using h.len⟩
theorem ar_set {d : Dk} {i j : Nat} {x : List UInt8} {wr : Int} (hi : i < d.areas.length) : arS { d with areas := d.areas.set i x, wr := wr } j = if j = i then x else arS d j := by
  unfold arS
  simp only [List.getD, List.getElem?_set]
  by_cases h : j = i
  · rw [if_pos h.symm, if_pos h, if_pos hi]; rfl
  · rw [if_neg (fun e => h e.symm), if_neg h]
theorem best_new {b : Jr} (h : b.ok = true) (hs : 0 < b.s) : bestS noJr b = b := by unfold bestS; rw [h, decide_eq_true (show noJr.s < b.s from hs)]; rfl
theorem best_s (a b : Jr) {n : Int} (ha : a.s ≤ n) (hb : b.s ≤ n) : (bestS a b).s ≤ n := by unfold bestS; split <;> assumption
theorem best_up {a b : Jr} (h : b.ok = true) (hs : a.s < b.s) : bestS a b = b := by unfold bestS; rw [h, decide_eq_true hs]; rfl
theorem best_stay {a b : Jr} (h : b.ok = true → b.s ≤ a.s) : bestS a b = a := by
  unfold bestS
  rw [if_neg]
  intro hh
  simp only [Bool.and_eq_true, decide_eq_true_eq] at hh
  have := h hh.1
  omega
/-- both areas, the even one first -/
def ParS (d : Dk) (k q : Nat) : Jr := parseS (arS d (k + q)) (q : Int)
theorem rec_eq {N : Nat} {d : Dk} {k : Nat} (h : OnN N d) (hk : k + 2 ≤ N) : recS d k = bestS (bestS noJr (ParS d k 0)) (ParS d k 1) ∧ (recoverE d k = if (recS d k).ok = true then 0 else 30) := by
  have hle := h.le
  have h0 := read_in h.off (i := k) (by rw [h.len]; omega)
  have h1 := read_in h.off (i := k + 1) (by rw [h.len]; omega)
  have e1 : ((k : Nat) : Int) + 1 = ((k + 1 : Nat) : Int) := by omega
  refine ⟨?_, ?_⟩
  · unfold recS ParS
    rw [h0.2, e1, h1.2]; rfl
  · unfold recoverE
    have hb : basedS k = true := by unfold basedS; rw [decide_eq_true (by omega), decide_eq_true (by omega)]; rfl
    rw [if_neg (by rw [hb]; decide), h0.1, e1, h1.1, if_neg (by decide), if_neg (by decide)]
/-- the greater number wins -/
theorem rec_hi {N : Nat} {d : Dk} {k : Nat} (h : OnN N d) (hk : k + 2 ≤ N) {s : Nat} {p : List UInt8} (hs : 1 ≤ s) (ha : ParS d k (s % 2) = ⟨p, s, true⟩) (hb : (ParS d k ((s + 1) % 2)).ok = true → (ParS d k ((s + 1) % 2)).s < s) :
    recS d k = ⟨p, s, true⟩ ∧ recoverE d k = 0 := by
  obtain ⟨e1, e2⟩ := rec_eq h hk
  have key : recS d k = ⟨p, s, true⟩ := by
    rw [e1]
    rcases (show s % 2 = 0 ∨ s % 2 = 1 by omega) with h0 | h0
    · rw [h0] at ha
      rw [show (s + 1) % 2 = 1 by omega] at hb
      rw [ha, best_new rfl (by show (0 : Int) < s; omega)]
      exact best_stay fun hh => by have := hb hh; show _ ≤ (s : Int); omega
    · rw [h0] at ha
      rw [show (s + 1) % 2 = 0 by omega] at hb
      rw [ha]
      refine best_up rfl ?_
      show (bestS noJr (ParS d k 0)).s < (s : Int)
      unfold bestS
      split
      · rename_i hh
        simp only [Bool.and_eq_true] at hh
        exact hb hh.1
      · show (0 : Int) < s; omega
  refine ⟨key, ?_⟩
  rw [e2, key]; rfl
theorem rec_J {d : Dk} {k : Nat} {j : Jr} (h : recS d k = j ∧ recoverE d k = 0) : recoverJ d k = j := by unfold recoverJ; rw [if_pos h.2, h.1]
/-! a journal that grows -/
structure JInv (N : Nat) (d : Dk) (k i : Nat) : Prop where
  on : OnN N d
  le : ∀ q < 2, (ParS d k q).ok = true → (ParS d k q).s ≤ i
theorem no_nil (k : Int) : parseS [] k = noJr := by
  have h := parse_take (s := 1) (p := []) (k := k) (j := 0) (by decide) (by rw [record_len]; omega)
  rwa [List.take_zero] at h
theorem JInv.step {N : Nat} {d : Dk} {k i : Nat} (h : JInv N d k i) (hk : k + 2 ≤ N) {p : List UInt8} (hp : p.length ≤ 60000) (hi : i + 1 ≤ 1099511627776) :
    commitE d k ((i + 1 : Nat) : Int) p = 0 ∧ JInv N (commitS d k ((i + 1 : Nat) : Int) p) k (i + 1) ∧ recoverE (commitS d k ((i + 1 : Nat) : Int) p) k = 0 ∧ recoverJ (commitS d k ((i + 1 : Nat) : Int) p) k = ⟨p, ((i + 1 : Nat) : Int), true⟩ := by
  obtain ⟨e1, e2⟩ := commit_in h.on hk (s := i + 1) (by omega) hi hp
  have hlt : k + (i + 1) % 2 < d.areas.length := by rw [h.on.len]; omega
  have hon := h.on.set (k + (i + 1) % 2) (recordS ((i + 1 : Nat) : Int) p)
  have hnew : ParS (commitS d k ((i + 1 : Nat) : Int) p) k ((i + 1) % 2) = ⟨p, ((i + 1 : Nat) : Int), true⟩ := by
    unfold ParS
    rw [e2, ar_set hlt, if_pos rfl]
    have := parse_record (s := i + 1) (p := p) (tail := []) (k := (((i + 1) % 2 : Nat) : Int)) (by omega) (by omega) (by omega) (by rw [tmod2 (by omega)]; omega)
    rwa [List.append_nil] at this
  have hold : ParS (commitS d k ((i + 1 : Nat) : Int) p) k ((i + 1 + 1) % 2) = ParS d k ((i + 1 + 1) % 2) := by
    unfold ParS
    rw [e2, ar_set hlt, if_neg (by omega)]
  rw [← e2] at hon
  have hr := rec_hi hon hk (s := i + 1) (by omega) hnew (fun hh => by rw [hold] at hh ⊢; have := h.le _ (by omega) hh; omega)
  refine ⟨e1, ⟨hon, fun q hq hh => ?_⟩, hr.2, rec_J hr⟩
  rcases (show q = (i + 1) % 2 ∨ q = (i + 1 + 1) % 2 by omega) with rfl | rfl
  · rw [hnew]; exact Int.le_refl _
  · rw [hold] at hh ⊢
    have := h.le _ (by omega) hh
    omega
theorem new6_on : OnN 6 (newS 6) := ⟨by decide, rfl, rfl, by decide, by decide⟩
theorem new6_ar (i : Nat) : arS (newS 6) i = [] := by
  unfold arS newS
  simp only [List.getD, List.getElem?_replicate]
  split <;> rfl
theorem new6_inv (k : Nat) : JInv 6 (newS 6) k 0 := ⟨new6_on, fun q _ hh => by unfold ParS at hh; rw [new6_ar, no_nil] at hh; cases hh⟩
/-- payloads committed one after the other -/
def chainS (k : Nat) (l : List (List UInt8)) : Nat → Dk
  | 0 => newS 6
  | n + 1 => commitS (chainS k l n) k ((n + 1 : Nat) : Int) (l.getD n [])
theorem chain_inv (k : Nat) (hk : k ≤ 4) (l : List (List UInt8)) (hl : ∀ x ∈ l, x.length ≤ 60000) : ∀ n, n ≤ l.length → n ≤ 1000 → JInv 6 (chainS k l n) k n ∧ (chainS k l n).wr = n
  | 0, _, _ => ⟨new6_inv k, rfl⟩
  | n + 1, hn, h1 => by
    obtain ⟨ih, iw⟩ := chain_inv k hk l hl n (by omega) (by omega)
    have hx : l.getD n [] = l[n] := by simp [List.getD, show n < l.length by omega]
    have hp : (l.getD n []).length ≤ 60000 := by rw [hx]; exact hl _ (List.getElem_mem _)
    refine ⟨(ih.step (by omega) hp (by omega)).2.1, ?_⟩
    obtain ⟨_, e2⟩ := commit_in ih.on (k := k) (by omega) (s := n + 1) (by omega) (by omega) hp
    show (commitS (chainS k l n) k ((n + 1 : Nat) : Int) (l.getD n [])).wr = _
    rw [e2]
    show (chainS k l n).wr + 1 = _
    rw [iw]; omega
/-- what stands in both areas behind at least one commit -/
theorem chain_last (k : Nat) (hk : k ≤ 4) (l : List (List UInt8)) (hl : ∀ x ∈ l, x.length ≤ 60000) (n : Nat) (hn : n + 1 ≤ l.length) (h1 : n + 1 ≤ 1000) :
    arS (chainS k l (n + 1)) (k + (n + 1) % 2) = recordS ((n + 1 : Nat) : Int) (l.getD n []) ∧ ((n = 0 ∧ arS (chainS k l (n + 1)) (k + n % 2) = []) ∨ (1 ≤ n ∧ arS (chainS k l (n + 1)) (k + n % 2) = recordS ((n : Nat) : Int) (l.getD (n - 1) []))) := by
  have key : ∀ m, m + 1 ≤ l.length → m + 1 ≤ 1000 → commitS (chainS k l m) k ((m + 1 : Nat) : Int) (l.getD m []) = { chainS k l m with areas := (chainS k l m).areas.set (k + (m + 1) % 2) (recordS ((m + 1 : Nat) : Int) (l.getD m [])), wr := (chainS k l m).wr + 1 } ∧ k + (m + 1) % 2 < (chainS k l m).areas.length := by
    intro m hm h1
    obtain ⟨ih, _⟩ := chain_inv k hk l hl m (by omega) (by omega)
    have hx : l.getD m [] = l[m] := by simp [List.getD, show m < l.length by omega]
    have hp : (l.getD m []).length ≤ 60000 := by rw [hx]; exact hl _ (List.getElem_mem _)
    exact ⟨(commit_in ih.on (k := k) (by omega) (s := m + 1) (by omega) (by omega) hp).2, by rw [ih.on.len]; omega⟩
  obtain ⟨e1, e2⟩ := key n hn h1
  have hc : chainS k l (n + 1) = commitS (chainS k l n) k ((n + 1 : Nat) : Int) (l.getD n []) := rfl
  refine ⟨by rw [hc, e1, ar_set e2, if_pos rfl], ?_⟩
  rcases Nat.eq_zero_or_pos n with h0 | h0
  · subst h0
    left
    refine ⟨rfl, ?_⟩
    rw [hc, e1, ar_set e2, if_neg (by omega)]
    exact new6_ar _
  · right
    refine ⟨h0, ?_⟩
    obtain ⟨m, rfl⟩ : ∃ m, n = m + 1 := ⟨n - 1, by omega⟩
    obtain ⟨f1, f2⟩ := key m (by omega) (by omega)
    have hc2 : chainS k l (m + 1) = commitS (chainS k l m) k ((m + 1 : Nat) : Int) (l.getD m []) := rfl
    rw [hc, e1, ar_set e2, if_neg (by omega), hc2, f1, ar_set f2, if_pos rfl]
    rfl
theorem getD_le {l : List (List UInt8)} {L : Nat} (hl : ∀ x ∈ l, x.length ≤ L) (i : Nat) : (l.getD i []).length ≤ L := by
  rw [List.getD]
  cases hq : l[i]? with
  | none => simp
  | some x => exact hl x (List.mem_of_getElem? hq)
/-- no area is long -/
def Lens (d : Dk) (L : Nat) : Prop := ∀ l ∈ d.areas, l.length ≤ L
theorem Lens.commit {N : Nat} {d : Dk} {L : Nat} (h : Lens d L) (hn : OnN N d) {k s : Nat} (hk : k + 2 ≤ N) {p : List UInt8} (h1 : 1 ≤ s) (h2 : s ≤ 1099511627776) (hp : p.length ≤ 60000) (hL : 44 + p.length ≤ L) : Lens (commitS d k s p) L := by
  rw [(commit_in hn hk h1 h2 hp).2]
  intro l hl
  rcases List.mem_or_eq_of_mem_set hl with h3 | rfl
  · exact h l h3
  · rw [record_len]; omega
theorem Lens.new (k : Int) (L : Nat) : Lens (newS k) L := by
  intro l hl
  unfold newS at hl
  have := (List.mem_replicate.1 hl).2
  subst this
  exact Nat.zero_le _
theorem chain_lens (k : Nat) (hk : k ≤ 4) (l : List (List UInt8)) (L : Nat) (hL : 44 ≤ L) (hl : ∀ x ∈ l, 44 + x.length ≤ L) (hl2 : ∀ x ∈ l, x.length ≤ 60000) : ∀ n, n ≤ l.length → n ≤ 1000 → Lens (chainS k l n) L
  | 0, _, _ => Lens.new _ _
  | n + 1, hn, h1 => by
    have ih := chain_lens k hk l L hL hl hl2 n (by omega) (by omega)
    obtain ⟨hj, _⟩ := chain_inv k hk l hl2 n (by omega) (by omega)
    have hx : l.getD n [] = l[n] := by simp [List.getD, show n < l.length by omega]
    exact ih.commit hj.on (by omega) (by omega) (by omega) (getD_le hl2 n) (by rw [hx]; exact hl _ (List.getElem_mem _))
/-- a disk of two areas, its first record -/
theorem new2_inv : JInv 2 (newS 2) 0 0 := ⟨⟨by decide, rfl, rfl, by decide, rfl⟩, fun q hq hh => by
  have : arS (newS 2) (0 + q) = [] := by
    unfold arS newS
    simp only [List.getD, List.getElem?_replicate]
    split <;> rfl
  unfold ParS at hh
  rw [this, no_nil] at hh; cases hh⟩
theorem awake_jrn : commitE (newS 2) 0 1 [5] = 0 ∧ recoverE (commitS (newS 2) 0 1 [5]) 0 = 0 ∧ recoverJ (commitS (newS 2) 0 1 [5]) 0 = ⟨[5], 1, true⟩ ∧ Lens (commitS (newS 2) 0 1 [5]) 1000 := by
  obtain ⟨h1, h2, h3, h4⟩ := new2_inv.step (p := [5]) (by decide) (by decide) (by decide)
  have h5 := (Lens.new 2 1000).commit (k := 0) (s := 1) (p := [5]) new2_inv.on (by decide) (by decide) (by decide) (by decide) (by decide)
  exact ⟨h1, h3, h4, h5⟩
end Go.Proofs.YtbbeoojlgfegjaaDoor
