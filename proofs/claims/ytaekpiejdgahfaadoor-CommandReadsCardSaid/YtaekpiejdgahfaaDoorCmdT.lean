/- Commands: what is written is read; what is read is written. No program. -/
import Derived.Test.YtaekpiejdgahfaaDoorCmdL
namespace Go.Proofs.YtaekpiejdgahfaaDoor
set_option linter.all false
open Go.RowKit
/-! parts -/
def handsT (l : List Int) : List UInt8 := l.flatMap fun h => beS h 2
def blobT (x : List UInt8) : List UInt8 := beS ((x.length : Nat) : Int) 2 ++ x
def authT (a : Auth) : List UInt8 := beS a.ses 2 ++ (blobT a.nonce ++ blobT a.val)
def authsT (l : List Auth) : List UInt8 := l.flatMap authT
def intsT (l : List Int) : List UInt8 := l.flatMap fun z => beS z 8
def blobsT (l : List (List UInt8)) : List UInt8 := l.flatMap blobT
def tailT (q : Req) : List UInt8 := handsT q.hs ++ (authsT q.us ++ (intsT q.is ++ (beS ((q.bs.length : Nat) : Int) 1 ++ blobsT q.bs)))
theorem uintS_ok (b : List UInt8) (n : Int) (s : Int) (h1 : 1 ≤ s) (h8 : s ≤ 8) : uintS b s n = b ++ beS n s.toNat := by unfold uintS; rw [if_pos ⟨h1, h8⟩]
theorem blobS_eq (b x : List UInt8) (h : x.length ≤ 65535) : blobS b x = b ++ blobT x := by
  unfold blobS blobT
  rw [uintS_ok _ _ _ (by omega) (by omega), List.take_of_length_le h, Nat.min_eq_left h, List.append_assoc]
  rfl
theorem handsS_eq : ∀ (hs : List Int) (b : List UInt8), handsS b hs = b ++ handsT hs
  | [], b => by simp [handsS, handsT]
  | h :: r, b => by
    have ih := handsS_eq r (uintS b 2 h)
    unfold handsS at ih ⊢
    rw [List.foldl_cons, ih, uintS_ok _ _ _ (by omega) (by omega), List.append_assoc]; rfl
theorem intsS_eq : ∀ (hs : List Int) (b : List UInt8), intsS b hs = b ++ intsT hs
  | [], b => by simp [intsS, intsT]
  | h :: r, b => by
    have ih := intsS_eq r (uintS b 8 h)
    unfold intsS at ih ⊢
    rw [List.foldl_cons, ih, uintS_ok _ _ _ (by omega) (by omega), List.append_assoc]; rfl
theorem blobsS_eq : ∀ (ls : List (List UInt8)) (b : List UInt8), (∀ x ∈ ls, x.length ≤ 65535) → blobsS b ls = b ++ blobsT ls
  | [], b, _ => by simp [blobsS, blobsT]
  | x :: r, b, h => by
    have ih := blobsS_eq r (blobS b x) (fun y hy => h y (List.mem_cons_of_mem _ hy))
    unfold blobsS at ih ⊢
    rw [List.foldl_cons, ih, blobS_eq _ _ (h x List.mem_cons_self), List.append_assoc]; rfl
theorem authS_eq (b : List UInt8) (a : Auth) (h1 : a.nonce.length ≤ 65535) (h2 : a.val.length ≤ 65535) : authS b a = b ++ authT a := by
  unfold authS authT
  rw [blobS_eq _ _ h2, blobS_eq _ _ h1, uintS_ok _ _ _ (by omega) (by omega), List.append_assoc, List.append_assoc]; rfl
theorem authsS_eq : ∀ (ls : List Auth) (b : List UInt8), (∀ a ∈ ls, a.nonce.length ≤ 65535 ∧ a.val.length ≤ 65535) → authsS b ls = b ++ authsT ls
  | [], b, _ => by simp [authsS, authsT]
  | x :: r, b, h => by
    have ih := authsS_eq r (authS b x) (fun y hy => h y (List.mem_cons_of_mem _ hy))
    have hx := h x List.mem_cons_self
    unfold authsS at ih ⊢
    rw [List.foldl_cons, ih, authS_eq _ _ hx.1 hx.2, List.append_assoc]; rfl
theorem byteOf_be (n : Nat) (h : n < 4294967296) : [byteOf n] = beS ((n : Nat) : Int) 1 := by
  unfold beS beS byteOf byteAt
  congr 2
  rw [Nat.pow_zero, Nat.div_one]
  omega
theorem bodyS_eq (q : Req) (ha : ∀ a ∈ q.us, a.nonce.length ≤ 65535 ∧ a.val.length ≤ 65535) (hb : ∀ x ∈ q.bs, x.length ≤ 65535) (hn : q.bs.length < 4294967296) : bodyS q = headS q.code ++ tailT q := by
  unfold bodyS tailT
  rw [blobsS_eq _ _ hb, intsS_eq, authsS_eq _ _ ha, handsS_eq, byteOf_be _ hn]
  simp only [List.append_assoc]
theorem formS_eq (q : Req) (ha : ∀ a ∈ q.us, a.nonce.length ≤ 65535 ∧ a.val.length ≤ 65535) (hb : ∀ x ∈ q.bs, x.length ≤ 65535) (hn : q.bs.length < 4294967296) :
    formS q = 83 :: 87 :: byteAt (((tailT q).length + 5 : Nat) : Int) 1 :: byteAt (((tailT q).length + 5 : Nat) : Int) 0 :: byteOf q.code :: tailT q := by
  unfold formS
  rw [bodyS_eq q ha hb hn]
  have hl : (headS q.code ++ tailT q).length = (tailT q).length + 5 := by simp [headS]
  unfold lenIn
  rw [hl]
  rfl
/-! what is written is read -/
structure At (r : Rd) (post : List UInt8) : Prop where
  e : r.e = 0
  d : r.b.drop r.at_ = post
theorem At.left {r : Rd} {post : List UInt8} (h : At r post) : r.b.length - r.at_ = post.length := by rw [← h.d, List.length_drop]
theorem At.step {r : Rd} {x post : List UInt8} (h : At r (x ++ post)) : At ⟨r.b, r.at_ + x.length, 0⟩ post := ⟨rfl, by show r.b.drop (r.at_ + x.length) = post; rw [← List.drop_drop, h.d, List.drop_left]⟩
theorem rdUint_at {r : Rd} {post : List UInt8} (v : Nat) (s : Nat) (h1 : 1 ≤ s) (h8 : s ≤ 8) (hv : v < 256 ^ s) (hb : v ≤ 9223372036854775807) (h : At r (beS ((v : Nat) : Int) s ++ post)) :
    ∃ r', rdUint r ((s : Nat) : Int) = (r', ((v : Nat) : Int)) ∧ At r' post := by
  have hbv : beV (beS (v : Nat) s) = v := by rw [beV_beS' _ _ (by omega)]; exact Nat.mod_eq_of_lt hv
  have hs := h.step
  rw [beS_len] at hs
  refine ⟨_, ?_, hs⟩
  unfold rdUint
  rw [if_neg (by simp [h.e]), if_neg (by omega), if_neg (by rw [h.left, Int.toNat_natCast, List.length_append, beS_len]; omega), Int.toNat_natCast, h.d, List.take_left' (beS_len _ _), hbv, if_neg (by unfold tooBig; simp; omega), h.e]
theorem rdBlob_at {r : Rd} {post : List UInt8} (x : List UInt8) (most : Int) (hx : x.length ≤ 65535) (hm : (x.length : Int) ≤ most) (h : At r (blobT x ++ post)) :
    ∃ r', rdBlob r most = (r', x) ∧ At r' post := by
  have hbv : beV (beS ((x.length : Nat) : Int) 2) = x.length := by rw [beV_beS' _ _ (by omega)]; exact Nat.mod_eq_of_lt (by omega)
  have hs := h.step
  have hl : (blobT x).length = 2 + x.length := by unfold blobT; rw [List.length_append, beS_len]
  have hd := h.d
  have hd2 : r.b.drop (r.at_ + 2) = x ++ post := by rw [← List.drop_drop, hd]; unfold blobT; rw [List.append_assoc, List.drop_left' (beS_len _ _)]
  rw [hl] at hs
  refine ⟨_, ?_, hs⟩
  have ht : (r.b.drop r.at_).take 2 = beS ((x.length : Nat) : Int) 2 := by rw [hd]; unfold blobT; rw [List.append_assoc, List.take_left' (beS_len _ _)]
  unfold rdBlob
  rw [ht, hbv, hd2, h.left, List.length_append, hl]
  rw [if_neg (by simp [h.e]), if_neg (by omega), if_neg (by omega), if_neg (by omega), List.take_left, h.e]
def small16 (h : Int) : Prop := 0 ≤ h ∧ h < 65536
theorem handU_at {r : Rd} {post : List UInt8} (hs : List Int) (hw : ∀ h ∈ hs, small16 h) (h : At r (handsT hs ++ post)) : ∀ k, k ≤ hs.length → At (handU r k).1 (handsT (hs.drop k) ++ post) ∧ (handU r k).2 = hs.take k
  | 0, _ => ⟨by simpa [handU] using h, rfl⟩
  | k + 1, hk => by
    obtain ⟨ih, ih2⟩ := handU_at hs hw h k (by omega)
    have hx := hw hs[k] (List.getElem_mem _)
    obtain ⟨v, hv⟩ := Int.eq_ofNat_of_zero_le hx.1
    have hlt := hx.2
    rw [List.drop_eq_getElem_cons (show k < hs.length by omega)] at ih
    have e : handsT (hs[k] :: hs.drop (k + 1)) ++ post = beS ((v : Nat) : Int) 2 ++ (handsT (hs.drop (k + 1)) ++ post) := by rw [hv]; unfold handsT; rw [List.flatMap_cons, List.append_assoc]
    rw [e] at ih
    obtain ⟨r', h1, h2⟩ := rdUint_at v 2 (by decide) (by decide) (by omega) (by omega) ih
    have h1' : rdUint (handU r k).1 2 = (r', ((v : Nat) : Int)) := h1
    refine ⟨?_, ?_⟩
    · show At (rdUint (handU r k).1 2).1 _
      rw [h1']; exact h2
    · show (handU r k).2 ++ [(rdUint (handU r k).1 2).2] = _
      rw [h1', ih2, List.take_succ_eq_append_getElem (show k < hs.length by omega), hv]
theorem intU_at {r : Rd} {post : List UInt8} (hs : List Int) (hw : ∀ h ∈ hs, timeS h = true) (h : At r (intsT hs ++ post)) : ∀ k, k ≤ hs.length → At (intU r k).1 (intsT (hs.drop k) ++ post) ∧ (intU r k).2 = hs.take k
  | 0, _ => ⟨by simpa [intU] using h, rfl⟩
  | k + 1, hk => by
    obtain ⟨ih, ih2⟩ := intU_at hs hw h k (by omega)
    have hx := hw hs[k] (List.getElem_mem _)
    unfold timeS at hx
    simp only [Bool.and_eq_true, decide_eq_true_eq] at hx
    obtain ⟨v, hv⟩ := Int.eq_ofNat_of_zero_le hx.1
    have hlt := hx.2
    rw [List.drop_eq_getElem_cons (show k < hs.length by omega)] at ih
    have e : intsT (hs[k] :: hs.drop (k + 1)) ++ post = beS ((v : Nat) : Int) 8 ++ (intsT (hs.drop (k + 1)) ++ post) := by rw [hv]; unfold intsT; rw [List.flatMap_cons, List.append_assoc]
    rw [e] at ih
    obtain ⟨r', h1, h2⟩ := rdUint_at v 8 (by decide) (by decide) (by omega) (by omega) ih
    have h1' : rdUint (intU r k).1 8 = (r', ((v : Nat) : Int)) := h1
    refine ⟨?_, ?_⟩
    · show At (intR (intU r k).1).1 _
      rw [intR_ok (Or.inr (by rw [h1']; simp only; omega)), h1']; exact h2
    · show (intU r k).2 ++ [(rdUint (intU r k).1 8).2] = _
      rw [h1', ih2, List.take_succ_eq_append_getElem (show k < hs.length by omega), hv]
theorem blobU_at {r : Rd} {post : List UInt8} (most : Int) (ls : List (List UInt8)) (hw : ∀ x ∈ ls, x.length ≤ 65535 ∧ (x.length : Int) ≤ most) (h : At r (blobsT ls ++ post)) : ∀ k, k ≤ ls.length → At (blobU r most k).1 (blobsT (ls.drop k) ++ post) ∧ (blobU r most k).2 = ls.take k
  | 0, _ => ⟨by simpa [blobU] using h, rfl⟩
  | k + 1, hk => by
    obtain ⟨ih, ih2⟩ := blobU_at most ls hw h k (by omega)
    have hx := hw ls[k] (List.getElem_mem _)
    rw [List.drop_eq_getElem_cons (show k < ls.length by omega)] at ih
    have e : blobsT (ls[k] :: ls.drop (k + 1)) ++ post = blobT ls[k] ++ (blobsT (ls.drop (k + 1)) ++ post) := by unfold blobsT; rw [List.flatMap_cons, List.append_assoc]
    rw [e] at ih
    obtain ⟨r', h1, h2⟩ := rdBlob_at ls[k] most hx.1 hx.2 ih
    refine ⟨?_, ?_⟩
    · show At (rdBlob (blobU r most k).1 most).1 _
      rw [h1]; exact h2
    · show (blobU r most k).2 ++ [(rdBlob (blobU r most k).1 most).2] = _
      rw [h1, ih2, List.take_succ_eq_append_getElem (show k < ls.length by omega)]
theorem authU_at {r : Rd} {post : List UInt8} (us : List Auth) (hw : ∀ a ∈ us, small16 a.ses ∧ a.nonce.length ≤ 128 ∧ a.val.length ≤ 128) (h : At r (authsT us ++ post)) : ∀ k, k ≤ us.length → At (authU r k).1 (authsT (us.drop k) ++ post) ∧ (authU r k).2 = us.take k
  | 0, _ => ⟨by simpa [authU] using h, rfl⟩
  | k + 1, hk => by
    obtain ⟨ih, ih2⟩ := authU_at us hw h k (by omega)
    obtain ⟨hx, hn, hvl⟩ := hw us[k] (List.getElem_mem _)
    obtain ⟨v, hv⟩ := Int.eq_ofNat_of_zero_le hx.1
    have hlt := hx.2
    rw [List.drop_eq_getElem_cons (show k < us.length by omega)] at ih
    have e : authsT (us[k] :: us.drop (k + 1)) ++ post = beS ((v : Nat) : Int) 2 ++ (blobT us[k].nonce ++ (blobT us[k].val ++ (authsT (us.drop (k + 1)) ++ post))) := by unfold authsT; rw [List.flatMap_cons]; unfold authT; rw [hv]; simp only [List.append_assoc]
    rw [e] at ih
    obtain ⟨r1, h1, i1⟩ := rdUint_at v 2 (by decide) (by decide) (by omega) (by omega) ih
    obtain ⟨r2, h2, i2⟩ := rdBlob_at us[k].nonce 128 (by omega) (by omega) i1
    obtain ⟨r3, h3, i3⟩ := rdBlob_at us[k].val 128 (by omega) (by omega) i2
    have h1' : rdUint (authU r k).1 2 = (r1, ((v : Nat) : Int)) := h1
    have ha : authR (authU r k).1 = (r3, us[k]) := by
      unfold authR
      rw [h1']; simp only [h2, h3]
      congr 1
      rw [← hv]
    refine ⟨?_, ?_⟩
    · show At (authR (authU r k).1).1 _
      rw [ha]; exact i3
    · show (authU r k).2 ++ [(authR (authU r k).1).2] = _
      rw [ha, ih2, List.take_succ_eq_append_getElem (show k < us.length by omega)]
/-- A request that has a byte form. -/
structure Fine (q : Req) : Prop where
  ok : (shapeS q.code).ok = true
  h : (q.hs.length : Int) = (shapeS q.code).h
  a : (q.us.length : Int) = (shapeS q.code).a
  i : (q.is.length : Int) = (shapeS q.code).i
  b : fitsS (shapeS q.code).b q.bs.length = true
  hw : ∀ h ∈ q.hs, small16 h
  aw : ∀ a ∈ q.us, small16 a.ses ∧ a.nonce.length ≤ 128 ∧ a.val.length ≤ 128
  iw : ∀ z ∈ q.is, timeS z = true
  bw : ∀ x ∈ q.bs, x.length ≤ 1024
  len : (formS q).length ≤ 2048
theorem wordS_iff (h : Int) : wordS h = true ↔ small16 h := by unfold wordS small16; simp; omega
theorem fine_iff (q : Req) : checkS q = 0 ↔ Fine q := by
  unfold checkS
  constructor
  · intro h
    split at h
    · cases h
    · split at h
      · cases h
      · split at h
        · cases h
        · rename_i h1 h2 h3
          simp only [Bool.not_eq_false] at h1 h2
          unfold argOk argF at h2
          unfold longS at h3
          simp only [Bool.and_eq_true, decide_eq_true_eq, List.all_eq_true] at h2
          simp only [Bool.not_eq_true', Bool.not_eq_true, Bool.not_eq_false', Bool.not_eq_false, Bool.and_eq_true, decide_eq_true_eq, List.all_eq_true] at h3
          obtain ⟨⟨⟨⟨e1, e2, e3, e4⟩, e5⟩, e6⟩, e7⟩ := h2
          obtain ⟨⟨f1, f2⟩, f3⟩ := h3
          refine ⟨h1, e1, e2, e3, e4, fun h hh => (wordS_iff h).1 (e5 h hh), fun a ha => ⟨(wordS_iff _).1 (e6 a ha), ?_⟩, e7, fun x hx => ?_, by omega⟩
          · have := f1 a ha
            unfold authShort at this
            simp only [Bool.and_eq_true, decide_eq_true_eq] at this
            omega
          · have := f2 x hx
            unfold blobShort at this
            simp only [decide_eq_true_eq] at this
            omega
  · intro h
    rw [if_neg (by rw [h.ok]; decide), if_neg, if_neg]
    · unfold longS
      simp only [Bool.not_eq_true', Bool.not_eq_true, Bool.not_eq_false', Bool.not_eq_false, Bool.and_eq_true, decide_eq_true_eq, List.all_eq_true]
      refine ⟨⟨fun a ha => ?_, fun x hx => ?_⟩, by have := h.len; omega⟩
      · have := h.aw a ha
        unfold authShort
        simp only [Bool.and_eq_true, decide_eq_true_eq]
        omega
      · have := h.bw x hx
        unfold blobShort
        simp only [decide_eq_true_eq]
        omega
    · unfold argOk argF
      simp only [Bool.not_eq_false, Bool.and_eq_true, decide_eq_true_eq, List.all_eq_true]
      exact ⟨⟨⟨⟨h.h, h.a, h.i, h.b⟩, fun x hx => (wordS_iff x).2 (h.hw x hx)⟩, fun a ha => (wordS_iff _).2 (h.aw a ha).1⟩, h.iw⟩
theorem Fine.count {q : Req} (h : Fine q) : q.bs.length ≤ 8 := by
  have hb := h.b
  have hs := shape_bounds q.code
  unfold fitsS at hb
  simp only [Bool.or_eq_true, Bool.and_eq_true, decide_eq_true_eq] at hb
  omega
theorem Fine.form {q : Req} (h : Fine q) : formS q = 83 :: 87 :: byteAt (((tailT q).length + 5 : Nat) : Int) 1 :: byteAt (((tailT q).length + 5 : Nat) : Int) 0 :: byteOf q.code :: tailT q :=
  formS_eq q (fun a ha => by have := h.aw a ha; omega) (fun x hx => by have := h.bw x hx; omega) (by have := h.count; omega)
theorem byteAt_two (n : Nat) (h : n < 65536) : (byteAt ((n : Nat) : Int) 1).toNat * 256 + (byteAt ((n : Nat) : Int) 0).toNat = n := by
  unfold byteAt
  rw [UInt8.toNat_ofNat', UInt8.toNat_ofNat']
  have : (((n : Nat) : Int) % 18446744073709551616).toNat = n := by omega
  rw [this]
  simp only [Nat.pow_one, Nat.pow_zero, Nat.div_one]
  omega
theorem shape_range {code : Int} (h : (shapeS code).ok = true) : 1 ≤ code ∧ code < 34 := by
  unfold shapeS at h
  split at h
  · rename_i hc
    refine ⟨?_, hc.2⟩
    rcases Int.lt_or_le 0 code with h0 | h0
    · omega
    · obtain rfl : code = 0 := by omega
      exact absurd h (by decide)
  · cases h
theorem start_form {t : List UInt8} {code : Int} (hc : 1 ≤ code ∧ code < 34) (hl : t.length + 5 ≤ 2048) :
    startE (83 :: 87 :: byteAt ((t.length + 5 : Nat) : Int) 1 :: byteAt ((t.length + 5 : Nat) : Int) 0 :: byteOf code :: t) = 0 ∧ startC (83 :: 87 :: byteAt ((t.length + 5 : Nat) : Int) 1 :: byteAt ((t.length + 5 : Nat) : Int) 0 :: byteOf code :: t) = code := by
  have h2 := byteAt_two (t.length + 5) (by omega)
  generalize byteAt ((t.length + 5 : Nat) : Int) 1 = x at *
  generalize byteAt ((t.length + 5 : Nat) : Int) 0 = y at *
  have hla : lenAt (83 :: 87 :: x :: y :: byteOf code :: t) = t.length + 5 := h2
  have hln : (83 :: 87 :: x :: y :: byteOf code :: t).length = t.length + 5 := rfl
  have hs : startE (83 :: 87 :: x :: y :: byteOf code :: t) = 0 := by
    unfold startE
    rw [hla, hln, if_neg (by omega), if_neg (by omega), if_neg (show ¬ (gb1 (83 :: 87 :: x :: y :: byteOf code :: t) 0 ≠ 83 ∨ gb1 (83 :: 87 :: x :: y :: byteOf code :: t) 1 ≠ 87) from by intro h; rcases h with h | h <;> exact h rfl), if_neg (by omega), if_neg (by omega)]
  refine ⟨hs, ?_⟩
  unfold startC
  rw [if_pos hs]
  show ((byteOf code).toNat : Int) = code
  rw [← byteOf_int]
  simp [IntKind.wrap, IntKind.bits, IntKind.signed]
  omega
theorem dec_form {q : Req} (h : Fine q) : decP (formS q) = (q, 0) := by
  have hlen := h.len
  have hf := h.form
  have hrg := shape_range h.ok
  rw [hf] at hlen ⊢
  have hln : (tailT q).length + 5 ≤ 2048 := hlen
  obtain ⟨s1, s2⟩ := start_form (t := tailT q) hrg hln
  unfold decP
  rw [s1, s2, if_neg (by decide), h.ok, if_neg (by decide)]
  show (decQ (shapeS q.code) ⟨tailT q, 0, 0⟩ q.code, decE (shapeS q.code) ⟨tailT q, 0, 0⟩) = (q, 0)
  have hA : At ⟨tailT q, 0, 0⟩ (handsT q.hs ++ (authsT q.us ++ (intsT q.is ++ (beS ((q.bs.length : Nat) : Int) 1 ++ (blobsT q.bs ++ []))))) := ⟨rfl, by show tailT q = _; unfold tailT; rw [List.append_nil]⟩
  obtain ⟨a1, v1⟩ := handU_at q.hs h.hw hA q.hs.length (Nat.le_refl _)
  rw [List.drop_length] at a1
  rw [List.take_length] at v1
  have k1 : (shapeS q.code).h.toNat = q.hs.length := by have := h.h; omega
  have e1 : stH (shapeS q.code) ⟨tailT q, 0, 0⟩ = handU ⟨tailT q, 0, 0⟩ q.hs.length := by unfold stH; rw [k1]
  obtain ⟨a2, v2⟩ := authU_at q.us h.aw a1 q.us.length (Nat.le_refl _)
  rw [List.drop_length] at a2
  rw [List.take_length] at v2
  have k2 : (shapeS q.code).a.toNat = q.us.length := by have := h.a; omega
  have e2 : stU (shapeS q.code) ⟨tailT q, 0, 0⟩ = authU (handU ⟨tailT q, 0, 0⟩ q.hs.length).1 q.us.length := by unfold stU; rw [k2, e1]
  obtain ⟨a3, v3⟩ := intU_at q.is h.iw a2 q.is.length (Nat.le_refl _)
  rw [List.drop_length] at a3
  rw [List.take_length] at v3
  have k3 : (shapeS q.code).i.toNat = q.is.length := by have := h.i; omega
  have e3 : stI (shapeS q.code) ⟨tailT q, 0, 0⟩ = intU (authU (handU ⟨tailT q, 0, 0⟩ q.hs.length).1 q.us.length).1 q.is.length := by unfold stI; rw [k3, e2]
  have hcn := h.count
  obtain ⟨r4, h4, a4⟩ := rdUint_at q.bs.length 1 (by decide) (by decide) (by omega) (by omega) a3
  have h4' : stN (shapeS q.code) ⟨tailT q, 0, 0⟩ = (r4, ((q.bs.length : Nat) : Int)) := by unfold stN; rw [e3]; exact h4
  have e5 : stR (shapeS q.code) ⟨tailT q, 0, 0⟩ = r4 := by rw [stR_ok (Or.inr (by rw [h4']; exact h.b)), h4']
  obtain ⟨a6, v6⟩ := blobU_at 1024 q.bs (fun x hx => by have := h.bw x hx; omega) a4 q.bs.length (Nat.le_refl _)
  rw [List.drop_length] at a6
  rw [List.take_length] at v6
  have e6 : stB (shapeS q.code) ⟨tailT q, 0, 0⟩ = blobU r4 1024 q.bs.length := by unfold stB; rw [h4', e5]; rfl
  have hE : decE (shapeS q.code) ⟨tailT q, 0, 0⟩ = 0 := by
    unfold decE
    rw [e6]
    have hl := a6.left
    have hl0 : (blobU r4 1024 q.bs.length).1.b.length - (blobU r4 1024 q.bs.length).1.at_ = 0 := hl
    have hle : rdLeft (blobU r4 1024 q.bs.length).1 = ((blobU r4 1024 q.bs.length).1.b.length : Int) - (blobU r4 1024 q.bs.length).1.at_ := rfl
    unfold rdEnd
    rw [if_neg (fun hh => by rw [hle] at hh; omega)]
    exact a6.e
  rw [hE]
  unfold decQ
  rw [if_pos hE, e1, e2, e3, e6, v1, v2, v3, v6]
end Go.Proofs.YtaekpiejdgahfaaDoor
