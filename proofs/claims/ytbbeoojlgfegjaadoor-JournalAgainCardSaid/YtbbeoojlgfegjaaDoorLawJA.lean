/- JournalAtomic: interrupted commits, in plain words, and the walk. -/
import Derived.Test.YtbbeoojlgfegjaaDoorJrnG
namespace Go.Proofs.YtbbeoojlgfegjaaDoor
set_option linter.all false
open Go.RowKit
theorem byte_hi {v i : Nat} (hv : v < 256) (hi : 1 ≤ i) : byteAt ((v : Nat) : Int) i = 0 := by
  unfold byteAt
  have h1 : (((v : Nat) : Int) % 18446744073709551616).toNat = v := by omega
  have h2 : 256 ^ 1 ≤ 256 ^ i := Nat.pow_le_pow_right (by decide) hi
  rw [h1, Nat.div_eq_of_lt (by omega)]; rfl
theorem be8_small {v : Nat} (hv : v < 256) : beS ((v : Nat) : Int) 8 = [0, 0, 0, 0, 0, 0, 0, byteAt ((v : Nat) : Int) 0] := by
  simp only [beS]
  rw [byte_hi hv (show 1 ≤ 7 by decide), byte_hi hv (show 1 ≤ 6 by decide), byte_hi hv (show 1 ≤ 5 by decide), byte_hi hv (show 1 ≤ 4 by decide), byte_hi hv (show 1 ≤ 3 by decide), byte_hi hv (show 1 ≤ 2 by decide), byte_hi hv (show 1 ≤ 1 by decide)]
theorem rec_num {s : Nat} {p : List UInt8} (i : Nat) (hi : i < 8) : (recordS s p)[32 + i]? = (beS ((s : Nat) : Int) 8)[i]? := by
  rw [record_eq, List.getElem?_append_right (by rw [markS_len]; omega), markS_len, Nat.add_sub_cancel_left, List.getElem?_append_left (by rw [beS_len]; exact hi)]
/-- what an interrupted write leaves -/
def mixS (old rec : List UInt8) (torn : Int) : List UInt8 := write1S true (tornS torn rec.length) old rec
theorem mix_len (old rec : List UInt8) (torn : Int) : (mixS old rec torn).length ≤ old.length + rec.length := by
  unfold mixS write1S
  rw [List.length_append, List.length_take]
  split
  · rw [List.length_drop]; omega
  · simp only [List.length_nil]; omega
theorem mix_all {old rec : List UInt8} {torn : Int} (h : (rec.length : Int) ≤ torn) : ∃ t, mixS old rec torn = rec ++ t := by
  unfold mixS write1S tornS
  rw [Nat.min_eq_right (by omega), List.take_length]
  exact ⟨_, rfl⟩
theorem mix_ok {old : List UInt8} {s : Nat} {p : List UInt8} {torn q : Int} (hs : 1 ≤ s) (hs2 : s ≤ 200) (ho : old = [] ∨ ∃ (r : Nat) (x : List UInt8), r + 1 = s ∧ old = recordS ((r : Nat) : Int) x) (h : okS (mixS old (recordS ((s + 1 : Nat) : Int) p) torn) q = true) :
    ∃ s' : Nat, (ra2 (mixS old (recordS ((s + 1 : Nat) : Int) p) torn)).2 = s' ∧ 1 ≤ s' ∧ (s' + 1 = s ∨ (s' = s + 1 ∧ markS s' (ra4 (mixS old (recordS ((s + 1 : Nat) : Int) p) torn)).2 = markS ((s + 1 : Nat) : Int) p)) := by
  obtain ⟨s', tail, h2, h1', h63, hpar, hpl, hm⟩ := ok_inv h
  generalize (ra4 (mixS old (recordS ((s + 1 : Nat) : Int) p) torn)).2 = p' at *
  refine ⟨s', h2, h1', ?_⟩
  have hrl := record_len ((s + 1 : Nat) : Int) p
  generalize hR : recordS ((s + 1 : Nat) : Int) p = rec at *
  have hlen : 44 ≤ (mixS old rec torn).length := by rw [hm]; simp only [List.length_append, markS_len, beS_len]; omega
  obtain ⟨j, hj⟩ : ∃ j, j = tornS torn rec.length := ⟨_, rfl⟩
  have hjl : j ≤ rec.length := by rw [hj]; unfold tornS; exact Nat.min_le_right _ _
  have hmix : mixS old rec torn = rec.take j ++ if true = true ∧ j < old.length then old.drop j else [] := by unfold mixS write1S; rw [← hj]
  rw [hmix] at hm hlen
  rcases Nat.lt_or_ge j 40 with h40 | h40
  · left
    have hjo : j < old.length := by
      rcases Nat.lt_or_ge j old.length with h | h
      · exact h
      · rw [if_neg (by omega), List.length_append, List.length_take, List.length_nil] at hlen; omega
    rw [if_pos ⟨rfl, hjo⟩] at hm
    rcases ho with rfl | ⟨r, x, hr, rfl⟩
    · simp at hjo
    · have hnum : (beS ((s' : Nat) : Int) 8) = (beS ((r : Nat) : Int) 8) := by
        apply List.ext_getElem?
        intro i
        rcases Nat.lt_or_ge i 8 with hi | hi
        · have e1 : (rec.take j ++ (recordS ((r : Nat) : Int) x).drop j)[32 + i]? = (beS ((s' : Nat) : Int) 8)[i]? := by
            rw [hm, List.getElem?_append_right (by rw [markS_len]; omega), markS_len, Nat.add_sub_cancel_left, List.getElem?_append_left (by rw [beS_len]; exact hi)]
          rw [← e1]
          rcases Nat.lt_or_ge (32 + i) j with hlt | hge
          · rw [List.getElem?_append_left (by rw [List.length_take]; omega), List.getElem?_take, if_pos hlt, ← hR, rec_num i hi, be8_small (show s + 1 < 256 by omega), be8_small (show r < 256 by omega)]
            have hi7 : i < 7 := by omega
            match i, hi7 with
            | 0, _ => rfl
            | 1, _ => rfl
            | 2, _ => rfl
            | 3, _ => rfl
            | 4, _ => rfl
            | 5, _ => rfl
            | 6, _ => rfl
          · rw [List.getElem?_append_right (by rw [List.length_take]; omega), List.length_take, Nat.min_eq_left hjl, List.getElem?_drop, show j + (32 + i - j) = 32 + i by omega, rec_num i hi]
        · rw [List.getElem?_eq_none (by rw [beS_len]; exact hi), List.getElem?_eq_none (by rw [beS_len]; exact hi)]
      have := be_inj (a := s') (b := r) (by omega) (by omega) (by decide) hnum
      omega
  · right
    have h40' : (rec.take j ++ if true = true ∧ j < old.length then old.drop j else []).take 40 = markS ((s + 1 : Nat) : Int) p ++ beS ((s + 1 : Nat) : Int) 8 := by
      rw [List.take_append_of_le_length (by rw [List.length_take]; omega), List.take_take, Nat.min_eq_left h40, ← hR, record_eq, ← List.append_assoc, List.take_left' (by rw [List.length_append, markS_len, beS_len])]
    rw [hm, ← List.append_assoc, List.take_left' (by rw [List.length_append, markS_len, beS_len])] at h40'
    obtain ⟨e1, e2⟩ := List.append_inj h40' (by rw [markS_len, markS_len])
    exact ⟨be_inj (a := s') (b := s + 1) (by omega) (by omega) (by decide) e2, e1⟩
theorem commit_cut {N : Nat} {d : Dk} (h : OnN N d) {k : Nat} (hk : k + 2 ≤ N) {s : Nat} {p : List UInt8} (h1 : 1 ≤ s) (h2 : s ≤ 1099511627776) (hp : p.length ≤ 60000) (torn : Int) :
    commitE (cutDS d (d.wr + 1) torn) k s p = 29 ∧ commitS (cutDS d (d.wr + 1) torn) k s p = ⟨d.areas.set (k + s % 2) (mixS (arS d (k + s % 2)) (recordS s p) torn), d.wr + 1, d.wr + 1, torn, true⟩ := by
  have hle := h.le
  have hb : (seqS s && basedS k) = true := by
    unfold seqS basedS
    rw [decide_eq_true (by omega), decide_eq_true (by omega), decide_eq_true (by omega), decide_eq_true (by omega)]; rfl
  have hrl := record_len s p
  have hm : ((k : Nat) : Int) + ((s : Nat) : Int).tmod 2 = ((k + s % 2 : Nat) : Int) := by rw [tmod2 (by omega)]; omega
  have hi : k + s % 2 < d.areas.length := by rw [h.len]; omega
  have hc : cutsS (cutDS d (d.wr + 1) torn) = true := by unfold cutsS cutDS; exact decide_eq_true rfl
  have hoff : (cutDS d (d.wr + 1) torn).off = false := h.off
  refine ⟨?_, ?_⟩
  · unfold commitE
    rw [if_neg (by rw [hb]; decide), if_neg (by omega), hm, putE_in hoff hi (by omega), hc]; rfl
  · unfold commitS
    rw [if_neg (by rw [hb]; decide), if_neg (by omega), hm]
    unfold writeS
    rw [putS_in hoff hi (by omega), hc, hoff]
    have har : arS d (k + s % 2) = d.areas[k + s % 2] := by unfold arS; simp [List.getD, hi]
    have hbr : bringS (cutDS d (d.wr + 1) torn) (recordS s p).length = tornS torn (recordS s p).length := by unfold bringS; rw [hc]; rfl
    rw [har, hbr]
    rfl
/-- the disk behind an interrupted commit, switched on again -/
def cutY (d : Dk) (k s : Nat) (p : List UInt8) (torn : Int) : Dk := restartS (commitS (cutDS d (d.wr + 1) torn) k s p)
theorem cut_S {d : Dk} {k s : Nat} {first payload : List UInt8} (torn : Int) (hk : k + 2 ≤ 6) (hs : 1 ≤ s) (hs2 : s ≤ 200) (hp : payload.length ≤ 60000) (hf : first.length ≤ 60000) (h : JInv 6 d k s) (hA : arS d (k + s % 2) = recordS s first)
    (hB : arS d (k + (s + 1) % 2) = [] ∨ ∃ (r : Nat) (x : List UInt8), r + 1 = s ∧ arS d (k + (s + 1) % 2) = recordS ((r : Nat) : Int) x) :
    commitE (cutDS d (d.wr + 1) torn) k ((s + 1 : Nat) : Int) payload = 29 ∧ (commitS (cutDS d (d.wr + 1) torn) k ((s + 1 : Nat) : Int) payload).areas.length = d.areas.length ∧ recoverE (cutY d k (s + 1) payload torn) k = 0 ∧
    (∃ i : Nat, (recoverJ (cutY d k (s + 1) payload torn) k).s = i ∧ JInv 6 (cutY d k (s + 1) payload torn) k i ∧ i ≤ s + 1 ∧ ((i = s ∧ (recoverJ (cutY d k (s + 1) payload torn) k).p = first) ∨ (i = s + 1 ∧ markS i (recoverJ (cutY d k (s + 1) payload torn) k).p = markS ((s + 1 : Nat) : Int) payload))) ∧
    (44 + (payload.length : Int) ≤ torn → recoverJ (cutY d k (s + 1) payload torn) k = ⟨payload, ((s + 1 : Nat) : Int), true⟩) := by
  obtain ⟨e1, e2⟩ := commit_cut h.on hk (s := s + 1) (by omega) (by omega) hp torn
  have hlt : k + (s + 1) % 2 < d.areas.length := by rw [h.on.len]; omega
  generalize hmx : mixS (arS d (k + (s + 1) % 2)) (recordS ((s + 1 : Nat) : Int) payload) torn = mx at *
  have hy : cutY d k (s + 1) payload torn = ⟨d.areas.set (k + (s + 1) % 2) mx, 0, 0, 0, false⟩ := by unfold cutY; rw [e2]; rfl
  have hon : OnN 6 (cutY d k (s + 1) payload torn) := by rw [hy]; exact ⟨by decide, rfl, rfl, Int.le_refl _, by simpa using h.on.len⟩
  generalize hyy : cutY d k (s + 1) payload torn = y at *
  have ho : ParS y k (s % 2) = ⟨first, s, true⟩ := by
    have hr := parse_record (s := s) (p := first) (tail := []) (k := ((s % 2 : Nat) : Int)) hs (by omega) (by omega) (by rw [tmod2 (by omega)]; omega)
    rw [List.append_nil] at hr
    have har : arS y (k + s % 2) = recordS s first := by
      rw [hy, ← hA]
      unfold arS
      simp only [List.getD, List.getElem?_set]
      rw [if_neg (by omega)]
    unfold ParS
    rw [har]; exact hr
  have hn : ParS y k ((s + 1) % 2) = parseS mx (((s + 1) % 2 : Nat) : Int) := by
    unfold ParS
    have har : arS y (k + (s + 1) % 2) = mx := by
      rw [hy]
      unfold arS
      simp only [List.getD, List.getElem?_set]
      rw [if_pos trivial, if_pos hlt]; rfl
    rw [har]
  have hq : ∀ q < 2, q = s % 2 ∨ q = (s + 1) % 2 := fun q hq => by omega
  have hlow : ((ParS y k ((s + 1) % 2)).ok = true → (ParS y k ((s + 1) % 2)).s < s) → recoverE y k = 0 ∧ recoverJ y k = ⟨first, s, true⟩ ∧ JInv 6 y k s := fun hb => by
    have hr := rec_hi hon hk (s := s) hs ho hb
    refine ⟨hr.2, rec_J hr, hon, fun q hq2 hh => ?_⟩
    rcases hq q hq2 with rfl | rfl
    · rw [ho]; exact Int.le_refl _
    · have := hb hh; omega
  have hhigh : ∀ p', ParS y k ((s + 1) % 2) = ⟨p', ((s + 1 : Nat) : Int), true⟩ → recoverE y k = 0 ∧ recoverJ y k = ⟨p', ((s + 1 : Nat) : Int), true⟩ ∧ JInv 6 y k (s + 1) := fun p' hb => by
    have hr := rec_hi hon hk (s := s + 1) (by omega) hb (fun hh => by rw [show (s + 1 + 1) % 2 = s % 2 by omega, ho]; show (s : Int) < ((s + 1 : Nat) : Int); omega)
    refine ⟨hr.2, rec_J hr, hon, fun q hq2 hh => ?_⟩
    rcases hq q hq2 with rfl | rfl
    · rw [ho]; show (s : Int) ≤ ((s + 1 : Nat) : Int); omega
    · rw [hb]; exact Int.le_refl _
  refine ⟨e1, by rw [e2]; simp, ?_⟩
  have hfull : 44 + (payload.length : Int) ≤ torn → ParS y k ((s + 1) % 2) = ⟨payload, ((s + 1 : Nat) : Int), true⟩ := fun ht => by
    obtain ⟨t, h3⟩ := mix_all (old := arS d (k + (s + 1) % 2)) (rec := recordS ((s + 1 : Nat) : Int) payload) (torn := torn) (by rw [record_len]; omega)
    rw [hmx] at h3
    rw [hn, h3]
    exact parse_record (by omega) (by omega) (by omega) (by rw [tmod2 (by omega)]; omega)
  by_cases hok : okS mx (((s + 1) % 2 : Nat) : Int) = true
  · obtain ⟨s', g1, g2, g3⟩ := mix_ok (torn := torn) (p := payload) (q := (((s + 1) % 2 : Nat) : Int)) hs hs2 hB (by rw [hmx]; exact hok)
    rw [hmx] at g1 g3
    have hpar : ParS y k ((s + 1) % 2) = ⟨(ra4 mx).2, (s' : Int), true⟩ := by rw [hn]; unfold parseS; rw [if_pos hok, g1]
    rcases g3 with g3 | ⟨rfl, g4⟩
    · obtain ⟨r1, r2, r3⟩ := hlow (fun _ => by rw [hpar]; show (s' : Int) < s; omega)
      refine ⟨r1, ⟨s, by rw [r2], r3, by omega, .inl ⟨rfl, by rw [r2]⟩⟩, fun ht => ?_⟩
      have := hfull ht
      rw [hpar] at this
      have h4 := congrArg Jr.s this
      exfalso
      have h5 : (s' : Int) = ((s + 1 : Nat) : Int) := h4
      omega
    · obtain ⟨r1, r2, r3⟩ := hhigh _ hpar
      refine ⟨r1, ⟨s + 1, by rw [r2], r3, by omega, .inr ⟨rfl, by rw [r2]; exact g4⟩⟩, fun ht => ?_⟩
      rw [r2, ← hpar, hfull ht]
  · have hno : ParS y k ((s + 1) % 2) = noJr := by rw [hn]; unfold parseS; rw [if_neg hok]
    obtain ⟨r1, r2, r3⟩ := hlow (fun hh => by rw [hno] at hh; cases hh)
    refine ⟨r1, ⟨s, by rw [r2], r3, by omega, .inl ⟨rfl, by rw [r2]⟩⟩, fun ht => ?_⟩
    have := hfull ht
    rw [hno] at this
    cases this
theorem lens_set {l : List (List UInt8)} {i : Nat} {x : List UInt8} {L : Nat} (h : ∀ y ∈ l, y.length ≤ L) (hx : x.length ≤ L) : ∀ y ∈ l.set i x, y.length ≤ L := fun y hy => by
  rcases List.mem_or_eq_of_mem_set hy with h3 | rfl
  · exact h y h3
  · exact hx
theorem ar_le {d : Dk} {L i : Nat} (h : Lens d L) : (arS d i).length ≤ L := getD_le h i
theorem cut_lens {d : Dk} {k s : Nat} {p : List UInt8} {torn : Int} {L : Nat} (h : OnN 6 d) (hk : k + 2 ≤ 6) (hs : 1 ≤ s) (hs2 : s ≤ 200) (hp : p.length ≤ 60000) (hL : Lens d L) : Lens (commitS (cutDS d (d.wr + 1) torn) k s p) (L + (44 + p.length)) := by
  rw [(commit_cut h hk hs (by omega) hp torn).2]
  refine lens_set (fun y hy => by have := hL y hy; omega) ?_
  have h1 := mix_len (arS d (k + s % 2)) (recordS s p) torn
  have h2 := ar_le (i := k + s % 2) hL
  rw [record_len] at h1
  omega
/-- a chain of payloads with one more -/
theorem chain_cut (k : Nat) (hk : k ≤ 4) (l : List (List UInt8)) (first : List UInt8) (hl : ∀ x ∈ l, x.length ≤ 60) (hf : first.length ≤ 60) (hn : l.length ≤ 10) :
    JInv 6 (chainS k (l ++ [first]) (l.length + 1)) k (l.length + 1) ∧ (chainS k (l ++ [first]) (l.length + 1)).wr = ((l.length + 1 : Nat) : Int) ∧ Lens (chainS k (l ++ [first]) (l.length + 1)) 200 ∧ arS (chainS k (l ++ [first]) (l.length + 1)) (k + (l.length + 1) % 2) = recordS ((l.length + 1 : Nat) : Int) first ∧
    (arS (chainS k (l ++ [first]) (l.length + 1)) (k + (l.length + 1 + 1) % 2) = [] ∨ ∃ (r : Nat) (x : List UInt8), r + 1 = l.length + 1 ∧ arS (chainS k (l ++ [first]) (l.length + 1)) (k + (l.length + 1 + 1) % 2) = recordS ((r : Nat) : Int) x) ∧
    recoverE (chainS k (l ++ [first]) (l.length + 1)) k = 0 ∧ recoverJ (chainS k (l ++ [first]) (l.length + 1)) k = ⟨first, ((l.length + 1 : Nat) : Int), true⟩ := by
  have hall : ∀ x ∈ l ++ [first], x.length ≤ 60 := fun x hx => by
    rcases List.mem_append.1 hx with h | h
    · exact hl x h
    · rw [List.mem_singleton.1 h]; exact hf
  have hall' : ∀ x ∈ l ++ [first], x.length ≤ 60000 := fun x hx => by have := hall x hx; omega
  have hlen : (l ++ [first]).length = l.length + 1 := by simp
  obtain ⟨h1, h2⟩ := chain_inv k hk _ hall' (l.length + 1) (by omega) (by omega)
  obtain ⟨h3, h4⟩ := chain_last k hk _ hall' l.length (by omega) (by omega)
  have hg : (l ++ [first]).getD l.length [] = first := by simp [List.getD]
  rw [hg] at h3
  obtain ⟨h0, _⟩ := chain_inv k hk _ hall' l.length (by omega) (by omega)
  obtain ⟨_, _, s3, s4⟩ := h0.step (by omega) (p := (l ++ [first]).getD l.length []) (by rw [hg]; omega) (by omega)
  rw [hg] at s3 s4
  have hc : chainS k (l ++ [first]) (l.length + 1) = commitS (chainS k (l ++ [first]) l.length) k ((l.length + 1 : Nat) : Int) first := by
    show commitS (chainS k (l ++ [first]) l.length) k ((l.length + 1 : Nat) : Int) ((l ++ [first]).getD l.length []) = _
    rw [hg]
  rw [← hc] at s3 s4
  have e2 : (l.length + 1 + 1) % 2 = l.length % 2 := by omega
  refine ⟨h1, h2, chain_lens k hk _ 200 (by omega) (fun x hx => by have := hall x hx; omega) hall' _ (by omega) (by omega), h3, ?_, s3, s4⟩
  rw [e2]
  rcases h4 with ⟨_, h4⟩ | ⟨hp, h4⟩
  · exact .inl h4
  · exact .inr ⟨l.length, _, rfl, h4⟩
theorem markS_32 (s : Int) (p : List UInt8) : (markS s p).take 32 = markS s p := List.take_of_length_le (by rw [markS_len]; exact Nat.le_refl _)
set_option maxRecDepth 20000 in
set_option maxHeartbeats 1000000 in
theorem collideR {P P' : Nat → Prop} (w : World) (A B : Option Addr) (n c m d : Nat) (a b : List UInt8) (ha : BV w P A n c a) (hb : BV w P' B m d b) (hn : n ≤ 10000000) (hm : m ≤ 10000000) :
    Calls Tryd.prog 28 #[.slice A n c, .slice B m d, .int .i64 32] w fun e w' => e = .returned (.bool (!decide (a = b) && decide (sha256S a = sha256S b))) ∧ Ext w w' := by
  have hax := ha
  have hbx := hb
  refine calls_enter Tryd.func28 rfl Tryd.ntmps28 rfl ?_
  have hE : Ext w w := Ext.refl w
  refine Wc.seq (fun K1 hK1 => ?_)
  refine Wc.keep [(0, _), (1, _), (2, _)] (.cons rfl (.cons rfl (.cons rfl (.nil)))) ?_
  refine Wc.region ?_
  refine Wl.val rfl rfl rfl (Gives.assign rfl rfl) ?_
  refine Wl.nil ?_
  refine Wx.thenN (hK1 _ _ ?_)
  refine Wc.seq (fun K2 hK2 => ?_)
  refine Wc.keep [(0, _), (1, _), (2, _)] (.cons rfl (.cons rfl (.cons rfl (.nil)))) ?_
  refine Wc.regionB (fun q => [9, 14, 18].contains q) [] (.read 0 (.read 1 (.read 2 (.read 3 (.read 4 (.read 5 (.read 6 (.read 7 (.read 8 (.call true 9 (.read 10 (.read 11 (.read 12 (.read 13 (.read 15 (.read 17 (.read 19 (.call true 14 (.read 16 (.call true 18 (.read 20 .tail) .none)) .none)))))))) .none)))))))))) 21 (by kernel_rfl) (by kernel_rfl) (by kernel_rfl) ?_
  intro w1 hR1
  replace hE := hE.trans hR1.ext
  have hX := Ext.refl w1
  refine RunE.read rfl rfl rfl rfl (fun wS _ => (Gives.move rfl rfl)) ?_
  refine RunE.read rfl rfl rfl rfl (fun wS _ => (Gives.geq rfl rfl rfl)) ?_
  refine RunE.read rfl rfl rfl rfl (fun wS _ => (Gives.move rfl rfl)) ?_
  refine RunE.fix (t := 9) true rfl rfl ?_
  refine RunE.read rfl rfl rfl rfl (fun wS _ => (Gives.move rfl rfl)) ?_
  refine RunE.read rfl rfl rfl rfl (fun wS _ => (Gives.leq rfl rfl rfl)) ?_
  refine RunE.read rfl rfl rfl rfl (fun wS _ => (Gives.pickT rfl rfl rfl rfl)) ?_
  refine RunE.read rfl rfl rfl rfl (fun wS _ => (Gives.move rfl rfl)) ?_
  refine RunE.fix (t := 13) true rfl rfl ?_
  refine RunE.read rfl rfl rfl rfl (fun wS _ => (Gives.move rfl rfl)) ?_
  refine RunE.read rfl rfl rfl rfl (fun wS _ => (Gives.move rfl rfl)) ?_
  refine RunE.freeC rfl rfl rfl rfl rfl Tryd.func22 rfl (by kernel_rfl) rfl (same_calls _ A B n c m d a b ((ha.ext (hE.trans hX))) (hb.ext (hE.trans hX))) ?_ RunE.none
  rintro x1 w1a ⟨rfl, hq1⟩
  refine ⟨_, rfl, ?_⟩
  have hx1 := hq1.ext
  replace hX := hX.trans hx1
  refine RunE.read rfl rfl rfl rfl (fun wS _ => (Gives.not rfl rfl)) ?_
  refine RunE.read rfl rfl rfl rfl (fun wS _ => (Gives.pickT rfl rfl rfl rfl)) ?_
  refine RunE.read rfl rfl rfl rfl (fun wS _ => (Gives.move rfl rfl)) ?_
  refine RunE.split (t := 19) rfl (fun h19 => ?_) (fun h19 => ?_)
  · (first | replace h19 := of_decide_eq_true h19 | replace h19 := nd_true h19 | skip)
    refine RunE.read rfl rfl rfl rfl (fun wS _ => (Gives.move rfl rfl)) ?_
    refine RunE.read rfl rfl rfl rfl (fun wS _ => (Gives.move rfl rfl)) ?_
    refine RunE.read rfl rfl rfl rfl (fun wS _ => (Gives.move rfl rfl)) ?_
    refine RunE.read rfl rfl rfl rfl (fun wS _ => (Gives.move rfl rfl)) ?_
    refine RunE.freeC rfl rfl rfl rfl rfl Tryd.func41 rfl (by kernel_rfl) rfl (sum256R_calls _ A n c a (ha.ext (hE.trans hX)) (by omega)) ?_ RunE.none
    rintro x2 w1b ⟨S2, k2, rfl, hO2, hx2⟩
    refine ⟨_, rfl, ?_⟩
    have hB2 : BV w1b (fun _ => True) S2 32 k2 (sha256S a) := hO2.bv fun _ _ => trivial
    replace hX := hX.trans hx2
    refine RunE.read rfl rfl rfl rfl (fun wS _ => (Gives.cutHi rfl Tryd.underlying23 (by kernel_rfl) rfl 32 rfl rfl (by have := hO2.le; omega))) ?_
    refine RunE.freeC rfl rfl rfl rfl rfl Tryd.func41 rfl (by kernel_rfl) rfl (sum256R_calls _ B m d b (hb.ext (hE.trans hX)) (by omega)) ?_ RunE.none
    rintro x3 w1c ⟨S3, k3, rfl, hO3, hx3⟩
    refine ⟨_, rfl, ?_⟩
    have hB3 : BV w1c (fun _ => True) S3 32 k3 (sha256S b) := hO3.bv fun _ _ => trivial
    replace hB2 := hB2.ext hx3
    replace hX := hX.trans hx3
    refine RunE.read rfl rfl rfl rfl (fun wS _ => (Gives.cutHi rfl Tryd.underlying23 (by kernel_rfl) rfl 32 rfl rfl (by have := hO3.le; omega))) ?_
    refine RunE.tail rfl ?_
    replace hE := hE.trans hX
    refine Wl.call rfl rfl rfl rfl Tryd.func22 rfl (by kernel_rfl) rfl (same_calls _ _ _ _ _ _ _ _ _ hB2 hB3) ?_
    rintro x4 w1d ⟨rfl, hq4⟩
    refine ⟨_, rfl, ?_⟩
    have hx4 := hq4.ext
    replace hE := hE.trans hx4
    refine Wl.val rfl rfl rfl (Gives.pickT rfl rfl rfl rfl) ?_
    refine Wl.val rfl rfl rfl (Gives.assign rfl rfl) ?_
    refine Wl.nil ?_
    refine Wx.thenN (hK2 _ _ ?_)
    refine Wc.ret ?_
    refine Wx.ret [_] ⟨rfl, trivial⟩ ?_
    refine ⟨?_, hE⟩
    simp_all [resV]
  · (first | replace h19 := of_decide_eq_false h19 | replace h19 := nd_false h19 | skip)
    refine RunE.pass rfl rfl rfl rfl ?_
    refine RunE.pass rfl rfl rfl rfl ?_
    refine RunE.pass rfl rfl rfl rfl ?_
    refine RunE.pass rfl rfl rfl rfl ?_
    refine RunE.passC (fun _ => Fr.refl _ _) rfl rfl rfl rfl ?_ RunE.none
    refine RunE.pass rfl rfl rfl rfl ?_
    refine RunE.passC (fun _ => Fr.refl _ _) rfl rfl rfl rfl ?_ RunE.none
    refine RunE.pass rfl rfl rfl rfl ?_
    refine RunE.tail rfl ?_
    replace hE := hE.trans hX
    refine Wl.pass rfl rfl rfl ?_
    refine Wl.val rfl rfl rfl (Gives.pickF rfl rfl rfl rfl) ?_
    refine Wl.val rfl rfl rfl (Gives.assign rfl rfl) ?_
    refine Wl.nil ?_
    refine Wx.thenN (hK2 _ _ ?_)
    refine Wc.ret ?_
    refine Wx.ret [_] ⟨rfl, trivial⟩ ?_
    refine ⟨?_, hE⟩
    simp_all [resV]
theorem Does.appQ {P : Program} {n : Nat} {e : Env} {w : World} {o : Oper} {x y : Operand} {t el : TypeId} {zv : Value} {size bytes base : Nat} {A B : Option Addr} {m c p sc : Nat} {xs ys : List Value} {T : Nat → Prop} (q : Nat) (hq : p + m = q) (ho : o.op = .call { callee := .builtin .append, args := #[x, y], argTypes := #[t, t] }) (ht : P.underlying t = some (.slice el)) (hinf : (P.info? el).map (fun i => (i.zero, i.size, i.bytes)) = some (some zv, size, bytes)) (hzs : zv.cells.size = size) (hsz : 0 < size)
    (hx : ev e x = some (.slice B p sc)) (hy : ev e y = some (.slice A m c)) (hown : w.ownsRow base el size (.slice B p sc) p xs) (hr : Row w T size A m c ys) (h1 : ∀ u ∈ ys, u.oneCell' = true) (hbytes : (p + m) * bytes ≤ 140737488355328) (hpos : 0 < bytes) (hb : base ≤ w.heap.size) :
    Does P n o e w (fun v w' => ∃ B' sc', v = .slice B' q sc' ∧ w'.ownsRow base el size (.slice B' q sc') q (xs ++ ys) ∧ Below base w w') := by
  subst hq
  exact (Does.appX ho ht hinf hzs hsz hx hy hown hr h1 hbytes hpos hb).mono fun v w' ⟨B', sc', h1, h2, h3, _⟩ => ⟨B', sc', h1, h2, h3⟩
theorem best_p {a b : Jr} {L : Nat} (ha : a.p.length ≤ L) (hb : b.p.length ≤ L) : (bestS a b).p.length ≤ L := by unfold bestS; split <;> assumption
theorem parse_p (l : List UInt8) (k : Int) : (parseS l k).p.length ≤ l.length := by
  unfold parseS
  split
  · exact ra4_le l
  · exact Nat.zero_le _
theorem rec_p_le {d : Dk} {b : Int} {L : Nat} (h : Lens d L) : (recoverJ d b).p.length ≤ L := by
  unfold recoverJ
  split
  · unfold recS
    exact best_p (best_p (Nat.zero_le _) (Nat.le_trans (parse_p _ _) (read_le h))) (Nat.le_trans (parse_p _ _) (read_le h))
  · exact Nat.zero_le _
/-- which commit is recovered behind an interrupted one -/
def TriJ (j : Jr) (s : Nat) (first payload : List UInt8) : Prop := (j.s = s ∧ j.p = first) ∨ (j.s = ((s + 1 : Nat) : Int) ∧ markS ((s + 1 : Nat) : Int) j.p = markS ((s + 1 : Nat) : Int) payload)
theorem coll_true {j : Jr} {s : Nat} {first payload : List UInt8} (hs : s ≤ 200) (h : TriJ j s first payload) (h1 : ¬ (j.s = s ∧ j.p = first)) (h2 : ¬ (j.s = (s : Int) + 1 ∧ j.p = payload)) :
    (!decide (jFrame j.s j.p = jFrame ((s : Int) + 1) payload) && decide (sha256S (jFrame j.s j.p) = sha256S (jFrame ((s : Int) + 1) payload))) = true := by
  rcases h with h | ⟨h3, h4⟩
  · exact absurd h h1
  · have e : ((s + 1 : Nat) : Int) = (s : Int) + 1 := rfl
    rw [e] at h3 h4
    rw [h3]
    have hm : sha256S (jFrame ((s : Int) + 1) j.p) = sha256S (jFrame ((s : Int) + 1) payload) := h4
    have hne : ¬ jFrame ((s : Int) + 1) j.p = jFrame ((s : Int) + 1) payload := fun hh => h2 ⟨h3, (frame_inj (s := s + 1) (s' := s + 1) (by omega) (by omega) hh).2⟩
    rw [decide_eq_true hm, decide_eq_false hne]; rfl
set_option maxRecDepth 20000 in
set_option maxHeartbeats 4000000 in
theorem journalAtomic_walk {P P' P'' : Nat → Prop} (w : World) (hT : Tab w) (A : Option Addr) (n c : Nat) (l : List (List UInt8)) (ha : BL w P A n c l) (F : Option Addr) (fm fc : Nat) (first : List UInt8) (hf : BV w P' F fm fc first) (D : Option Addr) (m dc : Nat) (p : List UInt8) (hp : BV w P'' D m dc p) (torn : Int) :
    Calls Tryd.prog 7 #[.slice A n c, .slice F fm fc, .slice D m dc, .int .i64 torn] w fun e w' => e = .returned (.bool true) ∧ Ext w w' := by
  have hle := hp.le
  have hle2 := hf.le
  have hpl := hp.len
  have hfl := hf.len
  have hl := ha.len
  refine calls_enter Tryd.func7 rfl Tryd.ntmps7 rfl ?_
  have hE : Ext w w := Ext.refl w
  refine Wc.seq (fun K1 hK1 => ?_)
  refine Wc.keep [(0, _), (1, _), (2, _), (3, _)] (.cons rfl (.cons rfl (.cons rfl (.cons rfl (.nil))))) ?_
  refine Wc.region ?_
  refine Wl.val rfl rfl rfl (Gives.assign rfl rfl) ?_
  refine Wl.nil ?_
  refine Wx.thenN (hK1 _ _ ?_)
  refine Wc.seq (fun K2 hK2 => ?_)
  refine Wc.seq (fun K3 hK3 => ?_)
  refine Wc.keep [(0, _), (1, _), (2, _), (3, _)] (.cons rfl (.cons rfl (.cons rfl (.cons rfl (.nil))))) ?_
  refine Wc.region ?_
  refine Wl.call rfl rfl rfl rfl Tryd.func9 rfl (by kernel_rfl) rfl (awakeJ _ (hT.ext hE)) ?_
  rintro x0 w0 ⟨rfl, hx0⟩
  refine ⟨_, rfl, ?_⟩
  replace hE := hE.trans hx0
  refine Wl.val rfl rfl rfl (Gives.not rfl rfl) ?_
  refine Wl.nil ?_
  refine Wx.thenN (hK3 _ _ ?_)
  refine Wc.condF rfl rfl ?_
  refine Wc.skip ?_
  refine Wx.thenN (hK2 _ _ ?_)
  refine Wc.seq (fun K4 hK4 => ?_)
  refine Wc.seq (fun K5 hK5 => ?_)
  refine Wc.keep [(0, _), (1, _), (2, _), (3, _)] (.cons rfl (.cons rfl (.cons rfl (.cons rfl (.nil))))) ?_
  refine Wc.region ?_
  refine Wl.val rfl rfl rfl (Gives.move rfl rfl) ?_
  refine Wl.call rfl rfl rfl rfl Tryd.func10 rfl (by kernel_rfl) rfl (fewJ _ A n c l (ha.ext hE)) ?_
  rintro x1 w1 ⟨b, rfl, hfew, hx1⟩
  refine ⟨_, rfl, ?_⟩
  replace hE := hE.trans hx1
  refine Wl.val rfl rfl rfl (Gives.not rfl rfl) ?_
  refine Wl.val rfl rfl rfl (Gives.move rfl rfl) ?_
  refine Wl.guard rfl rfl rfl (fun h27 => ?_) (fun h27 => ?_)
  · (first | replace h27 := of_decide_eq_false h27 | replace h27 := nd_false h27 | skip)
    refine Wl.val rfl rfl rfl (Gives.move rfl rfl) ?_
    refine Wl.val rfl rfl rfl (Gives.lenS rfl Tryd.underlying23 rfl) ?_
    refine Wl.val rfl rfl rfl (Gives.gtr rfl rfl rfl) ?_
    refine Wl.val rfl rfl rfl (Gives.pickF rfl rfl rfl rfl) ?_
    refine Wl.val rfl rfl rfl (Gives.move rfl rfl) ?_
    refine Wl.guard rfl rfl rfl (fun h32 => ?_) (fun h32 => ?_)
    · (first | replace h32 := of_decide_eq_false h32 | replace h32 := nd_false h32 | skip)
      refine Wl.val rfl rfl rfl (Gives.move rfl rfl) ?_
      refine Wl.val rfl rfl rfl (Gives.lenS rfl Tryd.underlying23 rfl) ?_
      refine Wl.val rfl rfl rfl (Gives.gtr rfl rfl rfl) ?_
      refine Wl.val rfl rfl rfl (Gives.pickF rfl rfl rfl rfl) ?_
      refine Wl.nil ?_
      refine Wx.thenN (hK5 _ _ ?_)
      refine Wc.cond _ rfl (fun h36 => ?_) (fun h36 => ?_)
      · (first | replace h36 := of_decide_eq_true h36 | replace h36 := nd_true h36 | skip)
        refine Wc.seq (fun K6 hK6 => ?_)
        refine Wc.keep [] (.nil) ?_
        refine Wc.region ?_
        refine Wl.val rfl rfl rfl (Gives.assign rfl rfl) ?_
        refine Wl.nil ?_
        refine Wx.thenN (hK6 _ _ ?_)
        refine Wc.ret ?_
        refine Wx.thenR ?_
        refine Wx.ret [_] ⟨rfl, trivial⟩ ?_
        exact ⟨rfl, hE⟩
      · (first | replace h36 := of_decide_eq_false h36 | replace h36 := nd_false h36 | skip)
        refine Wc.skip ?_
        refine Wx.thenN (hK4 _ _ ?_)
        refine Wc.seq (fun K7 hK7 => ?_)
        refine Wc.keep [(0, _), (1, _), (2, _), (3, _)] (.cons rfl (.cons rfl (.cons rfl (.cons rfl (.nil))))) ?_
        have hb : b = true := by simpa using h27
        obtain ⟨hn10, hx60⟩ := hfew hb
        obtain ⟨q1, q2, q3, q4, q5, q6, q7⟩ := chain_cut 2 (by omega) l first hx60 (by omega) (by omega)
        rw [hl] at q1 q2 q3 q4 q5 q6 q7
        refine Wc.region ?_
        refine Wl.does rfl rfl rfl (Does.lit rfl Tryd.underlying22 infoL2 rfl rfl rfl rfl rfl) ?_
        rintro _ w50 ⟨g50, rfl, hs50, hk50, hx50⟩
        have hzw := hE.size
        have hOw0 : w50.ownsRow w1.heap.size 23 1 (.slice (some ⟨g50, 0, none⟩) 0 0) 0 [] := hk50.own hs50 rfl rfl (by omega)
        obtain ⟨vs, hvr, hve⟩ := (ha.ext hE).bdP.ext hx50
        have hf1 := ((hf.ext hE).bd.ext hx50)
        replace hE := hE.trans hx50
        refine Wl.val rfl rfl rfl (Gives.move rfl rfl) ?_
        refine Wl.does rfl rfl rfl (Does.appQ n (by omega) rfl Tryd.underlying22 infoL rfl (by decide) rfl rfl hOw0 hvr hve.one (by omega) (by decide) (by have := hx50.size; omega)) ?_
        rintro _ w52 ⟨S1, k1, rfl, hOw1, hB52⟩
        have hve2 := hve.fr ((below_fr hB52).mono fun q hq => hq.2)
        have hf2 := hf1.fr ((below_fr hB52).mono fun q hq => hq.2)
        have hz52 := hB52.size
        replace hE := Ext.step hE hB52 (by omega)
        refine Wl.val rfl rfl rfl (Gives.move rfl rfl) ?_
        refine Wl.does rfl rfl rfl (Does.lit rfl Tryd.underlying22 infoL2 rfl rfl rfl rfl rfl) ?_
        rintro _ w54 ⟨g54, rfl, hs54, hk54, hx54⟩
        have hOw2 := own_ext hOw1 hx54
        have hve3 := hve2.fr hx54.fr
        have hf3 := hf2.ext hx54
        have hz54 := hx54.size
        have hz50 := hx50.size
        replace hE := hE.trans hx54
        have hr54 : Row w54 (fun _ => True) 1 (some ⟨g54, 0, none⟩) 1 1 [.slice F fm fc] := ⟨rfl, Nat.le_refl _, by simp [maxLen], fun _ => ⟨g54, 0, rfl, hk54.lt, trivial, fun i v hv => by rw [Nat.zero_add]; exact (hk54.cell i).trans (by simpa using hv)⟩⟩
        refine Wl.does rfl rfl rfl (Does.appQ (n + 1) rfl rfl Tryd.underlying22 infoL rfl (by decide) rfl rfl hOw2 hr54 (by simp [Value.oneCell']) (by omega) (by decide) (by omega)) ?_
        rintro _ w55 ⟨S3, k3, rfl, hOw3, hB55⟩
        have hBL : BL w55 (fun _ => True) S3 (n + 1) k3 (l ++ [first]) := ⟨_, Row.of_own hOw3 (fun _ _ => trivial), ((hve3.fr ((below_fr hB55).mono fun q hq => hq.2)).mono fun _ _ => trivial).snoc ((hf3.fr ((below_fr hB55).mono fun q hq => hq.2)).mono fun _ _ => trivial)⟩
        replace hE := Ext.step hE hB55 (by omega)
        refine Wl.call rfl rfl rfl rfl Tryd.func12 rfl (by kernel_rfl) rfl (chainJ _ S3 (n + 1) k3 (l ++ [first]) hBL (by omega) (fun x hx => by rcases List.mem_append.1 hx with h | h; { have := hx60 x h; omega }; { rw [List.mem_singleton.1 h]; omega }) 2 (by omega)) ?_
        rintro x2 w56 ⟨A1, c1, d1, rfl, H1, hb1, hx56⟩
        refine ⟨_, rfl, ?_⟩
        rw [← H1.out] at q1 q2 q3 q4 q5 q6 q7
        replace hE := hE.trans hx56
        refine Wl.val rfl rfl rfl (Gives.move rfl rfl) ?_
        refine Wl.val rfl rfl rfl (Gives.extract rfl rfl rfl) ?_
        refine Wl.val rfl rfl rfl (Gives.extract rfl rfl rfl) ?_
        refine Wl.does rfl rfl rfl (Does.alB (.agg #[(.slice none 0 0), (.int .i64 0), (.int .i64 0), (.int .i64 0), (.bool false)]) rfl (by kernel_rfl) rfl) ?_
        rintro _ w5_10 ⟨b9, rfl, hs9, hb9, hx5_10⟩
        have hg9 : w.heap.size ≤ b9 := Nat.le_trans hE.size hs9
        replace hE := hE.trans hx5_10
        refine Wl.acts rfl rfl (Does.stL 5 rfl rfl rfl hb9 (by kernel_rfl) rfl rfl rfl) ?_
        rintro _ w5_11 ⟨hbn, hF5_11⟩
        replace hE := Ext.over hE hF5_11 hg9
        replace hb9 := hbn
        clear hbn
        have hD : BL w5_11 (fun q => q ≠ b9) A1 6 c1 d1.areas := ((hb1.bdP.mono (P' := fun q => q ≠ b9) (fun q hq => by omega)).ext hx5_10).fr hF5_11
        refine Wl.val rfl rfl rfl (Gives.assign rfl rfl) ?_
        refine Wl.nil ?_
        refine Wx.thenN (hK7 _ _ ?_)
        refine Wc.seq (fun K8 hK8 => ?_)
        refine Wc.keep [(1, _), (2, _), (3, _), (9, _), (10, _)] (.cons rfl (.cons rfl (.cons rfl (.cons rfl (.cons rfl (.nil)))))) ?_
        refine Wc.region ?_
        refine Wl.val rfl rfl rfl (Gives.ldW rfl (by kernel_rfl) rfl hb9 (by kernel_rfl)) ?_
        refine Wl.call rfl rfl rfl rfl Tryd.func20 rfl (by kernel_rfl) rfl (recoverP _ (hT.ext hE) A1 6 c1 d1 hD (by omega) (fun x hx => by have := q3 x hx; omega) 2) ?_
        rintro x3 w61 ⟨S5, m5, k5', rfl, hO5, hx61⟩
        refine ⟨_, rfl, ?_⟩
        rw [show recoverJ d1 2 = _ from q7] at hO5
        replace hD := hD.ext hx61
        have hB5 : BV w61 (fun _ => True) S5 m5 k5' first := hO5.bv fun _ _ => trivial
        replace hb9 := hb9.ext hx61
        replace hE := hE.trans hx61
        refine Wl.val rfl rfl rfl (Gives.move rfl rfl) ?_
        refine Wl.val rfl rfl rfl (Gives.extract rfl rfl rfl) ?_
        refine Wl.val rfl rfl rfl (Gives.extract rfl rfl rfl) ?_
        refine Wl.val rfl rfl rfl (Gives.extract rfl rfl rfl) ?_
        refine Wl.val rfl rfl rfl (Gives.assign rfl rfl) ?_
        refine Wl.val rfl rfl rfl (Gives.assign rfl rfl) ?_
        refine Wl.val rfl rfl rfl (Gives.assign rfl rfl) ?_
        refine Wl.nil ?_
        refine Wx.thenN (hK8 _ _ ?_)
        refine Wc.seq (fun K9 hK9 => ?_)
        refine Wc.keep [(1, _), (2, _), (3, _), (9, _), (10, _), (11, _), (12, _), (13, _)] (.cons rfl (.cons rfl (.cons rfl (.cons rfl (.cons rfl (.cons rfl (.cons rfl (.cons rfl (.nil))))))))) ?_
        refine Wc.region ?_
        refine Wl.val rfl rfl rfl (Gives.ldW rfl (by kernel_rfl) rfl hb9 (by kernel_rfl)) ?_
        refine Wl.val rfl rfl rfl (Gives.fieldAt 1 rfl Tryd.underlying28 rfl (by kernel_rfl) rfl rfl) ?_
        refine Wl.val rfl rfl rfl (Gives.ldK rfl (by kernel_rfl) rfl hb9 rfl) ?_
        refine Wl.val rfl rfl rfl (Gives.add rfl rfl rfl (by first | exact IntWalk.i64_in _ (by omega) | exact u64_in _ (by omega) | exact u32_in _ (by omega) | exact u8_in _ (by omega) | exact rfl)) ?_
        refine Wl.val rfl rfl rfl (Gives.move rfl rfl) ?_
        refine Wl.call rfl rfl rfl rfl Tryd.func26 rfl (by kernel_rfl) rfl (cutP_calls (fun _ => True) _ (Anew.top _) A1 6 c1 d1 (hD.mono fun _ _ => trivial) (d1.wr + 1) torn) ?_
        rintro x4 w75 ⟨A2, c2, d2, rfl, H2, hb2, hx75⟩
        refine ⟨_, rfl, ?_⟩
        have hL2 : Lens d2 200 := by { rw [H2.out]; exact q3 }
        have hw2 : d2.wr = ((n + 1 : Nat) : Int) := by { rw [H2.out]; exact q2 }
        replace hB5 := hB5.ext hx75
        replace hb9 := hb9.ext hx75
        replace hE := hE.trans hx75
        refine Wl.val rfl rfl rfl (Gives.move rfl rfl) ?_
        refine Wl.val rfl rfl rfl (Gives.add rfl rfl rfl (by first | exact IntWalk.i64_in _ (by omega) | exact u64_in _ (by omega) | exact u32_in _ (by omega) | exact u8_in _ (by omega) | exact rfl)) ?_
        refine Wl.val rfl rfl rfl (Gives.move rfl rfl) ?_
        refine Wl.call rfl rfl rfl rfl Tryd.func14 rfl (by kernel_rfl) rfl (commitP (fun _ => True) _ (hT.ext hE) (Anew.top _) A2 6 c2 d2 hb2 (by omega) D m dc p (hp.ext hE) (by omega) 2 (((n + 1 : Nat) : Int) + 1) (by omega) (by omega) (fun x hx => by have := hL2 x hx; omega)) ?_
        rintro x5 w79 ⟨A3, c3, d3, e3, rfl, H3, hb3, hx79⟩
        refine ⟨_, rfl, ?_⟩
        replace hB5 := hB5.ext hx79
        have hd3 : d3 = commitS (cutDS d1 (d1.wr + 1) torn) ((2 : Nat) : Int) ((n + 1 + 1 : Nat) : Int) p := by { rw [← H2.out]; exact H3.out.1 }
        have hL3 : Lens d3 304 := by { rw [hd3]; have := cut_lens (torn := torn) (k := 2) (s := n + 1 + 1) (p := p) q1.on (by omega) (by omega) (by omega) (by omega) q3; exact fun x hx => by { have := this x hx; omega } }
        obtain ⟨f1, f2, f3, ⟨i, f4, _, _, f6⟩, f7⟩ := cut_S (payload := p) torn (by omega) (by omega) (by omega) (by omega) (by omega) q1 q4 q5
        obtain rfl : e3 = 29 := by { rw [H3.out.2, H2.out]; exact f1 }
        replace hb9 := hb9.ext hx79
        replace hE := hE.trans hx79
        refine Wl.val rfl rfl rfl (Gives.move rfl rfl) ?_
        refine Wl.val rfl rfl rfl (Gives.extract rfl rfl rfl) ?_
        refine Wl.val rfl rfl rfl (Gives.extract rfl rfl rfl) ?_
        refine Wl.does rfl rfl rfl (Does.alB (.agg #[(.slice none 0 0), (.int .i64 0), (.int .i64 0), (.int .i64 0), (.bool false)]) rfl (by kernel_rfl) rfl) ?_
        rintro _ w7_13 ⟨b14, rfl, hs14, hb14, hx7_13⟩
        have hn9_14 : b9 ≠ b14 := hb9.ne hs14
        have hg14 : w.heap.size ≤ b14 := Nat.le_trans hE.size hs14
        replace hb9 := hb9.ext hx7_13
        replace hE := hE.trans hx7_13
        refine Wl.acts rfl rfl (Does.stL 5 rfl rfl rfl hb14 (by kernel_rfl) rfl rfl rfl) ?_
        rintro _ w7_14 ⟨hbn, hF7_14⟩
        replace hb9 := hb9.fr hF7_14 (by first | assumption | exact Ne.symm (by assumption))
        replace hE := Ext.over hE hF7_14 hg14
        replace hb14 := hbn
        clear hbn
        have hD3 : BL w7_14 (fun q => q ≠ b14) A3 6 c3 d3.areas := ((hb3.bdP.mono (P' := fun q => q ≠ b14) (fun q hq => by omega)).ext hx7_13).fr hF7_14
        have hB5' := ((hB5.bd.mono (P' := fun q => q ≠ b14) (fun q hq => by omega)).ext hx7_13).fr hF7_14
        refine Wl.val rfl rfl rfl (Gives.assign rfl rfl) ?_
        refine Wl.nil ?_
        refine Wx.thenN (hK9 _ _ ?_)
        refine Wc.seq (fun K10 hK10 => ?_)
        refine Wc.keep [(1, _), (2, _), (3, _), (9, _), (10, _), (11, _), (12, _), (13, _), (14, _), (15, _)] (.cons rfl (.cons rfl (.cons rfl (.cons rfl (.cons rfl (.cons rfl (.cons rfl (.cons rfl (.cons rfl (.cons rfl (.nil))))))))))) ?_
        refine Wc.region ?_
        refine Wl.val rfl rfl rfl (Gives.ldW rfl (by kernel_rfl) rfl hb14 (by kernel_rfl)) ?_
        refine Wl.call rfl rfl rfl rfl Tryd.func27 rfl (by kernel_rfl) rfl (restartP_calls (fun _ => True) _ (Anew.top _) A3 6 c3 d3 (hD3.mono fun _ _ => trivial)) ?_
        rintro x6 w81 ⟨A4, c4, d4, rfl, H4, hb4, hx81⟩
        refine ⟨_, rfl, ?_⟩
        have hL4 : Lens d4 304 := by { rw [H4.out]; exact hL3 }
        have hd4 : d4 = cutY d1 2 (n + 1 + 1) p torn := by { rw [H4.out, hd3]; rfl }
        rw [← hd4] at f3 f4 f6 f7
        replace hB5' := hB5'.ext hx81
        replace hb9 := hb9.ext hx81
        replace hb14 := hb14.ext hx81
        replace hE := hE.trans hx81
        refine Wl.call rfl rfl rfl rfl Tryd.func20 rfl (by kernel_rfl) rfl (recoverP _ (hT.ext hE) A4 6 c4 d4 hb4 (by omega) (fun x hx => by have := hL4 x hx; omega) 2) ?_
        rintro x7 w82 ⟨S6, m6, k6, rfl, hO6, hx82⟩
        refine ⟨_, rfl, ?_⟩
        replace hB5' := hB5'.ext hx82
        have hB6 : BV w82 (fun _ => True) S6 m6 k6 (recoverJ d4 2).p := hO6.bv fun _ _ => trivial
        have hm6 := hO6.len
        have hm6' := rec_p_le (b := 2) hL4
        replace hb9 := hb9.ext hx82
        replace hb14 := hb14.ext hx82
        replace hE := hE.trans hx82
        refine Wl.val rfl rfl rfl (Gives.move rfl rfl) ?_
        refine Wl.val rfl rfl rfl (Gives.extract rfl rfl rfl) ?_
        refine Wl.val rfl rfl rfl (Gives.extract rfl rfl rfl) ?_
        refine Wl.val rfl rfl rfl (Gives.extract rfl rfl rfl) ?_
        refine Wl.val rfl rfl rfl (Gives.assign rfl rfl) ?_
        refine Wl.val rfl rfl rfl (Gives.assign rfl rfl) ?_
        refine Wl.val rfl rfl rfl (Gives.assign rfl rfl) ?_
        refine Wl.nil ?_
        refine Wx.thenN (hK10 _ _ ?_)
        refine Wc.seq (fun K11 hK11 => ?_)
        refine Wc.seq (fun K12 hK12 => ?_)
        refine Wc.keep [(1, _), (2, _), (3, _), (9, _), (10, _), (11, _), (12, _), (13, _), (14, _), (15, _), (16, _), (17, _), (18, _)] (.cons rfl (.cons rfl (.cons rfl (.cons rfl (.cons rfl (.cons rfl (.cons rfl (.cons rfl (.cons rfl (.cons rfl (.cons rfl (.cons rfl (.cons rfl (.nil)))))))))))))) ?_
        have f3' : recoverE d4 2 = 0 := f3
        have q6' : recoverE d1 2 = 0 := q6
        have q7' : recoverJ d1 2 = ⟨first, ((n + 1 : Nat) : Int), true⟩ := q7
        have f7' : 44 + (p.length : Int) ≤ torn → recoverJ d4 2 = ⟨p, ((n + 1 + 1 : Nat) : Int), true⟩ := f7
        have htri : TriJ (recoverJ d4 2) (n + 1) first p := by
          have f4' : (recoverJ d4 2).s = i := f4
          unfold TriJ
          rcases f6 with ⟨rfl, h⟩ | ⟨rfl, h⟩
          · exact .inl ⟨f4', h⟩
          · exact .inr ⟨f4', h⟩
        clear f3 f4 f6 f7 hO6
        have hjl7 := jFrame_len (recoverJ d4 2).s (recoverJ d4 2).p (by omega)
        have hjl8 := jFrame_len (((n + 1 : Nat) : Int) + 1) p (by omega)
        generalize recoverJ d4 2 = jr at *
        refine Wc.region ?_
        refine Wl.val rfl rfl rfl (Gives.move rfl rfl) ?_
        refine Wl.val rfl rfl rfl (Gives.neq rfl rfl rfl) ?_
        refine Wl.val rfl rfl rfl (Gives.move rfl rfl) ?_
        refine Wl.guardT rfl rfl rfl (by rw [q6']; rfl) ?_
        refine Wl.val rfl rfl rfl (Gives.move rfl rfl) ?_
        refine Wl.val rfl rfl rfl (Gives.move rfl rfl) ?_
        refine Wl.val rfl rfl rfl (Gives.neq rfl rfl rfl) ?_
        refine Wl.val rfl rfl rfl (Gives.pickF rfl rfl rfl rfl) ?_
        refine Wl.val rfl rfl rfl (Gives.move rfl rfl) ?_
        refine Wl.guardT rfl rfl rfl (by rw [q7']; simp) ?_
        refine Wl.val rfl rfl rfl (Gives.move rfl rfl) ?_
        refine Wl.val rfl rfl rfl (Gives.move rfl rfl) ?_
        refine Wl.call rfl rfl rfl rfl Tryd.func22 rfl (by kernel_rfl) rfl (same_calls _ _ _ _ _ _ _ _ _ hB5' (hf.ext hE)) ?_
        rintro x8 w910 ⟨rfl, hq910⟩
        refine ⟨_, rfl, ?_⟩
        replace hB6 := hB6.ext hq910.ext
        replace hb9 := hb9.ext hq910.ext
        replace hb14 := hb14.ext hq910.ext
        replace hE := hE.trans hq910.ext
        refine Wl.val rfl rfl rfl (Gives.not rfl rfl) ?_
        refine Wl.val rfl rfl rfl (Gives.pickF rfl rfl rfl rfl) ?_
        refine Wl.val rfl rfl rfl (Gives.move rfl rfl) ?_
        refine Wl.guardT rfl rfl rfl (by simp) ?_
        refine Wl.val rfl rfl rfl (Gives.move rfl rfl) ?_
        refine Wl.val rfl rfl rfl (Gives.neq rfl rfl rfl) ?_
        refine Wl.val rfl rfl rfl (Gives.pickF rfl rfl rfl rfl) ?_
        refine Wl.val rfl rfl rfl (Gives.move rfl rfl) ?_
        refine Wl.guardT rfl rfl rfl rfl ?_
        refine Wl.val rfl rfl rfl (Gives.move rfl rfl) ?_
        refine Wl.val rfl rfl rfl (Gives.neq rfl rfl rfl) ?_
        refine Wl.val rfl rfl rfl (Gives.pickF rfl rfl rfl rfl) ?_
        refine Wl.val rfl rfl rfl (Gives.move rfl rfl) ?_
        refine Wl.guardT rfl rfl rfl (by rw [f3']; rfl) ?_
        refine Wl.val rfl rfl rfl (Gives.fieldAt 0 rfl Tryd.underlying28 rfl (by kernel_rfl) rfl rfl) ?_
        refine Wl.val rfl rfl rfl (Gives.ldK rfl (by kernel_rfl) rfl hb14 rfl) ?_
        refine Wl.val rfl rfl rfl (Gives.lenS rfl Tryd.underlying22 rfl) ?_
        refine Wl.val rfl rfl rfl (Gives.fieldAt 0 rfl Tryd.underlying28 rfl (by kernel_rfl) rfl rfl) ?_
        refine Wl.val rfl rfl rfl (Gives.ldK rfl (by kernel_rfl) rfl hb9 rfl) ?_
        refine Wl.val rfl rfl rfl (Gives.lenS rfl Tryd.underlying22 rfl) ?_
        refine Wl.val rfl rfl rfl (Gives.neq rfl rfl rfl) ?_
        refine Wl.val rfl rfl rfl (Gives.pickF rfl rfl rfl rfl) ?_
        refine Wl.nil ?_
        refine Wx.thenN (hK12 _ _ ?_)
        refine Wc.condF rfl rfl ?_
        refine Wc.skip ?_
        refine Wx.thenN (hK11 _ _ ?_)
        refine Wc.seq (fun K13 hK13 => ?_)
        refine Wc.keep [(1, _), (2, _), (3, _), (10, _), (14, _), (16, _), (17, _)] (.cons rfl (.cons rfl (.cons rfl (.cons rfl (.cons rfl (.cons rfl (.cons rfl (.nil)))))))) ?_
        refine Wc.region ?_
        refine Wl.val rfl rfl rfl (Gives.move rfl rfl) ?_
        refine Wl.val rfl rfl rfl (Gives.move rfl rfl) ?_
        refine Wl.val rfl rfl rfl (Gives.eql rfl rfl rfl) ?_
        refine Wl.val rfl rfl rfl (Gives.move rfl rfl) ?_
        refine Wl.guard rfl rfl rfl (fun h106 => ?_) (fun h106 => ?_)
        · (first | replace h106 := of_decide_eq_true h106 | replace h106 := nd_true h106 | skip)
          refine Wl.val rfl rfl rfl (Gives.move rfl rfl) ?_
          refine Wl.val rfl rfl rfl (Gives.move rfl rfl) ?_
          refine Wl.call rfl rfl rfl rfl Tryd.func22 rfl (by kernel_rfl) rfl (same_calls _ _ _ _ _ _ _ _ _ hB6 (hf.ext hE)) ?_
          rintro x9 w116 ⟨rfl, hq116⟩
          refine ⟨_, rfl, ?_⟩
          replace hB6 := hB6.ext hq116.ext
          replace hb9 := hb9.ext hq116.ext
          replace hb14 := hb14.ext hq116.ext
          replace hE := hE.trans hq116.ext
          refine Wl.val rfl rfl rfl (Gives.pickT rfl rfl rfl rfl) ?_
          refine Wl.val rfl rfl rfl (Gives.move rfl rfl) ?_
          refine Wl.val rfl rfl rfl (Gives.move rfl rfl) ?_
          refine Wl.val rfl rfl rfl (Gives.add rfl rfl rfl (by first | exact IntWalk.i64_in _ (by omega) | exact u64_in _ (by omega) | exact u32_in _ (by omega) | exact u8_in _ (by omega) | exact rfl)) ?_
          refine Wl.val rfl rfl rfl (Gives.eql rfl rfl rfl) ?_
          refine Wl.val rfl rfl rfl (Gives.move rfl rfl) ?_
          refine Wl.guard rfl rfl rfl (fun h115 => ?_) (fun h115 => ?_)
          · (first | replace h115 := of_decide_eq_true h115 | replace h115 := nd_true h115 | skip)
            refine Wl.val rfl rfl rfl (Gives.move rfl rfl) ?_
            refine Wl.val rfl rfl rfl (Gives.move rfl rfl) ?_
            refine Wl.call rfl rfl rfl rfl Tryd.func22 rfl (by kernel_rfl) rfl (same_calls _ _ _ _ _ _ _ _ _ hB6 (hp.ext hE)) ?_
            rintro x10 w115 ⟨rfl, hq115⟩
            refine ⟨_, rfl, ?_⟩
            replace hB6 := hB6.ext hq115.ext
            replace hb9 := hb9.ext hq115.ext
            replace hb14 := hb14.ext hq115.ext
            replace hE := hE.trans hq115.ext
            refine Wl.val rfl rfl rfl (Gives.pickT rfl rfl rfl rfl) ?_
            refine Wl.val rfl rfl rfl (Gives.assign rfl rfl) ?_
            refine Wl.val rfl rfl rfl (Gives.assign rfl rfl) ?_
            refine Wl.nil ?_
            refine Wx.thenN (hK13 _ _ ?_)
            refine Wc.seq (fun K14 hK14 => ?_)
            refine Wc.keep [(2, _), (3, _), (10, _), (14, _), (16, _), (17, _), (19, _), (20, _)] (.cons rfl (.cons rfl (.cons rfl (.cons rfl (.cons rfl (.cons rfl (.cons rfl (.cons rfl (.nil))))))))) ?_
            refine Wc.region ?_
            refine Wl.val rfl rfl rfl (Gives.move rfl rfl) ?_
            refine Wl.val rfl rfl rfl (Gives.move rfl rfl) ?_
            refine Wl.val rfl rfl rfl (Gives.lenS rfl Tryd.underlying23 rfl) ?_
            refine Wl.val rfl rfl rfl (Gives.add rfl rfl rfl (by first | exact IntWalk.i64_in _ (by omega) | exact u64_in _ (by omega) | exact u32_in _ (by omega) | exact u8_in _ (by omega) | exact rfl)) ?_
            refine Wl.val rfl rfl rfl (Gives.geq rfl rfl rfl) ?_
            refine Wl.val rfl rfl rfl (Gives.assign rfl rfl) ?_
            refine Wl.nil ?_
            refine Wx.thenN (hK14 _ _ ?_)
            refine Wc.seq (fun K15 hK15 => ?_)
            refine Wc.seq (fun K16 hK16 => ?_)
            refine Wc.keep [(2, _), (10, _), (14, _), (16, _), (17, _), (19, _), (20, _), (21, _)] (.cons rfl (.cons rfl (.cons rfl (.cons rfl (.cons rfl (.cons rfl (.cons rfl (.cons rfl (.nil))))))))) ?_
            refine Wc.region ?_
            refine Wl.val rfl rfl rfl (Gives.move rfl rfl) ?_
            refine Wl.nil ?_
            refine Wx.thenN (hK16 _ _ ?_)
            refine Wc.cond _ rfl (fun h125 => ?_) (fun h125 => ?_)
            · (first | replace h125 := of_decide_eq_true h125 | replace h125 := nd_true h125 | skip)
              refine Wc.seq (fun K17 hK17 => ?_)
              refine Wc.keep [(20, _)] (.cons rfl (.nil)) ?_
              refine Wc.region ?_
              refine Wl.val rfl rfl rfl (Gives.move rfl rfl) ?_
              refine Wl.val rfl rfl rfl (Gives.assign rfl rfl) ?_
              refine Wl.nil ?_
              refine Wx.thenN (hK17 _ _ ?_)
              refine Wc.ret ?_
              refine Wx.thenR ?_
              refine Wx.ret [_] ⟨rfl, trivial⟩ ?_
              refine ⟨?_, hE⟩
              simp_all [resV]
            · (first | replace h125 := of_decide_eq_false h125 | replace h125 := nd_false h125 | skip)
              refine Wc.skip ?_
              refine Wx.thenN (hK15 _ _ ?_)
              refine Wc.seq (fun K18 hK18 => ?_)
              refine Wc.keep [(2, _), (10, _), (14, _), (16, _), (17, _), (19, _), (20, _)] (.cons rfl (.cons rfl (.cons rfl (.cons rfl (.cons rfl (.cons rfl (.cons rfl (.nil)))))))) ?_
              refine Wc.regionB (fun q => [7, 11, 12, 16, 22, 26].contains q) [] (.read 0 (.read 1 (.read 2 (.read 3 (.read 4 (.read 5 (.read 6 (.read 8 (.read 9 (.read 10 (.call true 7 (.call true 11 (.call true 12 (.read 13 (.read 14 (.read 15 (.read 16 (.read 17 (.read 18 (.read 19 (.read 20 (.read 21 (.read 22 (.read 23 (.read 24 (.read 25 (.call false 26 .tail .none)))))))))))))) .none) .none) .none))))))))))) 27 (by kernel_rfl) (by kernel_rfl) (by kernel_rfl) ?_
              intro w15 hR15
              replace hb9 := hb9.ext hR15.ext
              replace hb14 := hb14.ext hR15.ext
              replace hE := hE.trans hR15.ext
              have hO15_9 : Old w15.heap.size [] b9 := ⟨hb9.lt, trivial⟩
              have hO15_14 : Old w15.heap.size [] b14 := ⟨hb14.lt, trivial⟩
              have hX := Ext.refl w15
              refine RunE.read rfl rfl rfl rfl (fun wS _ => (Gives.move rfl rfl)) ?_
              refine RunE.read rfl rfl rfl rfl (fun wS _ => (Gives.move rfl rfl)) ?_
              refine RunE.split (t := 128) rfl (fun h128 => ?_) (fun h128 => ?_)
              · (first | replace h128 := of_decide_eq_true h128 | replace h128 := nd_true h128 | skip)
                refine RunE.pass rfl rfl rfl rfl ?_
                refine RunE.read rfl rfl rfl rfl (fun wS _ => (Gives.pickT rfl rfl rfl rfl)) ?_
                refine RunE.read rfl rfl rfl rfl (fun wS _ => (Gives.move rfl rfl)) ?_
                refine RunE.fix (t := 131) true rfl rfl ?_
                refine RunE.pass rfl rfl rfl rfl ?_
                refine RunE.pass rfl rfl rfl rfl ?_
                refine RunE.pass rfl rfl rfl rfl ?_
                refine RunE.pass rfl rfl rfl rfl ?_
                refine RunE.pass rfl rfl rfl rfl ?_
                refine RunE.passC (fun _ => Fr.refl _ _) rfl rfl rfl rfl ?_ RunE.none
                refine RunE.passC (fun _ => Fr.refl _ _) rfl rfl rfl rfl ?_ RunE.none
                refine RunE.passC (fun _ => Fr.refl _ _) rfl rfl rfl rfl ?_ RunE.none
                refine RunE.read rfl rfl rfl rfl (fun wS _ => (Gives.pickT rfl rfl rfl rfl)) ?_
                refine RunE.read rfl rfl rfl rfl (fun wS _ => (Gives.move rfl rfl)) ?_
                refine RunE.fix (t := 141) true rfl rfl ?_
                refine RunE.pass rfl rfl rfl rfl ?_
                refine RunE.pass rfl rfl rfl rfl ?_
                refine RunE.pass rfl rfl rfl rfl ?_
                refine RunE.pass rfl rfl rfl rfl ?_
                refine RunE.pass rfl rfl rfl rfl ?_
                refine RunE.pass rfl rfl rfl rfl ?_
                refine RunE.pass rfl rfl rfl rfl ?_
                refine RunE.pass rfl rfl rfl rfl ?_
                refine RunE.pass rfl rfl rfl rfl ?_
                refine RunE.pass rfl rfl rfl rfl ?_
                refine RunE.pass rfl rfl rfl rfl ?_
                refine RunE.passC (fun _ => Fr.refl _ _) rfl rfl rfl rfl ?_ RunE.none
                refine RunE.tail rfl ?_
                replace hb9 := hb9.ext hX
                replace hb14 := hb14.ext hX
                replace hE := hE.trans hX
                refine Wl.pass rfl rfl rfl ?_
                refine Wl.val rfl rfl rfl (Gives.pickT rfl rfl rfl rfl) ?_
                refine Wl.val rfl rfl rfl (Gives.assign rfl rfl) ?_
                refine Wl.nil ?_
                refine Wx.thenN (hK18 _ _ ?_)
                refine Wc.ret ?_
                refine Wx.ret [_] ⟨rfl, trivial⟩ ?_
                refine ⟨?_, hE⟩
                simp_all [resV]
              · (first | replace h128 := of_decide_eq_false h128 | replace h128 := nd_false h128 | skip)
                refine RunE.read rfl rfl rfl rfl (fun wS _ => (Gives.move rfl rfl)) ?_
                refine RunE.read rfl rfl rfl rfl (fun wS _ => (Gives.pickF rfl rfl rfl rfl)) ?_
                refine RunE.read rfl rfl rfl rfl (fun wS _ => (Gives.move rfl rfl)) ?_
                refine RunE.split (t := 131) rfl (fun h131 => ?_) (fun h131 => ?_)
                · (first | replace h131 := of_decide_eq_true h131 | replace h131 := nd_true h131 | skip)
                  refine RunE.pass rfl rfl rfl rfl ?_
                  refine RunE.pass rfl rfl rfl rfl ?_
                  refine RunE.pass rfl rfl rfl rfl ?_
                  refine RunE.pass rfl rfl rfl rfl ?_
                  refine RunE.pass rfl rfl rfl rfl ?_
                  refine RunE.passC (fun _ => Fr.refl _ _) rfl rfl rfl rfl ?_ RunE.none
                  refine RunE.passC (fun _ => Fr.refl _ _) rfl rfl rfl rfl ?_ RunE.none
                  refine RunE.passC (fun _ => Fr.refl _ _) rfl rfl rfl rfl ?_ RunE.none
                  refine RunE.read rfl rfl rfl rfl (fun wS _ => (Gives.pickT rfl rfl rfl rfl)) ?_
                  refine RunE.read rfl rfl rfl rfl (fun wS _ => (Gives.move rfl rfl)) ?_
                  refine RunE.fix (t := 141) true rfl rfl ?_
                  refine RunE.pass rfl rfl rfl rfl ?_
                  refine RunE.pass rfl rfl rfl rfl ?_
                  refine RunE.pass rfl rfl rfl rfl ?_
                  refine RunE.pass rfl rfl rfl rfl ?_
                  refine RunE.pass rfl rfl rfl rfl ?_
                  refine RunE.pass rfl rfl rfl rfl ?_
                  refine RunE.pass rfl rfl rfl rfl ?_
                  refine RunE.pass rfl rfl rfl rfl ?_
                  refine RunE.pass rfl rfl rfl rfl ?_
                  refine RunE.pass rfl rfl rfl rfl ?_
                  refine RunE.pass rfl rfl rfl rfl ?_
                  refine RunE.passC (fun _ => Fr.refl _ _) rfl rfl rfl rfl ?_ RunE.none
                  refine RunE.tail rfl ?_
                  replace hb9 := hb9.ext hX
                  replace hb14 := hb14.ext hX
                  replace hE := hE.trans hX
                  refine Wl.pass rfl rfl rfl ?_
                  refine Wl.val rfl rfl rfl (Gives.pickT rfl rfl rfl rfl) ?_
                  refine Wl.val rfl rfl rfl (Gives.assign rfl rfl) ?_
                  refine Wl.nil ?_
                  refine Wx.thenN (hK18 _ _ ?_)
                  refine Wc.ret ?_
                  refine Wx.ret [_] ⟨rfl, trivial⟩ ?_
                  refine ⟨?_, hE⟩
                  simp_all [resV]
                · (first | replace h131 := of_decide_eq_false h131 | replace h131 := nd_false h131 | skip)
                  refine RunE.read rfl rfl rfl rfl (fun wS _ => (Gives.move rfl rfl)) ?_
                  refine RunE.read rfl rfl rfl rfl (fun wS _ => (Gives.move rfl rfl)) ?_
                  refine RunE.read rfl rfl rfl rfl (fun wS _ => (Gives.move rfl rfl)) ?_
                  refine RunE.read rfl rfl rfl rfl (fun wS _ => (Gives.add rfl rfl rfl (by first | exact IntWalk.i64_in _ (by omega) | exact u64_in _ (by omega) | exact u32_in _ (by omega) | exact u8_in _ (by omega) | exact rfl))) ?_
                  refine RunE.read rfl rfl rfl rfl (fun wS _ => (Gives.move rfl rfl)) ?_
                  refine RunE.freeC rfl rfl rfl rfl rfl Tryd.func29 rfl (by kernel_rfl) rfl (frame15 _ _ _ _ _ _ (hB6.ext (hR15.ext.trans hX)) (by omega)) ?_ RunE.none
                  rintro x11 w157 ⟨S7, m7, k7, rfl, hO7, hx157⟩
                  refine ⟨_, rfl, ?_⟩
                  have hB7 : BV w157 (fun _ => True) S7 m7 k7 (jFrame jr.s jr.p) := hO7.bv fun _ _ => trivial
                  have hm7 := hO7.len
                  replace hX := hX.trans hx157
                  refine RunE.freeC rfl rfl rfl rfl rfl Tryd.func29 rfl (by kernel_rfl) rfl (frame15 _ _ _ _ _ _ (hp.ext (hE.trans hX)) (by omega)) ?_ RunE.none
                  rintro x12 w1511 ⟨S8, m8, k8, rfl, hO8, hx1511⟩
                  refine ⟨_, rfl, ?_⟩
                  have hB8 : BV w1511 (fun _ => True) S8 m8 k8 (jFrame (((n + 1 : Nat) : Int) + 1) p) := hO8.bv fun _ _ => trivial
                  have hm8 := hO8.len
                  replace hB7 := hB7.ext hx1511
                  replace hX := hX.trans hx1511
                  refine RunE.freeC rfl rfl rfl rfl rfl Tryd.func28 rfl (by kernel_rfl) rfl (collideR _ _ _ _ _ _ _ _ _ hB7 hB8 (by omega) (by omega)) ?_ RunE.none
                  rintro x13 w1512 ⟨rfl, hx1512⟩
                  refine ⟨_, rfl, ?_⟩
                  replace hB7 := hB7.ext hx1512
                  replace hB8 := hB8.ext hx1512
                  replace hX := hX.trans hx1512
                  refine RunE.read rfl rfl rfl rfl (fun wS _ => (Gives.pickF rfl rfl rfl rfl)) ?_
                  refine RunE.read rfl rfl rfl rfl (fun wS _ => (Gives.move rfl rfl)) ?_
                  refine RunE.fix (t := 141) true rfl (coll_true (by omega) htri (by simp_all) (by simp_all)) ?_
                  refine RunE.pass rfl rfl rfl rfl ?_
                  refine RunE.pass rfl rfl rfl rfl ?_
                  refine RunE.pass rfl rfl rfl rfl ?_
                  refine RunE.pass rfl rfl rfl rfl ?_
                  refine RunE.pass rfl rfl rfl rfl ?_
                  refine RunE.pass rfl rfl rfl rfl ?_
                  refine RunE.pass rfl rfl rfl rfl ?_
                  refine RunE.pass rfl rfl rfl rfl ?_
                  refine RunE.pass rfl rfl rfl rfl ?_
                  refine RunE.pass rfl rfl rfl rfl ?_
                  refine RunE.pass rfl rfl rfl rfl ?_
                  refine RunE.passC (fun _ => Fr.refl _ _) rfl rfl rfl rfl ?_ RunE.none
                  refine RunE.tail rfl ?_
                  replace hb9 := hb9.ext hX
                  replace hb14 := hb14.ext hX
                  replace hE := hE.trans hX
                  refine Wl.pass rfl rfl rfl ?_
                  refine Wl.val rfl rfl rfl (Gives.pickT rfl rfl rfl rfl) ?_
                  refine Wl.val rfl rfl rfl (Gives.assign rfl rfl) ?_
                  refine Wl.nil ?_
                  refine Wx.thenN (hK18 _ _ ?_)
                  refine Wc.ret ?_
                  refine Wx.ret [_] ⟨rfl, trivial⟩ ?_
                  refine ⟨?_, hE⟩
                  simp_all [resV]
          · (first | replace h115 := of_decide_eq_false h115 | replace h115 := nd_false h115 | skip)
            refine Wl.pass rfl rfl rfl ?_
            refine Wl.pass rfl rfl rfl ?_
            refine Wl.pass rfl rfl rfl ?_
            refine Wl.val rfl rfl rfl (Gives.pickF rfl rfl rfl rfl) ?_
            refine Wl.val rfl rfl rfl (Gives.assign rfl rfl) ?_
            refine Wl.val rfl rfl rfl (Gives.assign rfl rfl) ?_
            refine Wl.nil ?_
            refine Wx.thenN (hK13 _ _ ?_)
            refine Wc.seq (fun K19 hK19 => ?_)
            refine Wc.keep [(2, _), (3, _), (10, _), (14, _), (16, _), (17, _), (19, _), (20, _)] (.cons rfl (.cons rfl (.cons rfl (.cons rfl (.cons rfl (.cons rfl (.cons rfl (.cons rfl (.nil))))))))) ?_
            refine Wc.region ?_
            refine Wl.val rfl rfl rfl (Gives.move rfl rfl) ?_
            refine Wl.val rfl rfl rfl (Gives.move rfl rfl) ?_
            refine Wl.val rfl rfl rfl (Gives.lenS rfl Tryd.underlying23 rfl) ?_
            refine Wl.val rfl rfl rfl (Gives.add rfl rfl rfl (by first | exact IntWalk.i64_in _ (by omega) | exact u64_in _ (by omega) | exact u32_in _ (by omega) | exact u8_in _ (by omega) | exact rfl)) ?_
            refine Wl.val rfl rfl rfl (Gives.geq rfl rfl rfl) ?_
            refine Wl.val rfl rfl rfl (Gives.assign rfl rfl) ?_
            refine Wl.nil ?_
            refine Wx.thenN (hK19 _ _ ?_)
            refine Wc.seq (fun K20 hK20 => ?_)
            refine Wc.seq (fun K21 hK21 => ?_)
            refine Wc.keep [(2, _), (10, _), (14, _), (16, _), (17, _), (19, _), (20, _), (21, _)] (.cons rfl (.cons rfl (.cons rfl (.cons rfl (.cons rfl (.cons rfl (.cons rfl (.cons rfl (.nil))))))))) ?_
            refine Wc.region ?_
            refine Wl.val rfl rfl rfl (Gives.move rfl rfl) ?_
            refine Wl.nil ?_
            refine Wx.thenN (hK21 _ _ ?_)
            refine Wc.cond _ rfl (fun h125 => ?_) (fun h125 => ?_)
            · (first | replace h125 := of_decide_eq_true h125 | replace h125 := nd_true h125 | skip)
              refine Wc.seq (fun K22 hK22 => ?_)
              refine Wc.keep [(20, _)] (.cons rfl (.nil)) ?_
              refine Wc.region ?_
              refine Wl.val rfl rfl rfl (Gives.move rfl rfl) ?_
              refine Wl.val rfl rfl rfl (Gives.assign rfl rfl) ?_
              refine Wl.nil ?_
              refine Wx.thenN (hK22 _ _ ?_)
              refine Wc.ret ?_
              refine Wx.thenR ?_
              refine Wx.ret [_] ⟨rfl, trivial⟩ ?_
              refine ⟨?_, hE⟩
              simp_all [resV]
            · (first | replace h125 := of_decide_eq_false h125 | replace h125 := nd_false h125 | skip)
              refine Wc.skip ?_
              refine Wx.thenN (hK20 _ _ ?_)
              refine Wc.seq (fun K23 hK23 => ?_)
              refine Wc.keep [(2, _), (10, _), (14, _), (16, _), (17, _), (19, _), (20, _)] (.cons rfl (.cons rfl (.cons rfl (.cons rfl (.cons rfl (.cons rfl (.cons rfl (.nil)))))))) ?_
              refine Wc.regionB (fun q => [7, 11, 12, 16, 22, 26].contains q) [] (.read 0 (.read 1 (.read 2 (.read 3 (.read 4 (.read 5 (.read 6 (.read 8 (.read 9 (.read 10 (.call true 7 (.call true 11 (.call true 12 (.read 13 (.read 14 (.read 15 (.read 16 (.read 17 (.read 18 (.read 19 (.read 20 (.read 21 (.read 22 (.read 23 (.read 24 (.read 25 (.call false 26 .tail .none)))))))))))))) .none) .none) .none))))))))))) 27 (by kernel_rfl) (by kernel_rfl) (by kernel_rfl) ?_
              intro w15 hR15
              replace hb9 := hb9.ext hR15.ext
              replace hb14 := hb14.ext hR15.ext
              replace hE := hE.trans hR15.ext
              have hO15_9 : Old w15.heap.size [] b9 := ⟨hb9.lt, trivial⟩
              have hO15_14 : Old w15.heap.size [] b14 := ⟨hb14.lt, trivial⟩
              have hX := Ext.refl w15
              refine RunE.read rfl rfl rfl rfl (fun wS _ => (Gives.move rfl rfl)) ?_
              refine RunE.read rfl rfl rfl rfl (fun wS _ => (Gives.move rfl rfl)) ?_
              refine RunE.split (t := 128) rfl (fun h128 => ?_) (fun h128 => ?_)
              · (first | replace h128 := of_decide_eq_true h128 | replace h128 := nd_true h128 | skip)
                refine RunE.pass rfl rfl rfl rfl ?_
                refine RunE.read rfl rfl rfl rfl (fun wS _ => (Gives.pickT rfl rfl rfl rfl)) ?_
                refine RunE.read rfl rfl rfl rfl (fun wS _ => (Gives.move rfl rfl)) ?_
                refine RunE.fix (t := 131) true rfl rfl ?_
                refine RunE.pass rfl rfl rfl rfl ?_
                refine RunE.pass rfl rfl rfl rfl ?_
                refine RunE.pass rfl rfl rfl rfl ?_
                refine RunE.pass rfl rfl rfl rfl ?_
                refine RunE.pass rfl rfl rfl rfl ?_
                refine RunE.passC (fun _ => Fr.refl _ _) rfl rfl rfl rfl ?_ RunE.none
                refine RunE.passC (fun _ => Fr.refl _ _) rfl rfl rfl rfl ?_ RunE.none
                refine RunE.passC (fun _ => Fr.refl _ _) rfl rfl rfl rfl ?_ RunE.none
                refine RunE.read rfl rfl rfl rfl (fun wS _ => (Gives.pickT rfl rfl rfl rfl)) ?_
                refine RunE.read rfl rfl rfl rfl (fun wS _ => (Gives.move rfl rfl)) ?_
                refine RunE.fix (t := 141) true rfl rfl ?_
                refine RunE.pass rfl rfl rfl rfl ?_
                refine RunE.pass rfl rfl rfl rfl ?_
                refine RunE.pass rfl rfl rfl rfl ?_
                refine RunE.pass rfl rfl rfl rfl ?_
                refine RunE.pass rfl rfl rfl rfl ?_
                refine RunE.pass rfl rfl rfl rfl ?_
                refine RunE.pass rfl rfl rfl rfl ?_
                refine RunE.pass rfl rfl rfl rfl ?_
                refine RunE.pass rfl rfl rfl rfl ?_
                refine RunE.pass rfl rfl rfl rfl ?_
                refine RunE.pass rfl rfl rfl rfl ?_
                refine RunE.passC (fun _ => Fr.refl _ _) rfl rfl rfl rfl ?_ RunE.none
                refine RunE.tail rfl ?_
                replace hb9 := hb9.ext hX
                replace hb14 := hb14.ext hX
                replace hE := hE.trans hX
                refine Wl.pass rfl rfl rfl ?_
                refine Wl.val rfl rfl rfl (Gives.pickT rfl rfl rfl rfl) ?_
                refine Wl.val rfl rfl rfl (Gives.assign rfl rfl) ?_
                refine Wl.nil ?_
                refine Wx.thenN (hK23 _ _ ?_)
                refine Wc.ret ?_
                refine Wx.ret [_] ⟨rfl, trivial⟩ ?_
                refine ⟨?_, hE⟩
                simp_all [resV]
              · (first | replace h128 := of_decide_eq_false h128 | replace h128 := nd_false h128 | skip)
                refine RunE.read rfl rfl rfl rfl (fun wS _ => (Gives.move rfl rfl)) ?_
                refine RunE.read rfl rfl rfl rfl (fun wS _ => (Gives.pickF rfl rfl rfl rfl)) ?_
                refine RunE.read rfl rfl rfl rfl (fun wS _ => (Gives.move rfl rfl)) ?_
                refine RunE.fix (t := 131) false rfl rfl ?_
                refine RunE.read rfl rfl rfl rfl (fun wS _ => (Gives.move rfl rfl)) ?_
                refine RunE.read rfl rfl rfl rfl (fun wS _ => (Gives.move rfl rfl)) ?_
                refine RunE.read rfl rfl rfl rfl (fun wS _ => (Gives.move rfl rfl)) ?_
                refine RunE.read rfl rfl rfl rfl (fun wS _ => (Gives.add rfl rfl rfl (by first | exact IntWalk.i64_in _ (by omega) | exact u64_in _ (by omega) | exact u32_in _ (by omega) | exact u8_in _ (by omega) | exact rfl))) ?_
                refine RunE.read rfl rfl rfl rfl (fun wS _ => (Gives.move rfl rfl)) ?_
                refine RunE.freeC rfl rfl rfl rfl rfl Tryd.func29 rfl (by kernel_rfl) rfl (frame15 _ _ _ _ _ _ (hB6.ext (hR15.ext.trans hX)) (by omega)) ?_ RunE.none
                rintro x11 w157 ⟨S7, m7, k7, rfl, hO7, hx157⟩
                refine ⟨_, rfl, ?_⟩
                have hB7 : BV w157 (fun _ => True) S7 m7 k7 (jFrame jr.s jr.p) := hO7.bv fun _ _ => trivial
                have hm7 := hO7.len
                replace hX := hX.trans hx157
                refine RunE.freeC rfl rfl rfl rfl rfl Tryd.func29 rfl (by kernel_rfl) rfl (frame15 _ _ _ _ _ _ (hp.ext (hE.trans hX)) (by omega)) ?_ RunE.none
                rintro x12 w1511 ⟨S8, m8, k8, rfl, hO8, hx1511⟩
                refine ⟨_, rfl, ?_⟩
                have hB8 : BV w1511 (fun _ => True) S8 m8 k8 (jFrame (((n + 1 : Nat) : Int) + 1) p) := hO8.bv fun _ _ => trivial
                have hm8 := hO8.len
                replace hB7 := hB7.ext hx1511
                replace hX := hX.trans hx1511
                refine RunE.freeC rfl rfl rfl rfl rfl Tryd.func28 rfl (by kernel_rfl) rfl (collideR _ _ _ _ _ _ _ _ _ hB7 hB8 (by omega) (by omega)) ?_ RunE.none
                rintro x13 w1512 ⟨rfl, hx1512⟩
                refine ⟨_, rfl, ?_⟩
                replace hB7 := hB7.ext hx1512
                replace hB8 := hB8.ext hx1512
                replace hX := hX.trans hx1512
                refine RunE.read rfl rfl rfl rfl (fun wS _ => (Gives.pickF rfl rfl rfl rfl)) ?_
                refine RunE.read rfl rfl rfl rfl (fun wS _ => (Gives.move rfl rfl)) ?_
                refine RunE.fix (t := 141) true rfl (coll_true (by omega) htri (by simp_all) (by simp_all)) ?_
                refine RunE.pass rfl rfl rfl rfl ?_
                refine RunE.pass rfl rfl rfl rfl ?_
                refine RunE.pass rfl rfl rfl rfl ?_
                refine RunE.pass rfl rfl rfl rfl ?_
                refine RunE.pass rfl rfl rfl rfl ?_
                refine RunE.pass rfl rfl rfl rfl ?_
                refine RunE.pass rfl rfl rfl rfl ?_
                refine RunE.pass rfl rfl rfl rfl ?_
                refine RunE.pass rfl rfl rfl rfl ?_
                refine RunE.pass rfl rfl rfl rfl ?_
                refine RunE.pass rfl rfl rfl rfl ?_
                refine RunE.passC (fun _ => Fr.refl _ _) rfl rfl rfl rfl ?_ RunE.none
                refine RunE.tail rfl ?_
                replace hb9 := hb9.ext hX
                replace hb14 := hb14.ext hX
                replace hE := hE.trans hX
                refine Wl.pass rfl rfl rfl ?_
                refine Wl.val rfl rfl rfl (Gives.pickT rfl rfl rfl rfl) ?_
                refine Wl.val rfl rfl rfl (Gives.assign rfl rfl) ?_
                refine Wl.nil ?_
                refine Wx.thenN (hK23 _ _ ?_)
                refine Wc.ret ?_
                refine Wx.ret [_] ⟨rfl, trivial⟩ ?_
                refine ⟨?_, hE⟩
                simp_all [resV]
        · (first | replace h106 := of_decide_eq_false h106 | replace h106 := nd_false h106 | skip)
          refine Wl.pass rfl rfl rfl ?_
          refine Wl.pass rfl rfl rfl ?_
          refine Wl.pass rfl rfl rfl ?_
          refine Wl.val rfl rfl rfl (Gives.pickF rfl rfl rfl rfl) ?_
          refine Wl.val rfl rfl rfl (Gives.move rfl rfl) ?_
          refine Wl.val rfl rfl rfl (Gives.move rfl rfl) ?_
          refine Wl.val rfl rfl rfl (Gives.add rfl rfl rfl (by first | exact IntWalk.i64_in _ (by omega) | exact u64_in _ (by omega) | exact u32_in _ (by omega) | exact u8_in _ (by omega) | exact rfl)) ?_
          refine Wl.val rfl rfl rfl (Gives.eql rfl rfl rfl) ?_
          refine Wl.val rfl rfl rfl (Gives.move rfl rfl) ?_
          refine Wl.guard rfl rfl rfl (fun h115 => ?_) (fun h115 => ?_)
          · (first | replace h115 := of_decide_eq_true h115 | replace h115 := nd_true h115 | skip)
            refine Wl.val rfl rfl rfl (Gives.move rfl rfl) ?_
            refine Wl.val rfl rfl rfl (Gives.move rfl rfl) ?_
            refine Wl.call rfl rfl rfl rfl Tryd.func22 rfl (by kernel_rfl) rfl (same_calls _ _ _ _ _ _ _ _ _ hB6 (hp.ext hE)) ?_
            rintro x10 w115 ⟨rfl, hq115⟩
            refine ⟨_, rfl, ?_⟩
            replace hB6 := hB6.ext hq115.ext
            replace hb9 := hb9.ext hq115.ext
            replace hb14 := hb14.ext hq115.ext
            replace hE := hE.trans hq115.ext
            refine Wl.val rfl rfl rfl (Gives.pickT rfl rfl rfl rfl) ?_
            refine Wl.val rfl rfl rfl (Gives.assign rfl rfl) ?_
            refine Wl.val rfl rfl rfl (Gives.assign rfl rfl) ?_
            refine Wl.nil ?_
            refine Wx.thenN (hK13 _ _ ?_)
            refine Wc.seq (fun K24 hK24 => ?_)
            refine Wc.keep [(2, _), (3, _), (10, _), (14, _), (16, _), (17, _), (19, _), (20, _)] (.cons rfl (.cons rfl (.cons rfl (.cons rfl (.cons rfl (.cons rfl (.cons rfl (.cons rfl (.nil))))))))) ?_
            refine Wc.region ?_
            refine Wl.val rfl rfl rfl (Gives.move rfl rfl) ?_
            refine Wl.val rfl rfl rfl (Gives.move rfl rfl) ?_
            refine Wl.val rfl rfl rfl (Gives.lenS rfl Tryd.underlying23 rfl) ?_
            refine Wl.val rfl rfl rfl (Gives.add rfl rfl rfl (by first | exact IntWalk.i64_in _ (by omega) | exact u64_in _ (by omega) | exact u32_in _ (by omega) | exact u8_in _ (by omega) | exact rfl)) ?_
            refine Wl.val rfl rfl rfl (Gives.geq rfl rfl rfl) ?_
            refine Wl.val rfl rfl rfl (Gives.assign rfl rfl) ?_
            refine Wl.nil ?_
            refine Wx.thenN (hK24 _ _ ?_)
            refine Wc.seq (fun K25 hK25 => ?_)
            refine Wc.seq (fun K26 hK26 => ?_)
            refine Wc.keep [(2, _), (10, _), (14, _), (16, _), (17, _), (19, _), (20, _), (21, _)] (.cons rfl (.cons rfl (.cons rfl (.cons rfl (.cons rfl (.cons rfl (.cons rfl (.cons rfl (.nil))))))))) ?_
            refine Wc.region ?_
            refine Wl.val rfl rfl rfl (Gives.move rfl rfl) ?_
            refine Wl.nil ?_
            refine Wx.thenN (hK26 _ _ ?_)
            refine Wc.cond _ rfl (fun h125 => ?_) (fun h125 => ?_)
            · (first | replace h125 := of_decide_eq_true h125 | replace h125 := nd_true h125 | skip)
              refine Wc.seq (fun K27 hK27 => ?_)
              refine Wc.keep [(20, _)] (.cons rfl (.nil)) ?_
              refine Wc.region ?_
              refine Wl.val rfl rfl rfl (Gives.move rfl rfl) ?_
              refine Wl.val rfl rfl rfl (Gives.assign rfl rfl) ?_
              refine Wl.nil ?_
              refine Wx.thenN (hK27 _ _ ?_)
              refine Wc.ret ?_
              refine Wx.thenR ?_
              refine Wx.ret [_] ⟨rfl, trivial⟩ ?_
              refine ⟨?_, hE⟩
              simp_all [resV]
            · (first | replace h125 := of_decide_eq_false h125 | replace h125 := nd_false h125 | skip)
              refine Wc.skip ?_
              refine Wx.thenN (hK25 _ _ ?_)
              refine Wc.seq (fun K28 hK28 => ?_)
              refine Wc.keep [(2, _), (10, _), (14, _), (16, _), (17, _), (19, _), (20, _)] (.cons rfl (.cons rfl (.cons rfl (.cons rfl (.cons rfl (.cons rfl (.cons rfl (.nil)))))))) ?_
              refine Wc.regionB (fun q => [7, 11, 12, 16, 22, 26].contains q) [] (.read 0 (.read 1 (.read 2 (.read 3 (.read 4 (.read 5 (.read 6 (.read 8 (.read 9 (.read 10 (.call true 7 (.call true 11 (.call true 12 (.read 13 (.read 14 (.read 15 (.read 16 (.read 17 (.read 18 (.read 19 (.read 20 (.read 21 (.read 22 (.read 23 (.read 24 (.read 25 (.call false 26 .tail .none)))))))))))))) .none) .none) .none))))))))))) 27 (by kernel_rfl) (by kernel_rfl) (by kernel_rfl) ?_
              intro w15 hR15
              replace hb9 := hb9.ext hR15.ext
              replace hb14 := hb14.ext hR15.ext
              replace hE := hE.trans hR15.ext
              have hO15_9 : Old w15.heap.size [] b9 := ⟨hb9.lt, trivial⟩
              have hO15_14 : Old w15.heap.size [] b14 := ⟨hb14.lt, trivial⟩
              have hX := Ext.refl w15
              refine RunE.read rfl rfl rfl rfl (fun wS _ => (Gives.move rfl rfl)) ?_
              refine RunE.read rfl rfl rfl rfl (fun wS _ => (Gives.move rfl rfl)) ?_
              refine RunE.fix (t := 128) false rfl rfl ?_
              refine RunE.read rfl rfl rfl rfl (fun wS _ => (Gives.move rfl rfl)) ?_
              refine RunE.read rfl rfl rfl rfl (fun wS _ => (Gives.pickF rfl rfl rfl rfl)) ?_
              refine RunE.read rfl rfl rfl rfl (fun wS _ => (Gives.move rfl rfl)) ?_
              refine RunE.split (t := 131) rfl (fun h131 => ?_) (fun h131 => ?_)
              · (first | replace h131 := of_decide_eq_true h131 | replace h131 := nd_true h131 | skip)
                refine RunE.pass rfl rfl rfl rfl ?_
                refine RunE.pass rfl rfl rfl rfl ?_
                refine RunE.pass rfl rfl rfl rfl ?_
                refine RunE.pass rfl rfl rfl rfl ?_
                refine RunE.pass rfl rfl rfl rfl ?_
                refine RunE.passC (fun _ => Fr.refl _ _) rfl rfl rfl rfl ?_ RunE.none
                refine RunE.passC (fun _ => Fr.refl _ _) rfl rfl rfl rfl ?_ RunE.none
                refine RunE.passC (fun _ => Fr.refl _ _) rfl rfl rfl rfl ?_ RunE.none
                refine RunE.read rfl rfl rfl rfl (fun wS _ => (Gives.pickT rfl rfl rfl rfl)) ?_
                refine RunE.read rfl rfl rfl rfl (fun wS _ => (Gives.move rfl rfl)) ?_
                refine RunE.fix (t := 141) true rfl rfl ?_
                refine RunE.pass rfl rfl rfl rfl ?_
                refine RunE.pass rfl rfl rfl rfl ?_
                refine RunE.pass rfl rfl rfl rfl ?_
                refine RunE.pass rfl rfl rfl rfl ?_
                refine RunE.pass rfl rfl rfl rfl ?_
                refine RunE.pass rfl rfl rfl rfl ?_
                refine RunE.pass rfl rfl rfl rfl ?_
                refine RunE.pass rfl rfl rfl rfl ?_
                refine RunE.pass rfl rfl rfl rfl ?_
                refine RunE.pass rfl rfl rfl rfl ?_
                refine RunE.pass rfl rfl rfl rfl ?_
                refine RunE.passC (fun _ => Fr.refl _ _) rfl rfl rfl rfl ?_ RunE.none
                refine RunE.tail rfl ?_
                replace hb9 := hb9.ext hX
                replace hb14 := hb14.ext hX
                replace hE := hE.trans hX
                refine Wl.pass rfl rfl rfl ?_
                refine Wl.val rfl rfl rfl (Gives.pickT rfl rfl rfl rfl) ?_
                refine Wl.val rfl rfl rfl (Gives.assign rfl rfl) ?_
                refine Wl.nil ?_
                refine Wx.thenN (hK28 _ _ ?_)
                refine Wc.ret ?_
                refine Wx.ret [_] ⟨rfl, trivial⟩ ?_
                refine ⟨?_, hE⟩
                simp_all [resV]
              · (first | replace h131 := of_decide_eq_false h131 | replace h131 := nd_false h131 | skip)
                refine RunE.read rfl rfl rfl rfl (fun wS _ => (Gives.move rfl rfl)) ?_
                refine RunE.read rfl rfl rfl rfl (fun wS _ => (Gives.move rfl rfl)) ?_
                refine RunE.read rfl rfl rfl rfl (fun wS _ => (Gives.move rfl rfl)) ?_
                refine RunE.read rfl rfl rfl rfl (fun wS _ => (Gives.add rfl rfl rfl (by first | exact IntWalk.i64_in _ (by omega) | exact u64_in _ (by omega) | exact u32_in _ (by omega) | exact u8_in _ (by omega) | exact rfl))) ?_
                refine RunE.read rfl rfl rfl rfl (fun wS _ => (Gives.move rfl rfl)) ?_
                refine RunE.freeC rfl rfl rfl rfl rfl Tryd.func29 rfl (by kernel_rfl) rfl (frame15 _ _ _ _ _ _ (hB6.ext (hR15.ext.trans hX)) (by omega)) ?_ RunE.none
                rintro x11 w157 ⟨S7, m7, k7, rfl, hO7, hx157⟩
                refine ⟨_, rfl, ?_⟩
                have hB7 : BV w157 (fun _ => True) S7 m7 k7 (jFrame jr.s jr.p) := hO7.bv fun _ _ => trivial
                have hm7 := hO7.len
                replace hX := hX.trans hx157
                refine RunE.freeC rfl rfl rfl rfl rfl Tryd.func29 rfl (by kernel_rfl) rfl (frame15 _ _ _ _ _ _ (hp.ext (hE.trans hX)) (by omega)) ?_ RunE.none
                rintro x12 w1511 ⟨S8, m8, k8, rfl, hO8, hx1511⟩
                refine ⟨_, rfl, ?_⟩
                have hB8 : BV w1511 (fun _ => True) S8 m8 k8 (jFrame (((n + 1 : Nat) : Int) + 1) p) := hO8.bv fun _ _ => trivial
                have hm8 := hO8.len
                replace hB7 := hB7.ext hx1511
                replace hX := hX.trans hx1511
                refine RunE.freeC rfl rfl rfl rfl rfl Tryd.func28 rfl (by kernel_rfl) rfl (collideR _ _ _ _ _ _ _ _ _ hB7 hB8 (by omega) (by omega)) ?_ RunE.none
                rintro x13 w1512 ⟨rfl, hx1512⟩
                refine ⟨_, rfl, ?_⟩
                replace hB7 := hB7.ext hx1512
                replace hB8 := hB8.ext hx1512
                replace hX := hX.trans hx1512
                refine RunE.read rfl rfl rfl rfl (fun wS _ => (Gives.pickF rfl rfl rfl rfl)) ?_
                refine RunE.read rfl rfl rfl rfl (fun wS _ => (Gives.move rfl rfl)) ?_
                refine RunE.fix (t := 141) true rfl (coll_true (by omega) htri (by simp_all) (by simp_all)) ?_
                refine RunE.pass rfl rfl rfl rfl ?_
                refine RunE.pass rfl rfl rfl rfl ?_
                refine RunE.pass rfl rfl rfl rfl ?_
                refine RunE.pass rfl rfl rfl rfl ?_
                refine RunE.pass rfl rfl rfl rfl ?_
                refine RunE.pass rfl rfl rfl rfl ?_
                refine RunE.pass rfl rfl rfl rfl ?_
                refine RunE.pass rfl rfl rfl rfl ?_
                refine RunE.pass rfl rfl rfl rfl ?_
                refine RunE.pass rfl rfl rfl rfl ?_
                refine RunE.pass rfl rfl rfl rfl ?_
                refine RunE.passC (fun _ => Fr.refl _ _) rfl rfl rfl rfl ?_ RunE.none
                refine RunE.tail rfl ?_
                replace hb9 := hb9.ext hX
                replace hb14 := hb14.ext hX
                replace hE := hE.trans hX
                refine Wl.pass rfl rfl rfl ?_
                refine Wl.val rfl rfl rfl (Gives.pickT rfl rfl rfl rfl) ?_
                refine Wl.val rfl rfl rfl (Gives.assign rfl rfl) ?_
                refine Wl.nil ?_
                refine Wx.thenN (hK28 _ _ ?_)
                refine Wc.ret ?_
                refine Wx.ret [_] ⟨rfl, trivial⟩ ?_
                refine ⟨?_, hE⟩
                simp_all [resV]
          · (first | replace h115 := of_decide_eq_false h115 | replace h115 := nd_false h115 | skip)
            refine Wl.pass rfl rfl rfl ?_
            refine Wl.pass rfl rfl rfl ?_
            refine Wl.pass rfl rfl rfl ?_
            refine Wl.val rfl rfl rfl (Gives.pickF rfl rfl rfl rfl) ?_
            refine Wl.val rfl rfl rfl (Gives.assign rfl rfl) ?_
            refine Wl.val rfl rfl rfl (Gives.assign rfl rfl) ?_
            refine Wl.nil ?_
            refine Wx.thenN (hK13 _ _ ?_)
            refine Wc.seq (fun K29 hK29 => ?_)
            refine Wc.keep [(2, _), (3, _), (10, _), (14, _), (16, _), (17, _), (19, _), (20, _)] (.cons rfl (.cons rfl (.cons rfl (.cons rfl (.cons rfl (.cons rfl (.cons rfl (.cons rfl (.nil))))))))) ?_
            refine Wc.region ?_
            refine Wl.val rfl rfl rfl (Gives.move rfl rfl) ?_
            refine Wl.val rfl rfl rfl (Gives.move rfl rfl) ?_
            refine Wl.val rfl rfl rfl (Gives.lenS rfl Tryd.underlying23 rfl) ?_
            refine Wl.val rfl rfl rfl (Gives.add rfl rfl rfl (by first | exact IntWalk.i64_in _ (by omega) | exact u64_in _ (by omega) | exact u32_in _ (by omega) | exact u8_in _ (by omega) | exact rfl)) ?_
            refine Wl.val rfl rfl rfl (Gives.geq rfl rfl rfl) ?_
            refine Wl.val rfl rfl rfl (Gives.assign rfl rfl) ?_
            refine Wl.nil ?_
            refine Wx.thenN (hK29 _ _ ?_)
            refine Wc.seq (fun K30 hK30 => ?_)
            refine Wc.seq (fun K31 hK31 => ?_)
            refine Wc.keep [(2, _), (10, _), (14, _), (16, _), (17, _), (19, _), (20, _), (21, _)] (.cons rfl (.cons rfl (.cons rfl (.cons rfl (.cons rfl (.cons rfl (.cons rfl (.cons rfl (.nil))))))))) ?_
            refine Wc.region ?_
            refine Wl.val rfl rfl rfl (Gives.move rfl rfl) ?_
            refine Wl.nil ?_
            refine Wx.thenN (hK31 _ _ ?_)
            refine Wc.cond _ rfl (fun h125 => ?_) (fun h125 => ?_)
            · (first | replace h125 := of_decide_eq_true h125 | replace h125 := nd_true h125 | skip)
              refine Wc.seq (fun K32 hK32 => ?_)
              refine Wc.keep [(20, _)] (.cons rfl (.nil)) ?_
              refine Wc.region ?_
              refine Wl.val rfl rfl rfl (Gives.move rfl rfl) ?_
              refine Wl.val rfl rfl rfl (Gives.assign rfl rfl) ?_
              refine Wl.nil ?_
              refine Wx.thenN (hK32 _ _ ?_)
              refine Wc.ret ?_
              refine Wx.thenR ?_
              refine Wx.ret [_] ⟨rfl, trivial⟩ ?_
              refine ⟨?_, hE⟩
              simp_all [resV]
            · (first | replace h125 := of_decide_eq_false h125 | replace h125 := nd_false h125 | skip)
              refine Wc.skip ?_
              refine Wx.thenN (hK30 _ _ ?_)
              refine Wc.seq (fun K33 hK33 => ?_)
              refine Wc.keep [(2, _), (10, _), (14, _), (16, _), (17, _), (19, _), (20, _)] (.cons rfl (.cons rfl (.cons rfl (.cons rfl (.cons rfl (.cons rfl (.cons rfl (.nil)))))))) ?_
              refine Wc.regionB (fun q => [7, 11, 12, 16, 22, 26].contains q) [] (.read 0 (.read 1 (.read 2 (.read 3 (.read 4 (.read 5 (.read 6 (.read 8 (.read 9 (.read 10 (.call true 7 (.call true 11 (.call true 12 (.read 13 (.read 14 (.read 15 (.read 16 (.read 17 (.read 18 (.read 19 (.read 20 (.read 21 (.read 22 (.read 23 (.read 24 (.read 25 (.call false 26 .tail .none)))))))))))))) .none) .none) .none))))))))))) 27 (by kernel_rfl) (by kernel_rfl) (by kernel_rfl) ?_
              intro w15 hR15
              replace hb9 := hb9.ext hR15.ext
              replace hb14 := hb14.ext hR15.ext
              replace hE := hE.trans hR15.ext
              have hO15_9 : Old w15.heap.size [] b9 := ⟨hb9.lt, trivial⟩
              have hO15_14 : Old w15.heap.size [] b14 := ⟨hb14.lt, trivial⟩
              have hX := Ext.refl w15
              refine RunE.read rfl rfl rfl rfl (fun wS _ => (Gives.move rfl rfl)) ?_
              refine RunE.read rfl rfl rfl rfl (fun wS _ => (Gives.move rfl rfl)) ?_
              refine RunE.fix (t := 128) false rfl rfl ?_
              refine RunE.read rfl rfl rfl rfl (fun wS _ => (Gives.move rfl rfl)) ?_
              refine RunE.read rfl rfl rfl rfl (fun wS _ => (Gives.pickF rfl rfl rfl rfl)) ?_
              refine RunE.read rfl rfl rfl rfl (fun wS _ => (Gives.move rfl rfl)) ?_
              refine RunE.fix (t := 131) false rfl rfl ?_
              refine RunE.read rfl rfl rfl rfl (fun wS _ => (Gives.move rfl rfl)) ?_
              refine RunE.read rfl rfl rfl rfl (fun wS _ => (Gives.move rfl rfl)) ?_
              refine RunE.read rfl rfl rfl rfl (fun wS _ => (Gives.move rfl rfl)) ?_
              refine RunE.read rfl rfl rfl rfl (fun wS _ => (Gives.add rfl rfl rfl (by first | exact IntWalk.i64_in _ (by omega) | exact u64_in _ (by omega) | exact u32_in _ (by omega) | exact u8_in _ (by omega) | exact rfl))) ?_
              refine RunE.read rfl rfl rfl rfl (fun wS _ => (Gives.move rfl rfl)) ?_
              refine RunE.freeC rfl rfl rfl rfl rfl Tryd.func29 rfl (by kernel_rfl) rfl (frame15 _ _ _ _ _ _ (hB6.ext (hR15.ext.trans hX)) (by omega)) ?_ RunE.none
              rintro x11 w157 ⟨S7, m7, k7, rfl, hO7, hx157⟩
              refine ⟨_, rfl, ?_⟩
              have hB7 : BV w157 (fun _ => True) S7 m7 k7 (jFrame jr.s jr.p) := hO7.bv fun _ _ => trivial
              have hm7 := hO7.len
              replace hX := hX.trans hx157
              refine RunE.freeC rfl rfl rfl rfl rfl Tryd.func29 rfl (by kernel_rfl) rfl (frame15 _ _ _ _ _ _ (hp.ext (hE.trans hX)) (by omega)) ?_ RunE.none
              rintro x12 w1511 ⟨S8, m8, k8, rfl, hO8, hx1511⟩
              refine ⟨_, rfl, ?_⟩
              have hB8 : BV w1511 (fun _ => True) S8 m8 k8 (jFrame (((n + 1 : Nat) : Int) + 1) p) := hO8.bv fun _ _ => trivial
              have hm8 := hO8.len
              replace hB7 := hB7.ext hx1511
              replace hX := hX.trans hx1511
              refine RunE.freeC rfl rfl rfl rfl rfl Tryd.func28 rfl (by kernel_rfl) rfl (collideR _ _ _ _ _ _ _ _ _ hB7 hB8 (by omega) (by omega)) ?_ RunE.none
              rintro x13 w1512 ⟨rfl, hx1512⟩
              refine ⟨_, rfl, ?_⟩
              replace hB7 := hB7.ext hx1512
              replace hB8 := hB8.ext hx1512
              replace hX := hX.trans hx1512
              refine RunE.read rfl rfl rfl rfl (fun wS _ => (Gives.pickF rfl rfl rfl rfl)) ?_
              refine RunE.read rfl rfl rfl rfl (fun wS _ => (Gives.move rfl rfl)) ?_
              refine RunE.fix (t := 141) true rfl (coll_true (by omega) htri (by simp_all) (by simp_all)) ?_
              refine RunE.pass rfl rfl rfl rfl ?_
              refine RunE.pass rfl rfl rfl rfl ?_
              refine RunE.pass rfl rfl rfl rfl ?_
              refine RunE.pass rfl rfl rfl rfl ?_
              refine RunE.pass rfl rfl rfl rfl ?_
              refine RunE.pass rfl rfl rfl rfl ?_
              refine RunE.pass rfl rfl rfl rfl ?_
              refine RunE.pass rfl rfl rfl rfl ?_
              refine RunE.pass rfl rfl rfl rfl ?_
              refine RunE.pass rfl rfl rfl rfl ?_
              refine RunE.pass rfl rfl rfl rfl ?_
              refine RunE.passC (fun _ => Fr.refl _ _) rfl rfl rfl rfl ?_ RunE.none
              refine RunE.tail rfl ?_
              replace hb9 := hb9.ext hX
              replace hb14 := hb14.ext hX
              replace hE := hE.trans hX
              refine Wl.pass rfl rfl rfl ?_
              refine Wl.val rfl rfl rfl (Gives.pickT rfl rfl rfl rfl) ?_
              refine Wl.val rfl rfl rfl (Gives.assign rfl rfl) ?_
              refine Wl.nil ?_
              refine Wx.thenN (hK33 _ _ ?_)
              refine Wc.ret ?_
              refine Wx.ret [_] ⟨rfl, trivial⟩ ?_
              refine ⟨?_, hE⟩
              simp_all [resV]
    · (first | replace h32 := of_decide_eq_true h32 | replace h32 := nd_true h32 | skip)
      refine Wl.pass rfl rfl rfl ?_
      refine Wl.pass rfl rfl rfl ?_
      refine Wl.pass rfl rfl rfl ?_
      refine Wl.val rfl rfl rfl (Gives.pickT rfl rfl rfl rfl) ?_
      refine Wl.nil ?_
      refine Wx.thenN (hK5 _ _ ?_)
      refine Wc.condT rfl rfl ?_
      refine Wc.seq (fun K34 hK34 => ?_)
      refine Wc.keep [] (.nil) ?_
      refine Wc.region ?_
      refine Wl.val rfl rfl rfl (Gives.assign rfl rfl) ?_
      refine Wl.nil ?_
      refine Wx.thenN (hK34 _ _ ?_)
      refine Wc.ret ?_
      refine Wx.thenR ?_
      refine Wx.ret [_] ⟨rfl, trivial⟩ ?_
      refine ⟨?_, hE⟩
      simp_all [resV]
  · (first | replace h27 := of_decide_eq_true h27 | replace h27 := nd_true h27 | skip)
    refine Wl.pass rfl rfl rfl ?_
    refine Wl.pass rfl rfl rfl ?_
    refine Wl.pass rfl rfl rfl ?_
    refine Wl.val rfl rfl rfl (Gives.pickT rfl rfl rfl rfl) ?_
    refine Wl.val rfl rfl rfl (Gives.move rfl rfl) ?_
    refine Wl.guardF rfl rfl rfl rfl ?_
    refine Wl.pass rfl rfl rfl ?_
    refine Wl.pass rfl rfl rfl ?_
    refine Wl.pass rfl rfl rfl ?_
    refine Wl.val rfl rfl rfl (Gives.pickT rfl rfl rfl rfl) ?_
    refine Wl.nil ?_
    refine Wx.thenN (hK5 _ _ ?_)
    refine Wc.condT rfl rfl ?_
    refine Wc.seq (fun K35 hK35 => ?_)
    refine Wc.keep [] (.nil) ?_
    refine Wc.region ?_
    refine Wl.val rfl rfl rfl (Gives.assign rfl rfl) ?_
    refine Wl.nil ?_
    refine Wx.thenN (hK35 _ _ ?_)
    refine Wc.ret ?_
    refine Wx.thenR ?_
    refine Wx.ret [_] ⟨rfl, trivial⟩ ?_
    refine ⟨?_, hE⟩
    simp_all [resV]
end Go.Proofs.YtbbeoojlgfegjaaDoor
