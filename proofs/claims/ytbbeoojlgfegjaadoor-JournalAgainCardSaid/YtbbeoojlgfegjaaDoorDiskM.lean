/- The disk: New, Cut, Stop, Restart, Read and the comparison, program and reference. -/
import Derived.Test.YtbbeoojlgfegjaaDoorDiskW3
namespace Go.Proofs.YtbbeoojlgfegjaaDoor
set_option linter.all false
open Go.RowKit
set_option linter.unusedVariables false
set_option linter.unusedSimpArgs false
attribute [local go_sem ↓ high] run_max_nm run_min_nm

/-- What a function gives that hands back a disk alone. -/
def DOne (P : Nat → Prop) (w : World) (n : Nat) (d1 : Dk) (e : Ending) (w' : World) : Prop :=
  ∃ A' c' d', e = .returned (.agg #[.slice A' n c', .int .i64 d'.wr, .int .i64 d'.ct, .int .i64 d'.tn, .bool d'.off]) ∧ Hid (d' = d1) ∧ BL w' P A' n c' d'.areas ∧ Ext w w'
theorem DOne.mk {P : Nat → Prop} {w w' : World} {n c' : Nat} {A' : Option Addr} {d1 : Dk} {e : Ending} (he : e = .returned (.agg #[.slice A' n c', .int .i64 d1.wr, .int .i64 d1.ct, .int .i64 d1.tn, .bool d1.off]))
    (hb : BL w' P A' n c' d1.areas) (hE : Ext w w') : DOne P w n d1 e w' := ⟨A', c', d1, he, rfl, hb, hE⟩

theorem cutP_calls (P : Nat → Prop) (w : World) (hP : Anew w P) (A : Option Addr) (n c : Nat) (d : Dk) (ha : BL w P A n c d.areas) (a t : Int) :
    Calls Tryd.prog 26 #[.agg #[.slice A n c, .int .i64 d.wr, .int .i64 d.ct, .int .i64 d.tn, .bool d.off], .int .i64 a, .int .i64 t] w (DOne P w n (cutDS d a t)) := by
  go_enter Tryd.func26, Tryd.ntmps26
  go_wp2
  refine bodyPost_ret (v := .agg #[.slice A n c, .int .i64 (d.wr), .int .i64 (a), .int .i64 (t), .bool d.off]) (by simp [results, Tryd.results26, go_sem]) rfl ?_
  exact DOne.mk (A' := A) (c' := c) rfl (ha.ext (((Ext.refl w).alloc _).alloc _)) (((Ext.refl w).alloc _).alloc _)

theorem cutR_calls (P : Nat → Prop) (w : World) (hP : Anew w P) (A : Option Addr) (n c : Nat) (d : Dk) (ha : BL w P A n c d.areas) (a t : Int) :
    Calls Tryd.prog 13 #[.agg #[.slice A n c, .int .i64 d.wr, .int .i64 d.ct, .int .i64 d.tn, .bool d.off], .int .i64 a, .int .i64 t] w (DOne P w n (cutDS d a t)) := by
  go_enter Tryd.func13, Tryd.ntmps13
  go_wp2
  refine bodyPost_ret (v := .agg #[.slice A n c, .int .i64 (d.wr), .int .i64 (a), .int .i64 (t), .bool d.off]) (by simp [results, Tryd.results13, go_sem]) rfl ?_
  exact DOne.mk (A' := A) (c' := c) rfl (ha.ext (((Ext.refl w).alloc _).alloc _)) (((Ext.refl w).alloc _).alloc _)

theorem stopR_calls (P : Nat → Prop) (w : World) (hP : Anew w P) (A : Option Addr) (n c : Nat) (d : Dk) (ha : BL w P A n c d.areas)  :
    Calls Tryd.prog 19 #[.agg #[.slice A n c, .int .i64 d.wr, .int .i64 d.ct, .int .i64 d.tn, .bool d.off]] w (DOne P w n (stopS d)) := by
  go_enter Tryd.func19, Tryd.ntmps19
  go_wp2
  refine bodyPost_ret (v := .agg #[.slice A n c, .int .i64 (d.wr), .int .i64 (d.ct), .int .i64 (d.tn), .bool true]) (by simp [results, Tryd.results19, go_sem]) rfl ?_
  exact DOne.mk (A' := A) (c' := c) rfl (ha.ext (((Ext.refl w).alloc _).alloc _)) (((Ext.refl w).alloc _).alloc _)

theorem restartP_calls (P : Nat → Prop) (w : World) (hP : Anew w P) (A : Option Addr) (n c : Nat) (d : Dk) (ha : BL w P A n c d.areas)  :
    Calls Tryd.prog 27 #[.agg #[.slice A n c, .int .i64 d.wr, .int .i64 d.ct, .int .i64 d.tn, .bool d.off]] w (DOne P w n (restartS d)) := by
  go_enter Tryd.func27, Tryd.ntmps27
  go_wp2
  refine bodyPost_ret (v := .agg #[.slice A n c, .int .i64 (0), .int .i64 (0), .int .i64 (0), .bool false]) (by simp [results, Tryd.results27, go_sem]) rfl ?_
  exact DOne.mk (A' := A) (c' := c) rfl (ha.ext (((Ext.refl w).alloc _).alloc _)) (((Ext.refl w).alloc _).alloc _)

set_option maxHeartbeats 1000000 in
theorem newP_calls (P : Nat → Prop) (w : World) (hP : Anew w P) (k : Int) :
    Calls Tryd.prog 23 #[.int .i64 k] w (DOne P w (min k.toNat 64) (newS k)) := by
  obtain ⟨n, hn⟩ : ∃ n : Nat, n = min k.toNat 64 := ⟨_, rfl⟩
  rw [← hn]
  have hle : n ≤ 64 := by omega
  have heq : iMin (iMax k 0) 64 = (n : Int) := by unfold iMin iMax; omega
  have HN := Lib.hid hn
  clear hn
  go_enter Tryd.func23, Tryd.ntmps23
  go_wp2_with (at_make; refine wpList_mk rfl _ _ _ rfl _ _ _ _ infoBL Tryd.underlying22 _ _ n rfl rfl (by omega) (by omega) ?_; intro g w2 hg1 hg2 hown hE2; have hB := (Blk.new' (w := w) (t := 28) (cs := #[.slice none 0 0, .int .i64 0, .int .i64 0, .int .i64 0, .bool false]) (n := w.heap.size) rfl).ext hE2; have f0 := hB.free; have HB := Lib.hid hB; obtain ⟨c0, c1, c2, c3, c4⟩ := hB.c5; clear hB)
  refine bodyPost_ret (v := .agg #[.slice (some ⟨g, 0, none⟩) n n, .int .i64 0, .int .i64 0, .int .i64 0, .bool false]) (by simp [results, Tryd.results23, go_sem, c0, c1, c2, c3, c4]) rfl ?_
  have hmk : (madeCells (Value.slice none 0 0).cells (n * 1)).toList = List.replicate n (Value.slice none 0 0) := by rw [Nat.mul_one]; exact toList_madeCells_one _ _
  rw [hmk] at hown
  have hown2 := own_stores [.slice (some ⟨g, 0, none⟩) n n, .int .i64 0, .int .i64 0, .int .i64 0, .bool false] 0 _ hown (g := w.heap.size) (by simp)
  have hEf := Ext.stores (g := w.heap.size) [.slice (some ⟨g, 0, none⟩) n n, .int .i64 0, .int .i64 0, .int .i64 0, .bool false] 0 _ (((Ext.refl w).alloc _).trans hE2) (Nat.le_refl _)
  refine DOne.mk (A' := some ⟨g, 0, none⟩) (c' := n) rfl ⟨_, Row.of_own hown2 (fun k hk => hP k (by simp at hk; omega)), ?_⟩ hEf
  have := Each.blank (stores w2 w.heap.size 0 [.slice (some ⟨g, 0, none⟩) n n, .int .i64 0, .int .i64 0, .int .i64 0, .bool false]) P n
  unfold newS
  rw [← HN.out]
  exact this

set_option maxHeartbeats 1000000 in
theorem newR_calls (P : Nat → Prop) (w : World) (hP : Anew w P) (k : Int) :
    Calls Tryd.prog 30 #[.int .i64 k] w (DOne P w (min k.toNat 64) (newS k)) := by
  obtain ⟨n, hn⟩ : ∃ n : Nat, n = min k.toNat 64 := ⟨_, rfl⟩
  rw [← hn]
  have hle : n ≤ 64 := by omega
  have heq : iMax 0 (iMin k 64) = (n : Int) := by unfold iMin iMax; omega
  have HN := Lib.hid hn
  clear hn
  go_enter Tryd.func30, Tryd.ntmps30
  go_wp2_with (at_make; refine wpList_mk rfl _ _ _ rfl _ _ _ _ infoBL Tryd.underlying22 _ _ n rfl rfl (by omega) (by omega) ?_; intro g w2 hg1 hg2 hown hE2; have hB := (Blk.new' (w := w) (t := 28) (cs := #[.slice none 0 0, .int .i64 0, .int .i64 0, .int .i64 0, .bool false]) (n := w.heap.size) rfl).ext hE2; have f0 := hB.free; have HB := Lib.hid hB; obtain ⟨c0, c1, c2, c3, c4⟩ := hB.c5; clear hB)
  refine bodyPost_ret (v := .agg #[.slice (some ⟨g, 0, none⟩) n n, .int .i64 0, .int .i64 0, .int .i64 0, .bool false]) (by simp [results, Tryd.results30, go_sem, c0, c1, c2, c3, c4]) rfl ?_
  have hmk : (madeCells (Value.slice none 0 0).cells (n * 1)).toList = List.replicate n (Value.slice none 0 0) := by rw [Nat.mul_one]; exact toList_madeCells_one _ _
  rw [hmk] at hown
  have hown2 := own_stores [.slice (some ⟨g, 0, none⟩) n n, .int .i64 0, .int .i64 0, .int .i64 0, .bool false] 0 _ hown (g := w.heap.size) (by simp)
  have hEf := Ext.stores (g := w.heap.size) [.slice (some ⟨g, 0, none⟩) n n, .int .i64 0, .int .i64 0, .int .i64 0, .bool false] 0 _ (((Ext.refl w).alloc _).trans hE2) (Nat.le_refl _)
  refine DOne.mk (A' := some ⟨g, 0, none⟩) (c' := n) rfl ⟨_, Row.of_own hown2 (fun k hk => hP k (by simp at hk; omega)), ?_⟩ hEf
  have := Each.blank (stores w2 w.heap.size 0 [.slice (some ⟨g, 0, none⟩) n n, .int .i64 0, .int .i64 0, .int .i64 0, .bool false]) P n
  unfold newS
  rw [← HN.out]
  exact this


def RRes (w : World) (l1 : List UInt8) (e1 : Int) (e : Ending) (w' : World) : Prop :=
  ∃ S n k l' e', e = .returned (.tuple #[.slice S n k, .int .i64 e']) ∧ Hid (l' = l1 ∧ e' = e1) ∧ OB w' w.heap.size 5 S n k l' ∧ Ext w w'

theorem readS_off {d : Dk} {area : Int} (h : d.off = true) : readS d area = [] ∧ readE d area = 29 := by
  unfold readS readE; exact ⟨if_pos h, if_pos h⟩
theorem readS_out {d : Dk} {area : Int} (h : d.off = false) (h1 : ¬ (0 ≤ area ∧ area < d.areas.length)) : readS d area = [] ∧ readE d area = 1 := by
  unfold readS readE; exact ⟨by rw [if_neg (by simp [h]), if_pos h1], by rw [if_neg (by simp [h]), if_pos h1]⟩
theorem readS_in {d : Dk} {area : Nat} (h : d.off = false) (h1 : area < d.areas.length) : readS d (area : Nat) = d.areas[area] ∧ readE d (area : Nat) = 0 := by
  unfold readS readE; exact ⟨by rw [if_neg (by simp [h]), if_neg (by omega)]; simp [List.getD, h1], by rw [if_neg (by simp [h]), if_neg (by omega)]⟩

set_option maxHeartbeats 1000000 in
theorem readP_calls {P : Nat → Prop} (w : World) (A : Option Addr) (n c : Nat) (d : Dk) (ha : BL w P A n c d.areas) (hn : n ≤ 64) (hs : ∀ l ∈ d.areas, l.length ≤ 35184372088832) (area : Int) :
    Calls Tryd.prog 36 #[.agg #[.slice A n c, .int .i64 d.wr, .int .i64 d.ct, .int .i64 d.tn, .bool d.off], .int .i64 area] w (RRes w (readS d area) (readE d area)) := by
  have hlen := Lib.hid ha.len
  cases hoff : d.off with
  | true =>
    have H := readS_off (area := area) hoff
    rw [H.1, H.2]
    clear H hoff
    go_enter Tryd.func36, Tryd.ntmps36
    go_wp2
    go_ret2
    exact ⟨none, 0, 0, [], 29, rfl, ⟨rfl, rfl⟩, OB.nil_ _ _ _, (Ext.refl w).alloc _⟩
  | false =>
    by_cases h0 : 0 ≤ area
    · by_cases h1 : area < n
      · obtain ⟨ar, rfl⟩ := Int.eq_ofNat_of_zero_le h0
        have har : ar < n := by omega
        have H := readS_in hoff (show ar < d.areas.length by rw [hlen.out]; exact har)
        rw [H.1, H.2]
        obtain ⟨b, off, rfl, hl, A1, n1, c1, hc, hbv⟩ := ha.at_ har
        have hb := World.block_lt_of_cell? _ _ hc
        simp only at hb
        have hlen1 := Lib.hid hbv.len
        have hb1 : n1 ≤ 35184372088832 := by have h := hs _ (List.getElem_mem hl); have := hlen1.out; omega
        have hin : d.areas.length = n := hlen.out
        have HIN := Lib.hid hin
        clear H hoff hin
        go_enter Tryd.func36, Tryd.ntmps36
        go_wp2_with (first | (go_at_call 46; go_in) | (at_builtin; refine wpList_appB (w0 := w) rfl _ _ _ rfl _ infoB Tryd.underlying23 _ _ _ [] rfl (OB.nil_ _ _ _) A1 n1 c1 _ rfl (hbv.ext (((Ext.refl w).alloc _).alloc _)) (by omega) (((Ext.refl w).alloc _).alloc _) ?_; intro S k w2 hown hE))
        go_ret2
        exact ⟨S, _, k, d.areas[ar], 0, rfl, ⟨rfl, rfl⟩, by simpa using hown, hE⟩
      · have H := readS_out hoff (show ¬ (0 ≤ area ∧ area < d.areas.length) by rw [hlen.out]; omega)
        rw [H.1, H.2]
        clear H hoff
        go_enter Tryd.func36, Tryd.ntmps36
        go_wp2
        go_ret2
        exact ⟨none, 0, 0, [], 1, rfl, ⟨rfl, rfl⟩, OB.nil_ _ _ _, ((Ext.refl w).alloc _).alloc _⟩
    · have H := readS_out hoff (show ¬ (0 ≤ area ∧ area < d.areas.length) by omega)
      rw [H.1, H.2]
      clear H hoff
      go_enter Tryd.func36, Tryd.ntmps36
      go_wp2
      go_ret2
      exact ⟨none, 0, 0, [], 1, rfl, ⟨rfl, rfl⟩, OB.nil_ _ _ _, ((Ext.refl w).alloc _).alloc _⟩

set_option maxHeartbeats 1000000 in
theorem readR_calls {P : Nat → Prop} (w : World) (A : Option Addr) (n c : Nat) (d : Dk) (ha : BL w P A n c d.areas) (hn : n ≤ 64) (hs : ∀ l ∈ d.areas, l.length ≤ 35184372088832) (area : Int) :
    Calls Tryd.prog 38 #[.agg #[.slice A n c, .int .i64 d.wr, .int .i64 d.ct, .int .i64 d.tn, .bool d.off], .int .i64 area] w (RRes w (readS d area) (readE d area)) := by
  have hlen := Lib.hid ha.len
  cases hoff : d.off with
  | true =>
    have H := readS_off (area := area) hoff
    rw [H.1, H.2]
    clear H hoff
    go_enter Tryd.func38, Tryd.ntmps38
    go_wp2
    go_ret2
    exact ⟨none, 0, 0, [], 29, rfl, ⟨rfl, rfl⟩, OB.nil_ _ _ _, (Ext.refl w).alloc _⟩
  | false =>
    by_cases h0 : 0 ≤ area
    · by_cases h1 : area < n
      · obtain ⟨ar, rfl⟩ := Int.eq_ofNat_of_zero_le h0
        have har : ar < n := by omega
        have H := readS_in hoff (show ar < d.areas.length by rw [hlen.out]; exact har)
        rw [H.1, H.2]
        obtain ⟨b, off, rfl, hl, A1, n1, c1, hc, hbv⟩ := ha.at_ har
        have hb := World.block_lt_of_cell? _ _ hc
        simp only at hb
        have hlen1 := Lib.hid hbv.len
        have hb1 : n1 ≤ 35184372088832 := by have h := hs _ (List.getElem_mem hl); have := hlen1.out; omega
        have hin : d.areas.length = n := hlen.out
        have HIN := Lib.hid hin
        clear H hoff hin
        go_enter Tryd.func38, Tryd.ntmps38
        go_wp2_with (first | (go_at_call 17; refine (copy_calls _ A1 n1 c1 d.areas[ar] (hbv.ext ((Ext.refl w).alloc _)) (by omega)).mono ?_; rintro e w2 ⟨S, k, rfl, hown, hE⟩))
        go_ret2
        exact ⟨S, _, k, d.areas[ar], 0, rfl, ⟨rfl, rfl⟩, hown.mono (by simp), ((Ext.refl w).alloc _).trans hE⟩
      · have H := readS_out hoff (show ¬ (0 ≤ area ∧ area < d.areas.length) by rw [hlen.out]; omega)
        rw [H.1, H.2]
        clear H hoff
        go_enter Tryd.func38, Tryd.ntmps38
        go_wp2
        go_ret2
        exact ⟨none, 0, 0, [], 1, rfl, ⟨rfl, rfl⟩, OB.nil_ _ _ _, (Ext.refl w).alloc _⟩
    · have H := readS_out hoff (show ¬ (0 ≤ area ∧ area < d.areas.length) by omega)
      rw [H.1, H.2]
      clear H hoff
      go_enter Tryd.func38, Tryd.ntmps38
      go_wp2
      go_ret2
      exact ⟨none, 0, 0, [], 1, rfl, ⟨rfl, rfl⟩, OB.nil_ _ _ _, (Ext.refl w).alloc _⟩


set_option maxHeartbeats 1000000 in
theorem sameD_calls {P P' : Nat → Prop} (w : World) (A B : Option Addr) (n c m k : Nat) (a b : Dk) (ha : BL w P A n c a.areas) (hb : BL w P' B m k b.areas) :
    Calls Tryd.prog 16 #[.agg #[.slice A n c, .int .i64 a.wr, .int .i64 a.ct, .int .i64 a.tn, .bool a.off], .agg #[.slice B m k, .int .i64 b.wr, .int .i64 b.ct, .int .i64 b.tn, .bool b.off]] w fun e w' =>
      e = .returned (.bool (sameS a b)) ∧ Ext w w' := by
  cases h0 : decide (a.areas = b.areas) with
  | false =>
    have H0 := Lib.hid h0
    go_enter Tryd.func16, Tryd.ntmps16
    go_wp2_with (go_at_call 34; refine (lists_calls _ A B n c m k a.areas b.areas (ha.ext (((Ext.refl w).alloc _).alloc _)) (hb.ext (((Ext.refl w).alloc _).alloc _))).mono ?_; rintro e w1 ⟨rfl, q, rfl⟩)
    go_ret
    exact ⟨by simp [sameS, H0.out], (((Ext.refl w).alloc _).alloc _).drewN _⟩
  | true =>
    have H0 := Lib.hid h0
    cases h1 : (a.wr == b.wr) with
    | false =>
      have H1 := Lib.hid h1
      go_enter Tryd.func16, Tryd.ntmps16
      go_wp2_with (go_at_call 34; refine (lists_calls _ A B n c m k a.areas b.areas (ha.ext (((Ext.refl w).alloc _).alloc _)) (hb.ext (((Ext.refl w).alloc _).alloc _))).mono ?_; rintro e w1 ⟨rfl, q, rfl⟩)
      go_ret
      exact ⟨by simp [sameS, H0.out, H1.out], (((Ext.refl w).alloc _).alloc _).drewN _⟩
    | true =>
      have H1 := Lib.hid h1
      cases h2 : (a.ct == b.ct) with
      | false =>
        have H2 := Lib.hid h2
        go_enter Tryd.func16, Tryd.ntmps16
        go_wp2_with (go_at_call 34; refine (lists_calls _ A B n c m k a.areas b.areas (ha.ext (((Ext.refl w).alloc _).alloc _)) (hb.ext (((Ext.refl w).alloc _).alloc _))).mono ?_; rintro e w1 ⟨rfl, q, rfl⟩)
        go_ret
        exact ⟨by simp [sameS, H0.out, H1.out, H2.out], (((Ext.refl w).alloc _).alloc _).drewN _⟩
      | true =>
        have H2 := Lib.hid h2
        cases h3 : (a.tn == b.tn) with
        | false =>
          have H3 := Lib.hid h3
          go_enter Tryd.func16, Tryd.ntmps16
          go_wp2_with (go_at_call 34; refine (lists_calls _ A B n c m k a.areas b.areas (ha.ext (((Ext.refl w).alloc _).alloc _)) (hb.ext (((Ext.refl w).alloc _).alloc _))).mono ?_; rintro e w1 ⟨rfl, q, rfl⟩)
          go_ret
          exact ⟨by simp [sameS, H0.out, H1.out, H2.out, H3.out], (((Ext.refl w).alloc _).alloc _).drewN _⟩
        | true =>
          have H3 := Lib.hid h3
          cases h4 : (a.off == b.off) with
          | false =>
            have H4 := Lib.hid h4
            go_enter Tryd.func16, Tryd.ntmps16
            go_wp2_with (go_at_call 34; refine (lists_calls _ A B n c m k a.areas b.areas (ha.ext (((Ext.refl w).alloc _).alloc _)) (hb.ext (((Ext.refl w).alloc _).alloc _))).mono ?_; rintro e w1 ⟨rfl, q, rfl⟩)
            go_ret
            exact ⟨by simp [sameS, H0.out, H1.out, H2.out, H3.out, H4.out], (((Ext.refl w).alloc _).alloc _).drewN _⟩
          | true =>
            have H4 := Lib.hid h4
            go_enter Tryd.func16, Tryd.ntmps16
            go_wp2_with (go_at_call 34; refine (lists_calls _ A B n c m k a.areas b.areas (ha.ext (((Ext.refl w).alloc _).alloc _)) (hb.ext (((Ext.refl w).alloc _).alloc _))).mono ?_; rintro e w1 ⟨rfl, q, rfl⟩)
            go_ret
            exact ⟨by simp [sameS, H0.out, H1.out, H2.out, H3.out, H4.out], (((Ext.refl w).alloc _).alloc _).drewN _⟩
end Go.Proofs.YtbbeoojlgfegjaaDoor
