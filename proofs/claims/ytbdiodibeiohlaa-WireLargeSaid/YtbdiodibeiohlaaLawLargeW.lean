/- WireLarge: the walk. -/
import Derived.Test.YtbdiodibeiohlaaWireT
namespace Go.Proofs.Ytbdiodibeiohlaa
set_option linter.all false
open Go.RowKit
theorem large_law (l : List UInt8) (h : 8 ≤ l.length) : ∃ r v, rdUint ⟨l, 0, 0⟩ 8 = (r, v) ∧ 0 ≤ v ∧ ((r.e = 4 ∧ 128 ≤ (l[0]'(by omega)).toNat) ∨ (r.e = 0 ∧ (l[0]'(by omega)).toNat < 128)) := by
  match l, h with
  | [], h => simp at h
  | x :: l, h =>
    have h7 : (l.take 7).length = 7 := by rw [List.length_take]; simp at h; omega
    have key : ∀ (l : List UInt8) (a : Nat), a * 256 ^ l.length ≤ l.foldl (fun n (x : UInt8) => n * 256 + x.toNat) a ∧ l.foldl (fun n (x : UInt8) => n * 256 + x.toNat) a < (a + 1) * 256 ^ l.length := by
      intro l
      induction l with
      | nil => intro a; simp
      | cons x r ih =>
        intro a
        have h1 := ih (a * 256 + x.toNat)
        have h2 := x.toNat_lt
        rw [List.foldl_cons, List.length_cons, Nat.pow_succ]
        refine ⟨Nat.le_trans ?_ h1.1, Nat.lt_of_lt_of_le h1.2 ?_⟩
        · calc a * (256 ^ r.length * 256) = (a * 256) * 256 ^ r.length := by rw [Nat.mul_assoc, Nat.mul_comm 256]
            _ ≤ _ := Nat.mul_le_mul_right _ (by omega)
        · calc (a * 256 + x.toNat + 1) * 256 ^ r.length ≤ ((a + 1) * 256) * 256 ^ r.length := Nat.mul_le_mul_right _ (by omega)
            _ = (a + 1) * (256 ^ r.length * 256) := by rw [Nat.mul_assoc, Nat.mul_comm 256]
    have hk := key (l.take 7) x.toNat
    rw [h7] at hk
    have hb : beV ((x :: l).take 8) = (l.take 7).foldl (fun n (x : UInt8) => n * 256 + x.toNat) x.toNat := by simp [beV]
    have hlen : ¬ (x :: l).length - 0 < (8 : Int).toNat := by simp at h ⊢; omega
    unfold rdUint
    simp only [ne_eq, not_true_eq_false, if_false, List.drop_zero, List.getElem_cons_zero]
    rw [if_neg (by omega), if_neg hlen]
    have e8 : (8 : Int).toNat = 8 := rfl
    rw [e8]
    have hpow : (256 : Nat) ^ 7 = 72057594037927936 := by decide
    rw [hpow] at hk
    by_cases hx : 128 ≤ x.toNat
    · have ht : tooBig (beV ((x :: l).take 8)) = true := by unfold tooBig; rw [hb]; simp only [decide_eq_true_eq]; omega
      rw [if_pos ht]
      exact ⟨_, _, rfl, Int.le_refl _, .inl ⟨rfl, hx⟩⟩
    · have ht : ¬ tooBig (beV ((x :: l).take 8)) = true := by unfold tooBig; rw [hb]; simp only [decide_eq_true_eq]; omega
      rw [if_neg ht]
      exact ⟨_, _, rfl, Int.natCast_nonneg _, .inr ⟨rfl, by omega⟩⟩
/-- What the last test leans on. -/
def LargeS (g g' : Nat) (A : Option Addr) (n c : Nat) (l : List UInt8) (A2 : Option Addr) (n2 c2 : Nat) (r : Rd) (w : World) : Prop :=
  TR w g g' A2 n2 c2 A n c r r ∧ BV w (fun k => k ≠ g ∧ k ≠ g') A n c l
set_option maxHeartbeats 1000000 in
theorem wireLarge_walk {P : Nat → Prop} (w : World) (A : Option Addr) (n c : Nat) (l : List UInt8) (ha : BV w P A n c l) :
    Calls Try.prog 4 #[.slice A n c] w fun e w' => e = .returned (.bool true) ∧ Ext w w' := by
  by_cases h8 : (n : Int) < 8
  · go_enter Try.func4, Try.ntmps4
    go_wp2_with (go_at_call 9; go_loud (refine (awake_calls w).mono ?_; rintro e w1 ⟨rfl, hE1⟩))
    go_ret
    exact ⟨rfl, hE1⟩
  · by_cases h60 : (60 : Int) < n
    · go_enter Try.func4, Try.ntmps4
      go_wp2_with (go_at_call 9; go_loud (refine (awake_calls w).mono ?_; rintro e w1 ⟨rfl, hE1⟩))
      go_ret
      exact ⟨rfl, hE1⟩
    · have hl := Lib.hid ha.len
      go_enter Try.func4, Try.ntmps4
      go_upto_region 7 with (first | (go_at_call 9; go_loud (refine (awake_calls w).mono ?_; rintro e w1 ⟨rfl, hE1⟩)) | (go_at_call 13; go_loud (refine (newP_rd _ A n c l (by refine BV.ext (by assumption) ?_; (with_reducible repeat (first | exact Ext.refl _ | refine Ext.alloc ?_ _ | refine Ext.drewN ?_ _ | refine Ext.trans ?_ (by assumption)))) (by omega)).mono ?_; rintro e w2 ⟨g, A2, n2, c2, rfl, hg2, hR2, hE2⟩)) | (go_at_call 14; go_loud (refine (newR2 (P := fun k => k ≠ g) w2 A n c l ((ha.offs _ (fun k _ hk => by have := hE1.size; omega)).ext (hE1.trans hE2)) (by omega)).mono ?_; rintro e w3 ⟨g', rfl, hg3, hR3, hB3, hE3⟩)) | (go_at_call 15; go_loud (refine (rUint_calls w3 g A2 n2 c2 l 0 0 8 (hR2.fr hE3)).mono ?_; rintro e w4 ⟨v4, r4, rfl, H4, hR4, hF4⟩)))
      have hl8 : 8 ≤ l.length := by have := hl.out; omega
      obtain ⟨rr, vv, hrd, hv0, hcase⟩ := large_law l hl8
      obtain ⟨rfl, rfl⟩ : v4 = vv ∧ r4 = rr := by have := H4.out; rw [hrd] at this; exact this
      have HRD := Lib.hid hrd
      clear hrd H4
      have hbw : BV w3 (fun k => k ≠ g ∧ k ≠ g') A n c l := hB3.offs _ (fun k hk _ => hk)
      have hT4 : TR w4 g g' A2 n2 c2 A n c r4 ⟨l, 0, 0⟩ := (TR.new hR2 hE3 hg3 hR3 hbw).stepL hR4 (by have := rdUint_b ⟨l, 0, 0⟩ 8; rw [HRD.out] at this; exact this) hF4
      have hbw4 := hbw.fr (hF4.mono (fun k hk => hk.1))
      have hEw : Ext w w4 := Ext.past (hE1.trans (hE2.trans hE3)) hF4 (by have := hE1.size; omega)
      have hg'w : w.heap.size ≤ g' := by have := hE1.size; have := hE2.size; omega
      have hcut := hbw4.at_ (show 0 < n by omega)
      obtain ⟨b0, off0, rfl, hl0, -⟩ := hcut
      clear hbw hB3 hR3 hR2 hF4 hR4 hE3 hE2
      obtain ⟨x0, hx0⟩ : ∃ x, x = l[0] := ⟨_, rfl⟩
      rw [← hx0] at hcase
      have HX := Lib.hid hx0
      clear hx0
      rcases hcase with ⟨he, hx⟩ | ⟨he, hx⟩
      · have hx2 : (128 : Int) ≤ (x0.toNat : Int) := by omega
        refine wp_region_planG (Keeps (LargeS g g' (some ⟨b0, off0, none⟩) n c l A2 n2 c2 r4)) (.read 0 (.read 1 (.call 2 (.read 3 (.read 4 (.read 5 (.read 6 (.read 7 (.read 8 (.read 9 (.read 11 (.read 12 (.read 13 (.read 14 (.call 10 (.read 15 (.read 16 (.read 17 (.read 18 (.read 21 (.read 22 (.read 23 (.read 24 (.call 19 (.read 20 .tail) .none))))))))) .none)))))))))))) .none))) 25 (by kernel_rfl) (by kernel_rfl) (by kernel_rfl) (Keeps.refl _) Keeps.trans Ext (Ext.drew (Ext.refl _)) (fun w1 hS => ?_)
        apply run_read rfl
        · intro w1 hS
          go_wp2
          exact rv_done rfl rfl
        try simp only [Act.put, List.setIfInBounds_toArray, List.set]
        apply run_read rfl
        · intro w1 hS
          go_wp2
          exact rv_done rfl rfl
        try simp only [Act.put, List.setIfInBounds_toArray, List.set]
        refine run_call rfl ?_ run_none
        go_wp2_with (first | (go_at_call 16; go_loud (refine (sUint_calls w1 g' (some ⟨b0, off0, none⟩) n c l 0 0 8 ((hT4.ext hS).right)).mono ?_; rintro e w5 ⟨v5, r5, rfl, H5, hR5, hF5⟩; obtain ⟨rfl, rfl⟩ : v5 = v4 ∧ r5 = r4 := (by have := H5.out; rw [HRD.out] at this; exact this); have hSw : LargeS g g' (some ⟨b0, off0, none⟩) n c l A2 n2 c2 r5 w5 := ⟨(hT4.ext hS).stepR hR5 (by have := rdUint_b ⟨l, 0, 0⟩ 8; rw [HRD.out] at this; exact this) hF5, (hbw4.ext hS).fr (hF5.mono (fun k hk => hk.2))⟩; have hE5 := Ext.past (hEw.trans hS) hF5 hg'w)) | (go_at_call 17; go_loud (refine (rErr_calls w5 g A2 n2 c2 _ _ _ hSw.1.left).mono ?_; rintro e w6 ⟨rfl, rfl⟩)))
        refine nx_done rfl (fun _ => hSw) ?_
        try simp only [Act.put, List.setIfInBounds_toArray, List.set]
        apply run_read rfl
        · intro w1 hS
          go_wp2
          exact rv_done rfl rfl
        try simp only [Act.put, List.setIfInBounds_toArray, List.set]
        apply run_read rfl
        · intro w1 hS
          go_wp2
          exact rv_done rfl rfl
        try simp only [Act.put, List.setIfInBounds_toArray, List.set]
        apply run_read rfl
        · intro w1 hS
          go_wp2
          exact rv_done rfl rfl
        try simp only [Act.put, List.setIfInBounds_toArray, List.set]
        apply run_read rfl
        · intro w1 hS
          go_wp2
          exact rv_done rfl rfl
        try simp only [Act.put, List.setIfInBounds_toArray, List.set]
        apply run_read rfl
        · intro w1 hS
          go_wp2
          exact rv_done rfl rfl
        try simp only [Act.put, List.setIfInBounds_toArray, List.set]
        apply run_read rfl
        · intro w1 hS
          go_wp2
          exact rv_done rfl rfl
        try simp only [Act.put, List.setIfInBounds_toArray, List.set]
        apply run_read rfl
        · intro w1 hS
          go_wp2
          exact rv_done rfl rfl
        try simp only [Act.put, List.setIfInBounds_toArray, List.set]
        apply run_read rfl
        · intro w1 hS
          go_wp2
          exact rv_done rfl rfl
        try simp only [Act.put, List.setIfInBounds_toArray, List.set]
        apply run_read rfl
        · intro w1 hS
          go_wp2
          exact rv_done rfl rfl
        try simp only [Act.put, List.setIfInBounds_toArray, List.set]
        apply run_read rfl
        · intro w1 hS
          go_wp2
          exact rv_done rfl rfl
        try simp only [Act.put, List.setIfInBounds_toArray, List.set]
        apply run_read rfl
        · intro w1 hS
          have hK := hS hSw
          have hB3 := hK.1.b'
          obtain ⟨b1, off1, hb1, hl1, hcell⟩ := hK.2.at_ (show 0 < n by omega)
          injection hb1 with hb1; injection hb1 with hb1 hb2; subst hb1; subst hb2
          rw [Nat.add_zero, ← HX.out] at hcell
          go_wp2_with (first | ((with_reducible (show wpList _ _ _ (⟨_, Op.load _ _, _, _, _, _⟩ :: _) _ _)); refine wpList_ldC rfl _ _ rfl _ rfl _ (by refine Eq.trans (Blk.cell (Blk.ext (by assumption) (by (with_reducible repeat (first | exact Ext.refl _ | refine Ext.alloc ?_ _ | refine Ext.drewN ?_ _ | refine Ext.trans ?_ (by assumption))))) _) ?_; rfl) (by kernel_rfl) ?_) | ((with_reducible (show wpList _ _ _ (⟨_, Op.load _ _, _, _, _, _⟩ :: _) _ _)); refine wpList_ldB rfl _ _ rfl _ rfl (by refine Blk.ext (by assumption) ?_; (with_reducible repeat (first | exact Ext.refl _ | refine Ext.alloc ?_ _ | refine Ext.drewN ?_ _ | refine Ext.trans ?_ (by assumption)))) (by kernel_rfl) (by kernel_rfl) ?_))
          exact rv_done rfl rfl
        try simp only [Act.put, List.setIfInBounds_toArray, List.set]
        refine run_call rfl ?_ run_none
        go_wp2_with (first | (go_at_call 16; go_loud (refine (sUint_calls w1 g' (some ⟨b0, off0, none⟩) n c l 0 0 8 ((hT4.ext hS).right)).mono ?_; rintro e w5 ⟨v5, r5, rfl, H5, hR5, hF5⟩; obtain ⟨rfl, rfl⟩ : v5 = v4 ∧ r5 = r4 := (by have := H5.out; rw [HRD.out] at this; exact this); have hSw : LargeS g g' (some ⟨b0, off0, none⟩) n c l A2 n2 c2 r5 w5 := ⟨(hT4.ext hS).stepR hR5 (by have := rdUint_b ⟨l, 0, 0⟩ 8; rw [HRD.out] at this; exact this) hF5, (hbw4.ext hS).fr (hF5.mono (fun k hk => hk.2))⟩; have hE5 := Ext.past (hEw.trans hS) hF5 hg'w)) | (go_at_call 17; go_loud (refine (rErr_calls w5 g A2 n2 c2 _ _ _ hSw.1.left).mono ?_; rintro e w6 ⟨rfl, rfl⟩)))
        refine nx_done rfl (fun _ => hSw) ?_
        try simp only [Act.put, List.setIfInBounds_toArray, List.set]
        apply run_read rfl
        · intro w1 hS
          go_wp2
          exact rv_done rfl rfl
        try simp only [Act.put, List.setIfInBounds_toArray, List.set]
        apply run_read rfl
        · intro w1 hS
          go_wp2
          exact rv_done rfl rfl
        try simp only [Act.put, List.setIfInBounds_toArray, List.set]
        apply run_read rfl
        · intro w1 hS
          go_wp2
          exact rv_done rfl rfl
        try simp only [Act.put, List.setIfInBounds_toArray, List.set]
        apply run_read rfl
        · intro w1 hS
          go_wp2
          exact rv_done rfl rfl
        try simp only [Act.put, List.setIfInBounds_toArray, List.set]
        apply run_read rfl
        · intro w1 hS
          go_wp2
          exact rv_done rfl rfl
        try simp only [Act.put, List.setIfInBounds_toArray, List.set]
        apply run_read rfl
        · intro w1 hS
          go_wp2
          exact rv_done rfl rfl
        try simp only [Act.put, List.setIfInBounds_toArray, List.set]
        apply run_read rfl
        · intro w1 hS
          have hK := hS hSw
          have hB3 := hK.1.b'
          obtain ⟨b1, off1, hb1, hl1, hcell⟩ := hK.2.at_ (show 0 < n by omega)
          injection hb1 with hb1; injection hb1 with hb1 hb2; subst hb1; subst hb2
          rw [Nat.add_zero, ← HX.out] at hcell
          go_wp2_with (first | ((with_reducible (show wpList _ _ _ (⟨_, Op.load _ _, _, _, _, _⟩ :: _) _ _)); refine wpList_ldC rfl _ _ rfl _ rfl _ (by refine Eq.trans (Blk.cell (Blk.ext (by assumption) (by (with_reducible repeat (first | exact Ext.refl _ | refine Ext.alloc ?_ _ | refine Ext.drewN ?_ _ | refine Ext.trans ?_ (by assumption))))) _) ?_; rfl) (by kernel_rfl) ?_) | ((with_reducible (show wpList _ _ _ (⟨_, Op.load _ _, _, _, _, _⟩ :: _) _ _)); refine wpList_ldB rfl _ _ rfl _ rfl (by refine Blk.ext (by assumption) ?_; (with_reducible repeat (first | exact Ext.refl _ | refine Ext.alloc ?_ _ | refine Ext.drewN ?_ _ | refine Ext.trans ?_ (by assumption)))) (by kernel_rfl) (by kernel_rfl) ?_))
          exact rv_done rfl rfl
        try simp only [Act.put, List.setIfInBounds_toArray, List.set]
        apply run_read rfl
        · intro w1 hS
          go_wp2
          exact rv_done rfl rfl
        try simp only [Act.put, List.setIfInBounds_toArray, List.set]
        refine run_call rfl ?_ run_none
        go_wp2_with (first | (go_at_call 16; go_loud (refine (sUint_calls w1 g' (some ⟨b0, off0, none⟩) n c l 0 0 8 ((hT4.ext hS).right)).mono ?_; rintro e w5 ⟨v5, r5, rfl, H5, hR5, hF5⟩; obtain ⟨rfl, rfl⟩ : v5 = v4 ∧ r5 = r4 := (by have := H5.out; rw [HRD.out] at this; exact this); have hSw : LargeS g g' (some ⟨b0, off0, none⟩) n c l A2 n2 c2 r5 w5 := ⟨(hT4.ext hS).stepR hR5 (by have := rdUint_b ⟨l, 0, 0⟩ 8; rw [HRD.out] at this; exact this) hF5, (hbw4.ext hS).fr (hF5.mono (fun k hk => hk.2))⟩; have hE5 := Ext.past (hEw.trans hS) hF5 hg'w)) | (go_at_call 17; go_loud (refine (rErr_calls w5 g A2 n2 c2 _ _ _ hSw.1.left).mono ?_; rintro e w6 ⟨rfl, rfl⟩)))
        refine nx_done rfl (fun _ => hSw) ?_
        try simp only [Act.put, List.setIfInBounds_toArray, List.set]
        apply run_read rfl
        · intro w1 hS
          go_wp2
          exact rv_done rfl rfl
        try simp only [Act.put, List.setIfInBounds_toArray, List.set]
        refine run_tail rfl ?_
        go_wp2
        go_ret
        exact ⟨rfl, hE5⟩
      · have hx2 : decide ((128 : Int) ≤ (x0.toNat : Int)) = false := by simp; omega
        refine wp_region_planG (Keeps (LargeS g g' (some ⟨b0, off0, none⟩) n c l A2 n2 c2 r4)) (.read 0 (.read 1 (.call 2 (.read 3 (.read 4 (.read 5 (.read 6 (.read 7 (.read 8 (.read 9 (.read 11 (.read 12 (.read 13 (.read 14 (.call 10 (.read 15 (.read 16 (.read 17 (.read 18 (.read 21 (.read 22 (.read 23 (.read 24 (.call 19 (.read 20 .tail) .none))))))))) .none)))))))))))) .none))) 25 (by kernel_rfl) (by kernel_rfl) (by kernel_rfl) (Keeps.refl _) Keeps.trans Ext (Ext.drew (Ext.refl _)) (fun w1 hS => ?_)
        apply run_read rfl
        · intro w1 hS
          go_wp2
          exact rv_done rfl rfl
        try simp only [Act.put, List.setIfInBounds_toArray, List.set]
        apply run_read rfl
        · intro w1 hS
          go_wp2
          exact rv_done rfl rfl
        try simp only [Act.put, List.setIfInBounds_toArray, List.set]
        refine run_call rfl ?_ run_none
        go_wp2_with (first | (go_at_call 16; go_loud (refine (sUint_calls w1 g' (some ⟨b0, off0, none⟩) n c l 0 0 8 ((hT4.ext hS).right)).mono ?_; rintro e w5 ⟨v5, r5, rfl, H5, hR5, hF5⟩; obtain ⟨rfl, rfl⟩ : v5 = v4 ∧ r5 = r4 := (by have := H5.out; rw [HRD.out] at this; exact this); have hSw : LargeS g g' (some ⟨b0, off0, none⟩) n c l A2 n2 c2 r5 w5 := ⟨(hT4.ext hS).stepR hR5 (by have := rdUint_b ⟨l, 0, 0⟩ 8; rw [HRD.out] at this; exact this) hF5, (hbw4.ext hS).fr (hF5.mono (fun k hk => hk.2))⟩; have hE5 := Ext.past (hEw.trans hS) hF5 hg'w)) | (go_at_call 17; go_loud (refine (rErr_calls w5 g A2 n2 c2 _ _ _ hSw.1.left).mono ?_; rintro e w6 ⟨rfl, rfl⟩)))
        refine nx_done rfl (fun _ => hSw) ?_
        try simp only [Act.put, List.setIfInBounds_toArray, List.set]
        apply run_read rfl
        · intro w1 hS
          go_wp2
          exact rv_done rfl rfl
        try simp only [Act.put, List.setIfInBounds_toArray, List.set]
        apply run_read rfl
        · intro w1 hS
          go_wp2
          exact rv_done rfl rfl
        try simp only [Act.put, List.setIfInBounds_toArray, List.set]
        apply run_read rfl
        · intro w1 hS
          go_wp2
          exact rv_done rfl rfl
        try simp only [Act.put, List.setIfInBounds_toArray, List.set]
        apply run_read rfl
        · intro w1 hS
          go_wp2
          exact rv_done rfl rfl
        try simp only [Act.put, List.setIfInBounds_toArray, List.set]
        apply run_read rfl
        · intro w1 hS
          go_wp2
          exact rv_done rfl rfl
        try simp only [Act.put, List.setIfInBounds_toArray, List.set]
        apply run_read rfl
        · intro w1 hS
          go_wp2
          exact rv_done rfl rfl
        try simp only [Act.put, List.setIfInBounds_toArray, List.set]
        apply run_read rfl
        · intro w1 hS
          go_wp2
          exact rv_done rfl rfl
        try simp only [Act.put, List.setIfInBounds_toArray, List.set]
        apply run_read rfl
        · intro w1 hS
          go_wp2
          exact rv_done rfl rfl
        try simp only [Act.put, List.setIfInBounds_toArray, List.set]
        apply run_read rfl
        · intro w1 hS
          go_wp2
          exact rv_done rfl rfl
        try simp only [Act.put, List.setIfInBounds_toArray, List.set]
        apply run_read rfl
        · intro w1 hS
          go_wp2
          exact rv_done rfl rfl
        try simp only [Act.put, List.setIfInBounds_toArray, List.set]
        apply run_read rfl
        · intro w1 hS
          have hK := hS hSw
          have hB3 := hK.1.b'
          obtain ⟨b1, off1, hb1, hl1, hcell⟩ := hK.2.at_ (show 0 < n by omega)
          injection hb1 with hb1; injection hb1 with hb1 hb2; subst hb1; subst hb2
          rw [Nat.add_zero, ← HX.out] at hcell
          go_wp2_with (first | ((with_reducible (show wpList _ _ _ (⟨_, Op.load _ _, _, _, _, _⟩ :: _) _ _)); refine wpList_ldC rfl _ _ rfl _ rfl _ (by refine Eq.trans (Blk.cell (Blk.ext (by assumption) (by (with_reducible repeat (first | exact Ext.refl _ | refine Ext.alloc ?_ _ | refine Ext.drewN ?_ _ | refine Ext.trans ?_ (by assumption))))) _) ?_; rfl) (by kernel_rfl) ?_) | ((with_reducible (show wpList _ _ _ (⟨_, Op.load _ _, _, _, _, _⟩ :: _) _ _)); refine wpList_ldB rfl _ _ rfl _ rfl (by refine Blk.ext (by assumption) ?_; (with_reducible repeat (first | exact Ext.refl _ | refine Ext.alloc ?_ _ | refine Ext.drewN ?_ _ | refine Ext.trans ?_ (by assumption)))) (by kernel_rfl) (by kernel_rfl) ?_))
          exact rv_done rfl rfl
        try simp only [Act.put, List.setIfInBounds_toArray, List.set]
        refine run_call rfl ?_ run_none
        go_wp2_with (first | (go_at_call 16; go_loud (refine (sUint_calls w1 g' (some ⟨b0, off0, none⟩) n c l 0 0 8 ((hT4.ext hS).right)).mono ?_; rintro e w5 ⟨v5, r5, rfl, H5, hR5, hF5⟩; obtain ⟨rfl, rfl⟩ : v5 = v4 ∧ r5 = r4 := (by have := H5.out; rw [HRD.out] at this; exact this); have hSw : LargeS g g' (some ⟨b0, off0, none⟩) n c l A2 n2 c2 r5 w5 := ⟨(hT4.ext hS).stepR hR5 (by have := rdUint_b ⟨l, 0, 0⟩ 8; rw [HRD.out] at this; exact this) hF5, (hbw4.ext hS).fr (hF5.mono (fun k hk => hk.2))⟩; have hE5 := Ext.past (hEw.trans hS) hF5 hg'w)) | (go_at_call 17; go_loud (refine (rErr_calls w5 g A2 n2 c2 _ _ _ hSw.1.left).mono ?_; rintro e w6 ⟨rfl, rfl⟩)))
        refine nx_done rfl (fun _ => hSw) ?_
        try simp only [Act.put, List.setIfInBounds_toArray, List.set]
        apply run_read rfl
        · intro w1 hS
          go_wp2
          exact rv_done rfl rfl
        try simp only [Act.put, List.setIfInBounds_toArray, List.set]
        apply run_read rfl
        · intro w1 hS
          go_wp2
          exact rv_done rfl rfl
        try simp only [Act.put, List.setIfInBounds_toArray, List.set]
        apply run_read rfl
        · intro w1 hS
          go_wp2
          exact rv_done rfl rfl
        try simp only [Act.put, List.setIfInBounds_toArray, List.set]
        apply run_read rfl
        · intro w1 hS
          go_wp2
          exact rv_done rfl rfl
        try simp only [Act.put, List.setIfInBounds_toArray, List.set]
        apply run_read rfl
        · intro w1 hS
          go_wp2
          exact rv_done rfl rfl
        try simp only [Act.put, List.setIfInBounds_toArray, List.set]
        apply run_read rfl
        · intro w1 hS
          go_wp2
          exact rv_done rfl rfl
        try simp only [Act.put, List.setIfInBounds_toArray, List.set]
        apply run_read rfl
        · intro w1 hS
          have hK := hS hSw
          have hB3 := hK.1.b'
          obtain ⟨b1, off1, hb1, hl1, hcell⟩ := hK.2.at_ (show 0 < n by omega)
          injection hb1 with hb1; injection hb1 with hb1 hb2; subst hb1; subst hb2
          rw [Nat.add_zero, ← HX.out] at hcell
          go_wp2_with (first | ((with_reducible (show wpList _ _ _ (⟨_, Op.load _ _, _, _, _, _⟩ :: _) _ _)); refine wpList_ldC rfl _ _ rfl _ rfl _ (by refine Eq.trans (Blk.cell (Blk.ext (by assumption) (by (with_reducible repeat (first | exact Ext.refl _ | refine Ext.alloc ?_ _ | refine Ext.drewN ?_ _ | refine Ext.trans ?_ (by assumption))))) _) ?_; rfl) (by kernel_rfl) ?_) | ((with_reducible (show wpList _ _ _ (⟨_, Op.load _ _, _, _, _, _⟩ :: _) _ _)); refine wpList_ldB rfl _ _ rfl _ rfl (by refine Blk.ext (by assumption) ?_; (with_reducible repeat (first | exact Ext.refl _ | refine Ext.alloc ?_ _ | refine Ext.drewN ?_ _ | refine Ext.trans ?_ (by assumption)))) (by kernel_rfl) (by kernel_rfl) ?_))
          exact rv_done rfl rfl
        try simp only [Act.put, List.setIfInBounds_toArray, List.set]
        apply run_read rfl
        · intro w1 hS
          go_wp2
          exact rv_done rfl rfl
        try simp only [Act.put, List.setIfInBounds_toArray, List.set]
        refine run_call rfl ?_ run_none
        go_wp2_with (first | (go_at_call 16; go_loud (refine (sUint_calls w1 g' (some ⟨b0, off0, none⟩) n c l 0 0 8 ((hT4.ext hS).right)).mono ?_; rintro e w5 ⟨v5, r5, rfl, H5, hR5, hF5⟩; obtain ⟨rfl, rfl⟩ : v5 = v4 ∧ r5 = r4 := (by have := H5.out; rw [HRD.out] at this; exact this); have hSw : LargeS g g' (some ⟨b0, off0, none⟩) n c l A2 n2 c2 r5 w5 := ⟨(hT4.ext hS).stepR hR5 (by have := rdUint_b ⟨l, 0, 0⟩ 8; rw [HRD.out] at this; exact this) hF5, (hbw4.ext hS).fr (hF5.mono (fun k hk => hk.2))⟩; have hE5 := Ext.past (hEw.trans hS) hF5 hg'w)) | (go_at_call 17; go_loud (refine (rErr_calls w5 g A2 n2 c2 _ _ _ hSw.1.left).mono ?_; rintro e w6 ⟨rfl, rfl⟩)))
        refine nx_done rfl (fun _ => hSw) ?_
        try simp only [Act.put, List.setIfInBounds_toArray, List.set]
        apply run_read rfl
        · intro w1 hS
          go_wp2
          exact rv_done rfl rfl
        try simp only [Act.put, List.setIfInBounds_toArray, List.set]
        refine run_tail rfl ?_
        go_wp2
        go_ret
        exact ⟨rfl, hE5⟩
end Go.Proofs.Ytbdiodibeiohlaa
