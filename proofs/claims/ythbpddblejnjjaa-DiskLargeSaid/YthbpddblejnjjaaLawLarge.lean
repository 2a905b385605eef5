/- DiskLarge: the walk. -/
import Derived.Test.YthbpddblejnjjaaLawWrite
import Derived.Test.YthbpddblejnjjaaLib4
namespace Go.Proofs.Ythbpddblejnjjaa
set_option linter.all false
open Go.RowKit
def largeD (n : Nat) : Dk := if 65536 < n then newS 1 else ⟨[List.replicate n 0], 1, 0, 0, false⟩
def largeE (n : Nat) : Int := if 65536 < n then 4 else 0
theorem large_put (n : Nat) : writeS (newS 1) 0 (List.replicate n 0) = largeD n ∧ appendS (newS 1) 0 (List.replicate n 0) = largeD n ∧ putE (newS 1) 0 n = largeE n := by
  have hc : cutsS (newS 1) = false := by decide
  unfold largeD largeE writeS appendS putS putE
  by_cases h : 65536 < n
  · simp [newS, h]
  · simp [newS, h, bringS, cutsS, write1S, append1S, List.replicate]
theorem BL.at0 {w : World} {P : Nat → Prop} {c : Nat} {A : Option Addr} {l : List UInt8} (h : BL w P A 1 c [l]) : ∃ b off A' n' c', A = some ⟨b, off, none⟩ ∧ w.cell? ⟨b, off, none⟩ = some (.slice A' n' c') ∧ n' = l.length := by
  obtain ⟨b, off, rfl, hl, A', n', c', hc, hb⟩ := h.at_ (show 0 < 1 by omega)
  exact ⟨b, off, A', n', c', rfl, hc, hb.len.symm⟩
set_option maxRecDepth 20000 in
set_option maxHeartbeats 2000000 in
theorem large_false (w : World) (n : Nat) (h1 : 65530 ≤ (n : Int)) (h2 : (n : Int) ≤ 65545) :
    Calls Try.prog 5 #[.int .i64 n, .bool false] w fun e w' => e = .returned (.bool true) ∧ Ext w w' := by
  have hlarge : (65536 < (n : Int) ∧ largeD n = newS 1 ∧ largeE n = 4) ∨ ((n : Int) ≤ 65536 ∧ largeD n = ⟨[List.replicate n 0], 1, 0, 0, false⟩ ∧ largeE n = 0) := by
    unfold largeD largeE
    by_cases h : 65536 < n
    · rw [if_pos h, if_pos h]; exact .inl ⟨by omega, rfl, rfl⟩
    · rw [if_neg h, if_neg h]; exact .inr ⟨by omega, rfl, rfl⟩
  go_enter Try.func5, Try.ntmps5
  go_upto_region 5 with (go_at_call 9; go_loud (refine (awake_calls w).mono ?_; rintro e w1 ⟨rfl, hE1⟩))
  refine wp_region_planG (fun _ _ => True) (.read 1 (.call false 0 (.call false 2 (.call true 3 (.read 4 (.read 5 (.read 6 (.call false 7 (.call false 8 .tail .none) .none)))) (.call false 7 (.call false 3 (.read 4 (.read 5 (.read 6 (.call false 8 .tail .none)))) .none) .none)) (.call false 7 (.call false 2 (.call false 3 (.read 4 (.read 5 (.read 6 (.call false 8 .tail .none)))) .none) .none) .none)) (.call true 2 (.call false 0 (.call true 3 (.read 4 (.read 5 (.read 6 (.call false 7 (.call false 8 .tail .none) .none)))) (.call false 7 (.call false 3 (.read 4 (.read 5 (.read 6 (.call false 8 .tail .none)))) .none) .none)) (.call false 7 (.call false 0 (.call false 3 (.read 4 (.read 5 (.read 6 (.call false 8 .tail .none)))) .none) .none) .none)) (.call false 7 (.call false 0 (.call false 2 (.call false 3 (.read 4 (.read 5 (.read 6 (.call false 8 .tail .none)))) .none) .none) (.call false 2 (.call false 0 (.call false 3 (.read 4 (.read 5 (.read 6 (.call false 8 .tail .none)))) .none) .none) .none)) .none)))) 9 (by kernel_rfl) (by kernel_rfl) (by kernel_rfl) (fun _ => trivial) (fun _ _ _ _ _ => trivial) Ext (Ext.drew (Ext.refl _)) (fun wR hR => ?_)
  apply run_read rfl
  · intro w1 hS
    go_wp2
    exact rv_done rfl rfl
  try simp only [Act.put, List.setIfInBounds_toArray, List.set]
  refine run_call1 rfl ?_ ?_
  · go_wp2_with (first | (go_at_call 22; go_loud ((first | refine (newP_calls' (fun k => k ≠ g5) _ (fun k hk e => (by have h1 := hk5.lt; have h2 := Nat.le_trans (Ext.size (show Ext w5 _ from (by with_reducible repeat (first | exact Ext.refl _ | refine Ext.alloc ?_ _ | refine Ext.drewN ?_ _ | refine Ext.trans ?_ (by assumption))))) hk; omega)) 1 1 rfl).mono ?_ | refine (newP_calls' (fun _ => True) _ (Anew.top _) 1 1 rfl).mono ?_); rintro e w2 ⟨A2, c2, d2, rfl, H2, hb2, hE2⟩)) | ((with_reducible (show wpList _ _ _ (⟨_, Op.makeSlice _ _ _, _, _, _, _⟩ :: _) _ _)); go_loud (refine wpList_mkB rfl _ _ _ rfl _ infoB Try.underlying22 _ _ n rfl rfl (by omega) ?_; intro g3 w3 hg3 hO3 hE3)) | (go_at_call 17; go_loud ((first | refine (write_calls (fun k => k ≠ g5) _ (fun k hk e => (by have h1 := hk5.lt; have h2 := Nat.le_trans (Ext.size (show Ext w5 _ from (by with_reducible repeat (first | exact Ext.refl _ | refine Ext.alloc ?_ _ | refine Ext.drewN ?_ _ | refine Ext.trans ?_ (by assumption))))) hk; omega)) A2 1 c2 d2 (by refine BL.ext (by assumption) ?_; (with_reducible repeat (first | exact Ext.refl _ | refine Ext.alloc ?_ _ | refine Ext.drewN ?_ _ | refine Ext.trans ?_ (by assumption)))) (by omega) _ n n (List.replicate n 0) (BV.ext (OB.bv (P := fun _ => True) hO3 (fun _ _ => trivial)) (by with_reducible repeat (first | exact Ext.refl _ | refine Ext.alloc ?_ _ | refine Ext.drewN ?_ _ | refine Ext.trans ?_ (by assumption)))) (by omega) 0 (by rw [H2.out]; decide) (by rw [H2.out]; decide) (by rw [H2.out]; decide)).mono ?_ | refine (write_calls (fun _ => True) _ (Anew.top _) A2 1 c2 d2 (by refine BL.ext (by assumption) ?_; (with_reducible repeat (first | exact Ext.refl _ | refine Ext.alloc ?_ _ | refine Ext.drewN ?_ _ | refine Ext.trans ?_ (by assumption)))) (by omega) _ n n (List.replicate n 0) (BV.ext (OB.bv (P := fun _ => True) hO3 (fun _ _ => trivial)) (by with_reducible repeat (first | exact Ext.refl _ | refine Ext.alloc ?_ _ | refine Ext.drewN ?_ _ | refine Ext.trans ?_ (by assumption)))) (by omega) 0 (by rw [H2.out]; decide) (by rw [H2.out]; decide) (by rw [H2.out]; decide)).mono ?_); rintro e w4 ⟨A4, c4, d4, e4, rfl, H4, hb4, hE4⟩; obtain ⟨rfl, rfl⟩ : d4 = largeD n ∧ e4 = largeE n := (by have := H4.out; rw [H2.out, (large_put n).1, (large_put n).2.2] at this; exact this))))
    refine nx_done rfl trivial ?_
    try simp only [Act.put, List.setIfInBounds_toArray, List.set]
    refine run_call1 rfl ?_ ?_
    · go_wp2_with (first | (go_at_call 22; go_loud ((first | refine (newP_calls' (fun k => k ≠ g5) _ (fun k hk e => (by have h1 := hk5.lt; have h2 := Nat.le_trans (Ext.size (show Ext w5 _ from (by with_reducible repeat (first | exact Ext.refl _ | refine Ext.alloc ?_ _ | refine Ext.drewN ?_ _ | refine Ext.trans ?_ (by assumption))))) hk; omega)) 1 1 rfl).mono ?_ | refine (newP_calls' (fun _ => True) _ (Anew.top _) 1 1 rfl).mono ?_); rintro e w2 ⟨A2, c2, d2, rfl, H2, hb2, hE2⟩)) | ((with_reducible (show wpList _ _ _ (⟨_, Op.makeSlice _ _ _, _, _, _, _⟩ :: _) _ _)); go_loud (refine wpList_mkB rfl _ _ _ rfl _ infoB Try.underlying22 _ _ n rfl rfl (by omega) ?_; intro g3 w3 hg3 hO3 hE3)) | (go_at_call 17; go_loud ((first | refine (write_calls (fun k => k ≠ g5) _ (fun k hk e => (by have h1 := hk5.lt; have h2 := Nat.le_trans (Ext.size (show Ext w5 _ from (by with_reducible repeat (first | exact Ext.refl _ | refine Ext.alloc ?_ _ | refine Ext.drewN ?_ _ | refine Ext.trans ?_ (by assumption))))) hk; omega)) A2 1 c2 d2 (by refine BL.ext (by assumption) ?_; (with_reducible repeat (first | exact Ext.refl _ | refine Ext.alloc ?_ _ | refine Ext.drewN ?_ _ | refine Ext.trans ?_ (by assumption)))) (by omega) _ n n (List.replicate n 0) (BV.ext (OB.bv (P := fun _ => True) hO3 (fun _ _ => trivial)) (by with_reducible repeat (first | exact Ext.refl _ | refine Ext.alloc ?_ _ | refine Ext.drewN ?_ _ | refine Ext.trans ?_ (by assumption)))) (by omega) 0 (by rw [H2.out]; decide) (by rw [H2.out]; decide) (by rw [H2.out]; decide)).mono ?_ | refine (write_calls (fun _ => True) _ (Anew.top _) A2 1 c2 d2 (by refine BL.ext (by assumption) ?_; (with_reducible repeat (first | exact Ext.refl _ | refine Ext.alloc ?_ _ | refine Ext.drewN ?_ _ | refine Ext.trans ?_ (by assumption)))) (by omega) _ n n (List.replicate n 0) (BV.ext (OB.bv (P := fun _ => True) hO3 (fun _ _ => trivial)) (by with_reducible repeat (first | exact Ext.refl _ | refine Ext.alloc ?_ _ | refine Ext.drewN ?_ _ | refine Ext.trans ?_ (by assumption)))) (by omega) 0 (by rw [H2.out]; decide) (by rw [H2.out]; decide) (by rw [H2.out]; decide)).mono ?_); rintro e w4 ⟨A4, c4, d4, e4, rfl, H4, hb4, hE4⟩; obtain ⟨rfl, rfl⟩ : d4 = largeD n ∧ e4 = largeE n := (by have := H4.out; rw [H2.out, (large_put n).1, (large_put n).2.2] at this; exact this))))
      refine nx_done rfl trivial ?_
      try simp only [Act.put, List.setIfInBounds_toArray, List.set]
      refine run_free rfl ?_ ?_
      · go_wp2_with (first | (go_at_call 22; go_loud ((first | refine (newP_calls' (fun k => k ≠ g5) _ (fun k hk e => (by have h1 := hk5.lt; have h2 := Nat.le_trans (Ext.size (show Ext w5 _ from (by with_reducible repeat (first | exact Ext.refl _ | refine Ext.alloc ?_ _ | refine Ext.drewN ?_ _ | refine Ext.trans ?_ (by assumption))))) hk; omega)) 1 1 rfl).mono ?_ | refine (newP_calls' (fun _ => True) _ (Anew.top _) 1 1 rfl).mono ?_); rintro e w2 ⟨A2, c2, d2, rfl, H2, hb2, hE2⟩)) | ((with_reducible (show wpList _ _ _ (⟨_, Op.makeSlice _ _ _, _, _, _, _⟩ :: _) _ _)); go_loud (refine wpList_mkB rfl _ _ _ rfl _ infoB Try.underlying22 _ _ n rfl rfl (by omega) ?_; intro g3 w3 hg3 hO3 hE3)) | (go_at_call 17; go_loud ((first | refine (write_calls (fun k => k ≠ g5) _ (fun k hk e => (by have h1 := hk5.lt; have h2 := Nat.le_trans (Ext.size (show Ext w5 _ from (by with_reducible repeat (first | exact Ext.refl _ | refine Ext.alloc ?_ _ | refine Ext.drewN ?_ _ | refine Ext.trans ?_ (by assumption))))) hk; omega)) A2 1 c2 d2 (by refine BL.ext (by assumption) ?_; (with_reducible repeat (first | exact Ext.refl _ | refine Ext.alloc ?_ _ | refine Ext.drewN ?_ _ | refine Ext.trans ?_ (by assumption)))) (by omega) _ n n (List.replicate n 0) (BV.ext (OB.bv (P := fun _ => True) hO3 (fun _ _ => trivial)) (by with_reducible repeat (first | exact Ext.refl _ | refine Ext.alloc ?_ _ | refine Ext.drewN ?_ _ | refine Ext.trans ?_ (by assumption)))) (by omega) 0 (by rw [H2.out]; decide) (by rw [H2.out]; decide) (by rw [H2.out]; decide)).mono ?_ | refine (write_calls (fun _ => True) _ (Anew.top _) A2 1 c2 d2 (by refine BL.ext (by assumption) ?_; (with_reducible repeat (first | exact Ext.refl _ | refine Ext.alloc ?_ _ | refine Ext.drewN ?_ _ | refine Ext.trans ?_ (by assumption)))) (by omega) _ n n (List.replicate n 0) (BV.ext (OB.bv (P := fun _ => True) hO3 (fun _ _ => trivial)) (by with_reducible repeat (first | exact Ext.refl _ | refine Ext.alloc ?_ _ | refine Ext.drewN ?_ _ | refine Ext.trans ?_ (by assumption)))) (by omega) 0 (by rw [H2.out]; decide) (by rw [H2.out]; decide) (by rw [H2.out]; decide)).mono ?_); rintro e w4 ⟨A4, c4, d4, e4, rfl, H4, hb4, hE4⟩; obtain ⟨rfl, rfl⟩ : d4 = largeD n ∧ e4 = largeE n := (by have := H4.out; rw [H2.out, (large_put n).1, (large_put n).2.2] at this; exact this))))
        refine nx_done rfl trivial ?_
        try simp only [Act.put, List.setIfInBounds_toArray, List.set]
        apply run_read rfl
        · intro w1 hS
          go_wp2
          exact rv_done rfl rfl
        try simp only [Act.put, List.setIfInBounds_toArray, List.set]
        apply run_read rfl
        · intro w1 hS
          go_wp2
          exact rv_done rfl rfl
        try simp only [Act.put, List.setIfInBounds_toArray, List.set]
        apply run_read rfl
        · intro w1 hS
          go_wp2
          exact rv_done rfl rfl
        try simp only [Act.put, List.setIfInBounds_toArray, List.set]
        refine run_call1 rfl ?_ run_none
        ((with_reducible (show wpList _ _ _ (⟨_, Op.alloc _, _, _, _, _⟩ :: _) _ _)); go_loud (refine wpList_alB (.agg #[.slice none 0 0, .int .i64 0, .int .i64 0, .int .i64 0, .bool false]) rfl _ rfl (by kernel_rfl) rfl ?_; intro g5 w5 hg5 hk5 hE5))
        refine wpList_nil ?_
        refine nx_done rfl trivial ?_
        try simp only [Act.put, List.setIfInBounds_toArray, List.set]
        try replace hb2 := BL.off hb2 (g := g5) (Nat.le_trans (Ext.size (by with_reducible repeat (first | exact Ext.refl _ | refine Ext.alloc ?_ _ | refine Ext.drewN ?_ _ | refine Ext.trans ?_ (by assumption)))) hg5)
        try replace hb4 := BL.off hb4 (g := g5) (Nat.le_trans (Ext.size (by with_reducible repeat (first | exact Ext.refl _ | refine Ext.alloc ?_ _ | refine Ext.drewN ?_ _ | refine Ext.trans ?_ (by assumption)))) hg5)
        refine run_call1 rfl ?_ run_none
        ((with_reducible (show wpList _ _ _ (⟨_, Op.store _ _ _, _, _, _, _⟩ :: _) _ _)); go_loud (refine wpList_stB rfl _ _ _ rfl _ rfl rfl (by refine Blk.ext (by assumption) ?_; (with_reducible repeat (first | exact Ext.refl _ | refine Ext.alloc ?_ _ | refine Ext.drewN ?_ _ | refine Ext.trans ?_ (by assumption)))) (by kernel_rfl) (by rfl) (by simp [Value.oneCell']) ?_; intro w6 hk6 hF6))
        refine wpList_nil ?_
        refine nx_done rfl trivial ?_
        try simp only [Act.put, List.setIfInBounds_toArray, List.set]
        refine run_tail rfl ?_
        refine wpList_forget (fun w7 => Blk w7 g5 27 #[.slice A4 1 c4, .int .i64 (largeD n).wr, .int .i64 (largeD n).ct, .int .i64 (largeD n).tn, .bool (largeD n).off] ∧ BL w7 (fun k => k ≠ g5) A4 1 c4 (largeD n).areas ∧ Ext w w7 ∧ w.heap.size ≤ g5) ⟨hk6, BL.fr (BL.ext hb4 (by with_reducible repeat (first | exact Ext.refl _ | refine Ext.alloc ?_ _ | refine Ext.drewN ?_ _ | refine Ext.trans ?_ (by assumption)))) hF6, Ext.over (by with_reducible repeat (first | exact Ext.refl _ | refine Ext.alloc ?_ _ | refine Ext.drewN ?_ _ | refine Ext.trans ?_ (by assumption))) hF6 (Nat.le_trans (Ext.size (by with_reducible repeat (first | exact Ext.refl _ | refine Ext.alloc ?_ _ | refine Ext.drewN ?_ _ | refine Ext.trans ?_ (by assumption)))) hg5), Nat.le_trans (Ext.size (by with_reducible repeat (first | exact Ext.refl _ | refine Ext.alloc ?_ _ | refine Ext.drewN ?_ _ | refine Ext.trans ?_ (by assumption)))) hg5⟩ ?_
        clear hk6 hF6 hb4 hb2 hE1 hE2 hE3 hE4 hE5 hk5 hO3 hg5 H2 H4
        rintro w7 ⟨hkF, hbF, hEF, hgF⟩
        rcases hlarge with ⟨hbig, hD, hEr⟩ | ⟨hbig, hD, hEr⟩
        · rw [hD] at hkF hbF
          simp only [hEr]
          obtain ⟨bb, ob, A', n', c', rfl, hcell, hn'⟩ := BL.at0 (l := []) hbF
          simp only [List.length_nil] at hn'
          subst hn'
          obtain ⟨q0, q1, q2, q3, q4⟩ := hkF.c5
          simp only [newS] at q1
          clear hbF hkF hD hEr
          go_wp2
          go_ret
          exact ⟨rfl, hEF⟩
        · rw [hD] at hkF hbF
          simp only [hEr]
          obtain ⟨bb, ob, A', n', c', rfl, hcell, hn'⟩ := BL.at0 (l := List.replicate n 0) hbF
          simp only [List.length_replicate] at hn'
          subst hn'
          obtain ⟨q0, q1, q2, q3, q4⟩ := hkF.c5
          clear hbF hkF hD hEr
          go_wp2
          go_ret
          exact ⟨rfl, hEF⟩
      refine run_call1 rfl ?_ run_none
      ((with_reducible (show wpList _ _ _ (⟨_, Op.alloc _, _, _, _, _⟩ :: _) _ _)); go_loud (refine wpList_alB (.agg #[.slice none 0 0, .int .i64 0, .int .i64 0, .int .i64 0, .bool false]) rfl _ rfl (by kernel_rfl) rfl ?_; intro g5 w5 hg5 hk5 hE5))
      refine wpList_nil ?_
      refine nx_done rfl trivial ?_
      try simp only [Act.put, List.setIfInBounds_toArray, List.set]
      try replace hb2 := BL.off hb2 (g := g5) (Nat.le_trans (Ext.size (by with_reducible repeat (first | exact Ext.refl _ | refine Ext.alloc ?_ _ | refine Ext.drewN ?_ _ | refine Ext.trans ?_ (by assumption)))) hg5)
      try replace hb4 := BL.off hb4 (g := g5) (Nat.le_trans (Ext.size (by with_reducible repeat (first | exact Ext.refl _ | refine Ext.alloc ?_ _ | refine Ext.drewN ?_ _ | refine Ext.trans ?_ (by assumption)))) hg5)
      refine run_call1 rfl ?_ run_none
      go_wp2_with (first | (go_at_call 22; go_loud ((first | refine (newP_calls' (fun k => k ≠ g5) _ (fun k hk e => (by have h1 := hk5.lt; have h2 := Nat.le_trans (Ext.size (show Ext w5 _ from (by with_reducible repeat (first | exact Ext.refl _ | refine Ext.alloc ?_ _ | refine Ext.drewN ?_ _ | refine Ext.trans ?_ (by assumption))))) hk; omega)) 1 1 rfl).mono ?_ | refine (newP_calls' (fun _ => True) _ (Anew.top _) 1 1 rfl).mono ?_); rintro e w2 ⟨A2, c2, d2, rfl, H2, hb2, hE2⟩)) | ((with_reducible (show wpList _ _ _ (⟨_, Op.makeSlice _ _ _, _, _, _, _⟩ :: _) _ _)); go_loud (refine wpList_mkB rfl _ _ _ rfl _ infoB Try.underlying22 _ _ n rfl rfl (by omega) ?_; intro g3 w3 hg3 hO3 hE3)) | (go_at_call 17; go_loud ((first | refine (write_calls (fun k => k ≠ g5) _ (fun k hk e => (by have h1 := hk5.lt; have h2 := Nat.le_trans (Ext.size (show Ext w5 _ from (by with_reducible repeat (first | exact Ext.refl _ | refine Ext.alloc ?_ _ | refine Ext.drewN ?_ _ | refine Ext.trans ?_ (by assumption))))) hk; omega)) A2 1 c2 d2 (by refine BL.ext (by assumption) ?_; (with_reducible repeat (first | exact Ext.refl _ | refine Ext.alloc ?_ _ | refine Ext.drewN ?_ _ | refine Ext.trans ?_ (by assumption)))) (by omega) _ n n (List.replicate n 0) (BV.ext (OB.bv (P := fun _ => True) hO3 (fun _ _ => trivial)) (by with_reducible repeat (first | exact Ext.refl _ | refine Ext.alloc ?_ _ | refine Ext.drewN ?_ _ | refine Ext.trans ?_ (by assumption)))) (by omega) 0 (by rw [H2.out]; decide) (by rw [H2.out]; decide) (by rw [H2.out]; decide)).mono ?_ | refine (write_calls (fun _ => True) _ (Anew.top _) A2 1 c2 d2 (by refine BL.ext (by assumption) ?_; (with_reducible repeat (first | exact Ext.refl _ | refine Ext.alloc ?_ _ | refine Ext.drewN ?_ _ | refine Ext.trans ?_ (by assumption)))) (by omega) _ n n (List.replicate n 0) (BV.ext (OB.bv (P := fun _ => True) hO3 (fun _ _ => trivial)) (by with_reducible repeat (first | exact Ext.refl _ | refine Ext.alloc ?_ _ | refine Ext.drewN ?_ _ | refine Ext.trans ?_ (by assumption)))) (by omega) 0 (by rw [H2.out]; decide) (by rw [H2.out]; decide) (by rw [H2.out]; decide)).mono ?_); rintro e w4 ⟨A4, c4, d4, e4, rfl, H4, hb4, hE4⟩; obtain ⟨rfl, rfl⟩ : d4 = largeD n ∧ e4 = largeE n := (by have := H4.out; rw [H2.out, (large_put n).1, (large_put n).2.2] at this; exact this))))
      refine nx_done rfl trivial ?_
      try simp only [Act.put, List.setIfInBounds_toArray, List.set]
      apply run_read rfl
      · intro w1 hS
        go_wp2
        exact rv_done rfl rfl
      try simp only [Act.put, List.setIfInBounds_toArray, List.set]
      apply run_read rfl
      · intro w1 hS
        go_wp2
        exact rv_done rfl rfl
      try simp only [Act.put, List.setIfInBounds_toArray, List.set]
      apply run_read rfl
      · intro w1 hS
        go_wp2
        exact rv_done rfl rfl
      try simp only [Act.put, List.setIfInBounds_toArray, List.set]
      refine run_call1 rfl ?_ run_none
      ((with_reducible (show wpList _ _ _ (⟨_, Op.store _ _ _, _, _, _, _⟩ :: _) _ _)); go_loud (refine wpList_stB rfl _ _ _ rfl _ rfl rfl (by refine Blk.ext (by assumption) ?_; (with_reducible repeat (first | exact Ext.refl _ | refine Ext.alloc ?_ _ | refine Ext.drewN ?_ _ | refine Ext.trans ?_ (by assumption)))) (by kernel_rfl) (by rfl) (by simp [Value.oneCell']) ?_; intro w6 hk6 hF6))
      refine wpList_nil ?_
      refine nx_done rfl trivial ?_
      try simp only [Act.put, List.setIfInBounds_toArray, List.set]
      refine run_tail rfl ?_
      refine wpList_forget (fun w7 => Blk w7 g5 27 #[.slice A4 1 c4, .int .i64 (largeD n).wr, .int .i64 (largeD n).ct, .int .i64 (largeD n).tn, .bool (largeD n).off] ∧ BL w7 (fun k => k ≠ g5) A4 1 c4 (largeD n).areas ∧ Ext w w7 ∧ w.heap.size ≤ g5) ⟨hk6, BL.fr (BL.ext hb4 (by with_reducible repeat (first | exact Ext.refl _ | refine Ext.alloc ?_ _ | refine Ext.drewN ?_ _ | refine Ext.trans ?_ (by assumption)))) hF6, Ext.over (by with_reducible repeat (first | exact Ext.refl _ | refine Ext.alloc ?_ _ | refine Ext.drewN ?_ _ | refine Ext.trans ?_ (by assumption))) hF6 (Nat.le_trans (Ext.size (by with_reducible repeat (first | exact Ext.refl _ | refine Ext.alloc ?_ _ | refine Ext.drewN ?_ _ | refine Ext.trans ?_ (by assumption)))) hg5), Nat.le_trans (Ext.size (by with_reducible repeat (first | exact Ext.refl _ | refine Ext.alloc ?_ _ | refine Ext.drewN ?_ _ | refine Ext.trans ?_ (by assumption)))) hg5⟩ ?_
      clear hk6 hF6 hb4 hb2 hE1 hE2 hE3 hE4 hE5 hk5 hO3 hg5 H2 H4
      rintro w7 ⟨hkF, hbF, hEF, hgF⟩
      rcases hlarge with ⟨hbig, hD, hEr⟩ | ⟨hbig, hD, hEr⟩
      · rw [hD] at hkF hbF
        simp only [hEr]
        obtain ⟨bb, ob, A', n', c', rfl, hcell, hn'⟩ := BL.at0 (l := []) hbF
        simp only [List.length_nil] at hn'
        subst hn'
        obtain ⟨q0, q1, q2, q3, q4⟩ := hkF.c5
        simp only [newS] at q1
        clear hbF hkF hD hEr
        go_wp2
        go_ret
        exact ⟨rfl, hEF⟩
      · rw [hD] at hkF hbF
        simp only [hEr]
        obtain ⟨bb, ob, A', n', c', rfl, hcell, hn'⟩ := BL.at0 (l := List.replicate n 0) hbF
        simp only [List.length_replicate] at hn'
        subst hn'
        obtain ⟨q0, q1, q2, q3, q4⟩ := hkF.c5
        clear hbF hkF hD hEr
        go_wp2
        go_ret
        exact ⟨rfl, hEF⟩
    refine run_call1 rfl ?_ run_none
    ((with_reducible (show wpList _ _ _ (⟨_, Op.alloc _, _, _, _, _⟩ :: _) _ _)); go_loud (refine wpList_alB (.agg #[.slice none 0 0, .int .i64 0, .int .i64 0, .int .i64 0, .bool false]) rfl _ rfl (by kernel_rfl) rfl ?_; intro g5 w5 hg5 hk5 hE5))
    refine wpList_nil ?_
    refine nx_done rfl trivial ?_
    try simp only [Act.put, List.setIfInBounds_toArray, List.set]
    try replace hb2 := BL.off hb2 (g := g5) (Nat.le_trans (Ext.size (by with_reducible repeat (first | exact Ext.refl _ | refine Ext.alloc ?_ _ | refine Ext.drewN ?_ _ | refine Ext.trans ?_ (by assumption)))) hg5)
    try replace hb4 := BL.off hb4 (g := g5) (Nat.le_trans (Ext.size (by with_reducible repeat (first | exact Ext.refl _ | refine Ext.alloc ?_ _ | refine Ext.drewN ?_ _ | refine Ext.trans ?_ (by assumption)))) hg5)
    refine run_call1 rfl ?_ run_none
    go_wp2_with (first | (go_at_call 22; go_loud ((first | refine (newP_calls' (fun k => k ≠ g5) _ (fun k hk e => (by have h1 := hk5.lt; have h2 := Nat.le_trans (Ext.size (show Ext w5 _ from (by with_reducible repeat (first | exact Ext.refl _ | refine Ext.alloc ?_ _ | refine Ext.drewN ?_ _ | refine Ext.trans ?_ (by assumption))))) hk; omega)) 1 1 rfl).mono ?_ | refine (newP_calls' (fun _ => True) _ (Anew.top _) 1 1 rfl).mono ?_); rintro e w2 ⟨A2, c2, d2, rfl, H2, hb2, hE2⟩)) | ((with_reducible (show wpList _ _ _ (⟨_, Op.makeSlice _ _ _, _, _, _, _⟩ :: _) _ _)); go_loud (refine wpList_mkB rfl _ _ _ rfl _ infoB Try.underlying22 _ _ n rfl rfl (by omega) ?_; intro g3 w3 hg3 hO3 hE3)) | (go_at_call 17; go_loud ((first | refine (write_calls (fun k => k ≠ g5) _ (fun k hk e => (by have h1 := hk5.lt; have h2 := Nat.le_trans (Ext.size (show Ext w5 _ from (by with_reducible repeat (first | exact Ext.refl _ | refine Ext.alloc ?_ _ | refine Ext.drewN ?_ _ | refine Ext.trans ?_ (by assumption))))) hk; omega)) A2 1 c2 d2 (by refine BL.ext (by assumption) ?_; (with_reducible repeat (first | exact Ext.refl _ | refine Ext.alloc ?_ _ | refine Ext.drewN ?_ _ | refine Ext.trans ?_ (by assumption)))) (by omega) _ n n (List.replicate n 0) (BV.ext (OB.bv (P := fun _ => True) hO3 (fun _ _ => trivial)) (by with_reducible repeat (first | exact Ext.refl _ | refine Ext.alloc ?_ _ | refine Ext.drewN ?_ _ | refine Ext.trans ?_ (by assumption)))) (by omega) 0 (by rw [H2.out]; decide) (by rw [H2.out]; decide) (by rw [H2.out]; decide)).mono ?_ | refine (write_calls (fun _ => True) _ (Anew.top _) A2 1 c2 d2 (by refine BL.ext (by assumption) ?_; (with_reducible repeat (first | exact Ext.refl _ | refine Ext.alloc ?_ _ | refine Ext.drewN ?_ _ | refine Ext.trans ?_ (by assumption)))) (by omega) _ n n (List.replicate n 0) (BV.ext (OB.bv (P := fun _ => True) hO3 (fun _ _ => trivial)) (by with_reducible repeat (first | exact Ext.refl _ | refine Ext.alloc ?_ _ | refine Ext.drewN ?_ _ | refine Ext.trans ?_ (by assumption)))) (by omega) 0 (by rw [H2.out]; decide) (by rw [H2.out]; decide) (by rw [H2.out]; decide)).mono ?_); rintro e w4 ⟨A4, c4, d4, e4, rfl, H4, hb4, hE4⟩; obtain ⟨rfl, rfl⟩ : d4 = largeD n ∧ e4 = largeE n := (by have := H4.out; rw [H2.out, (large_put n).1, (large_put n).2.2] at this; exact this))))
    refine nx_done rfl trivial ?_
    try simp only [Act.put, List.setIfInBounds_toArray, List.set]
    refine run_call1 rfl ?_ run_none
    go_wp2_with (first | (go_at_call 22; go_loud ((first | refine (newP_calls' (fun k => k ≠ g5) _ (fun k hk e => (by have h1 := hk5.lt; have h2 := Nat.le_trans (Ext.size (show Ext w5 _ from (by with_reducible repeat (first | exact Ext.refl _ | refine Ext.alloc ?_ _ | refine Ext.drewN ?_ _ | refine Ext.trans ?_ (by assumption))))) hk; omega)) 1 1 rfl).mono ?_ | refine (newP_calls' (fun _ => True) _ (Anew.top _) 1 1 rfl).mono ?_); rintro e w2 ⟨A2, c2, d2, rfl, H2, hb2, hE2⟩)) | ((with_reducible (show wpList _ _ _ (⟨_, Op.makeSlice _ _ _, _, _, _, _⟩ :: _) _ _)); go_loud (refine wpList_mkB rfl _ _ _ rfl _ infoB Try.underlying22 _ _ n rfl rfl (by omega) ?_; intro g3 w3 hg3 hO3 hE3)) | (go_at_call 17; go_loud ((first | refine (write_calls (fun k => k ≠ g5) _ (fun k hk e => (by have h1 := hk5.lt; have h2 := Nat.le_trans (Ext.size (show Ext w5 _ from (by with_reducible repeat (first | exact Ext.refl _ | refine Ext.alloc ?_ _ | refine Ext.drewN ?_ _ | refine Ext.trans ?_ (by assumption))))) hk; omega)) A2 1 c2 d2 (by refine BL.ext (by assumption) ?_; (with_reducible repeat (first | exact Ext.refl _ | refine Ext.alloc ?_ _ | refine Ext.drewN ?_ _ | refine Ext.trans ?_ (by assumption)))) (by omega) _ n n (List.replicate n 0) (BV.ext (OB.bv (P := fun _ => True) hO3 (fun _ _ => trivial)) (by with_reducible repeat (first | exact Ext.refl _ | refine Ext.alloc ?_ _ | refine Ext.drewN ?_ _ | refine Ext.trans ?_ (by assumption)))) (by omega) 0 (by rw [H2.out]; decide) (by rw [H2.out]; decide) (by rw [H2.out]; decide)).mono ?_ | refine (write_calls (fun _ => True) _ (Anew.top _) A2 1 c2 d2 (by refine BL.ext (by assumption) ?_; (with_reducible repeat (first | exact Ext.refl _ | refine Ext.alloc ?_ _ | refine Ext.drewN ?_ _ | refine Ext.trans ?_ (by assumption)))) (by omega) _ n n (List.replicate n 0) (BV.ext (OB.bv (P := fun _ => True) hO3 (fun _ _ => trivial)) (by with_reducible repeat (first | exact Ext.refl _ | refine Ext.alloc ?_ _ | refine Ext.drewN ?_ _ | refine Ext.trans ?_ (by assumption)))) (by omega) 0 (by rw [H2.out]; decide) (by rw [H2.out]; decide) (by rw [H2.out]; decide)).mono ?_); rintro e w4 ⟨A4, c4, d4, e4, rfl, H4, hb4, hE4⟩; obtain ⟨rfl, rfl⟩ : d4 = largeD n ∧ e4 = largeE n := (by have := H4.out; rw [H2.out, (large_put n).1, (large_put n).2.2] at this; exact this))))
    refine nx_done rfl trivial ?_
    try simp only [Act.put, List.setIfInBounds_toArray, List.set]
    apply run_read rfl
    · intro w1 hS
      go_wp2
      exact rv_done rfl rfl
    try simp only [Act.put, List.setIfInBounds_toArray, List.set]
    apply run_read rfl
    · intro w1 hS
      go_wp2
      exact rv_done rfl rfl
    try simp only [Act.put, List.setIfInBounds_toArray, List.set]
    apply run_read rfl
    · intro w1 hS
      go_wp2
      exact rv_done rfl rfl
    try simp only [Act.put, List.setIfInBounds_toArray, List.set]
    refine run_call1 rfl ?_ run_none
    ((with_reducible (show wpList _ _ _ (⟨_, Op.store _ _ _, _, _, _, _⟩ :: _) _ _)); go_loud (refine wpList_stB rfl _ _ _ rfl _ rfl rfl (by refine Blk.ext (by assumption) ?_; (with_reducible repeat (first | exact Ext.refl _ | refine Ext.alloc ?_ _ | refine Ext.drewN ?_ _ | refine Ext.trans ?_ (by assumption)))) (by kernel_rfl) (by rfl) (by simp [Value.oneCell']) ?_; intro w6 hk6 hF6))
    refine wpList_nil ?_
    refine nx_done rfl trivial ?_
    try simp only [Act.put, List.setIfInBounds_toArray, List.set]
    refine run_tail rfl ?_
    refine wpList_forget (fun w7 => Blk w7 g5 27 #[.slice A4 1 c4, .int .i64 (largeD n).wr, .int .i64 (largeD n).ct, .int .i64 (largeD n).tn, .bool (largeD n).off] ∧ BL w7 (fun k => k ≠ g5) A4 1 c4 (largeD n).areas ∧ Ext w w7 ∧ w.heap.size ≤ g5) ⟨hk6, BL.fr (BL.ext hb4 (by with_reducible repeat (first | exact Ext.refl _ | refine Ext.alloc ?_ _ | refine Ext.drewN ?_ _ | refine Ext.trans ?_ (by assumption)))) hF6, Ext.over (by with_reducible repeat (first | exact Ext.refl _ | refine Ext.alloc ?_ _ | refine Ext.drewN ?_ _ | refine Ext.trans ?_ (by assumption))) hF6 (Nat.le_trans (Ext.size (by with_reducible repeat (first | exact Ext.refl _ | refine Ext.alloc ?_ _ | refine Ext.drewN ?_ _ | refine Ext.trans ?_ (by assumption)))) hg5), Nat.le_trans (Ext.size (by with_reducible repeat (first | exact Ext.refl _ | refine Ext.alloc ?_ _ | refine Ext.drewN ?_ _ | refine Ext.trans ?_ (by assumption)))) hg5⟩ ?_
    clear hk6 hF6 hb4 hb2 hE1 hE2 hE3 hE4 hE5 hk5 hO3 hg5 H2 H4
    rintro w7 ⟨hkF, hbF, hEF, hgF⟩
    rcases hlarge with ⟨hbig, hD, hEr⟩ | ⟨hbig, hD, hEr⟩
    · rw [hD] at hkF hbF
      simp only [hEr]
      obtain ⟨bb, ob, A', n', c', rfl, hcell, hn'⟩ := BL.at0 (l := []) hbF
      simp only [List.length_nil] at hn'
      subst hn'
      obtain ⟨q0, q1, q2, q3, q4⟩ := hkF.c5
      simp only [newS] at q1
      clear hbF hkF hD hEr
      go_wp2
      go_ret
      exact ⟨rfl, hEF⟩
    · rw [hD] at hkF hbF
      simp only [hEr]
      obtain ⟨bb, ob, A', n', c', rfl, hcell, hn'⟩ := BL.at0 (l := List.replicate n 0) hbF
      simp only [List.length_replicate] at hn'
      subst hn'
      obtain ⟨q0, q1, q2, q3, q4⟩ := hkF.c5
      clear hbF hkF hD hEr
      go_wp2
      go_ret
      exact ⟨rfl, hEF⟩
  refine run_free rfl ?_ ?_
  · go_wp2_with (first | (go_at_call 22; go_loud ((first | refine (newP_calls' (fun k => k ≠ g5) _ (fun k hk e => (by have h1 := hk5.lt; have h2 := Nat.le_trans (Ext.size (show Ext w5 _ from (by with_reducible repeat (first | exact Ext.refl _ | refine Ext.alloc ?_ _ | refine Ext.drewN ?_ _ | refine Ext.trans ?_ (by assumption))))) hk; omega)) 1 1 rfl).mono ?_ | refine (newP_calls' (fun _ => True) _ (Anew.top _) 1 1 rfl).mono ?_); rintro e w2 ⟨A2, c2, d2, rfl, H2, hb2, hE2⟩)) | ((with_reducible (show wpList _ _ _ (⟨_, Op.makeSlice _ _ _, _, _, _, _⟩ :: _) _ _)); go_loud (refine wpList_mkB rfl _ _ _ rfl _ infoB Try.underlying22 _ _ n rfl rfl (by omega) ?_; intro g3 w3 hg3 hO3 hE3)) | (go_at_call 17; go_loud ((first | refine (write_calls (fun k => k ≠ g5) _ (fun k hk e => (by have h1 := hk5.lt; have h2 := Nat.le_trans (Ext.size (show Ext w5 _ from (by with_reducible repeat (first | exact Ext.refl _ | refine Ext.alloc ?_ _ | refine Ext.drewN ?_ _ | refine Ext.trans ?_ (by assumption))))) hk; omega)) A2 1 c2 d2 (by refine BL.ext (by assumption) ?_; (with_reducible repeat (first | exact Ext.refl _ | refine Ext.alloc ?_ _ | refine Ext.drewN ?_ _ | refine Ext.trans ?_ (by assumption)))) (by omega) _ n n (List.replicate n 0) (BV.ext (OB.bv (P := fun _ => True) hO3 (fun _ _ => trivial)) (by with_reducible repeat (first | exact Ext.refl _ | refine Ext.alloc ?_ _ | refine Ext.drewN ?_ _ | refine Ext.trans ?_ (by assumption)))) (by omega) 0 (by rw [H2.out]; decide) (by rw [H2.out]; decide) (by rw [H2.out]; decide)).mono ?_ | refine (write_calls (fun _ => True) _ (Anew.top _) A2 1 c2 d2 (by refine BL.ext (by assumption) ?_; (with_reducible repeat (first | exact Ext.refl _ | refine Ext.alloc ?_ _ | refine Ext.drewN ?_ _ | refine Ext.trans ?_ (by assumption)))) (by omega) _ n n (List.replicate n 0) (BV.ext (OB.bv (P := fun _ => True) hO3 (fun _ _ => trivial)) (by with_reducible repeat (first | exact Ext.refl _ | refine Ext.alloc ?_ _ | refine Ext.drewN ?_ _ | refine Ext.trans ?_ (by assumption)))) (by omega) 0 (by rw [H2.out]; decide) (by rw [H2.out]; decide) (by rw [H2.out]; decide)).mono ?_); rintro e w4 ⟨A4, c4, d4, e4, rfl, H4, hb4, hE4⟩; obtain ⟨rfl, rfl⟩ : d4 = largeD n ∧ e4 = largeE n := (by have := H4.out; rw [H2.out, (large_put n).1, (large_put n).2.2] at this; exact this))))
    refine nx_done rfl trivial ?_
    try simp only [Act.put, List.setIfInBounds_toArray, List.set]
    refine run_call1 rfl ?_ ?_
    · go_wp2_with (first | (go_at_call 22; go_loud ((first | refine (newP_calls' (fun k => k ≠ g5) _ (fun k hk e => (by have h1 := hk5.lt; have h2 := Nat.le_trans (Ext.size (show Ext w5 _ from (by with_reducible repeat (first | exact Ext.refl _ | refine Ext.alloc ?_ _ | refine Ext.drewN ?_ _ | refine Ext.trans ?_ (by assumption))))) hk; omega)) 1 1 rfl).mono ?_ | refine (newP_calls' (fun _ => True) _ (Anew.top _) 1 1 rfl).mono ?_); rintro e w2 ⟨A2, c2, d2, rfl, H2, hb2, hE2⟩)) | ((with_reducible (show wpList _ _ _ (⟨_, Op.makeSlice _ _ _, _, _, _, _⟩ :: _) _ _)); go_loud (refine wpList_mkB rfl _ _ _ rfl _ infoB Try.underlying22 _ _ n rfl rfl (by omega) ?_; intro g3 w3 hg3 hO3 hE3)) | (go_at_call 17; go_loud ((first | refine (write_calls (fun k => k ≠ g5) _ (fun k hk e => (by have h1 := hk5.lt; have h2 := Nat.le_trans (Ext.size (show Ext w5 _ from (by with_reducible repeat (first | exact Ext.refl _ | refine Ext.alloc ?_ _ | refine Ext.drewN ?_ _ | refine Ext.trans ?_ (by assumption))))) hk; omega)) A2 1 c2 d2 (by refine BL.ext (by assumption) ?_; (with_reducible repeat (first | exact Ext.refl _ | refine Ext.alloc ?_ _ | refine Ext.drewN ?_ _ | refine Ext.trans ?_ (by assumption)))) (by omega) _ n n (List.replicate n 0) (BV.ext (OB.bv (P := fun _ => True) hO3 (fun _ _ => trivial)) (by with_reducible repeat (first | exact Ext.refl _ | refine Ext.alloc ?_ _ | refine Ext.drewN ?_ _ | refine Ext.trans ?_ (by assumption)))) (by omega) 0 (by rw [H2.out]; decide) (by rw [H2.out]; decide) (by rw [H2.out]; decide)).mono ?_ | refine (write_calls (fun _ => True) _ (Anew.top _) A2 1 c2 d2 (by refine BL.ext (by assumption) ?_; (with_reducible repeat (first | exact Ext.refl _ | refine Ext.alloc ?_ _ | refine Ext.drewN ?_ _ | refine Ext.trans ?_ (by assumption)))) (by omega) _ n n (List.replicate n 0) (BV.ext (OB.bv (P := fun _ => True) hO3 (fun _ _ => trivial)) (by with_reducible repeat (first | exact Ext.refl _ | refine Ext.alloc ?_ _ | refine Ext.drewN ?_ _ | refine Ext.trans ?_ (by assumption)))) (by omega) 0 (by rw [H2.out]; decide) (by rw [H2.out]; decide) (by rw [H2.out]; decide)).mono ?_); rintro e w4 ⟨A4, c4, d4, e4, rfl, H4, hb4, hE4⟩; obtain ⟨rfl, rfl⟩ : d4 = largeD n ∧ e4 = largeE n := (by have := H4.out; rw [H2.out, (large_put n).1, (large_put n).2.2] at this; exact this))))
      refine nx_done rfl trivial ?_
      try simp only [Act.put, List.setIfInBounds_toArray, List.set]
      refine run_free rfl ?_ ?_
      · go_wp2_with (first | (go_at_call 22; go_loud ((first | refine (newP_calls' (fun k => k ≠ g5) _ (fun k hk e => (by have h1 := hk5.lt; have h2 := Nat.le_trans (Ext.size (show Ext w5 _ from (by with_reducible repeat (first | exact Ext.refl _ | refine Ext.alloc ?_ _ | refine Ext.drewN ?_ _ | refine Ext.trans ?_ (by assumption))))) hk; omega)) 1 1 rfl).mono ?_ | refine (newP_calls' (fun _ => True) _ (Anew.top _) 1 1 rfl).mono ?_); rintro e w2 ⟨A2, c2, d2, rfl, H2, hb2, hE2⟩)) | ((with_reducible (show wpList _ _ _ (⟨_, Op.makeSlice _ _ _, _, _, _, _⟩ :: _) _ _)); go_loud (refine wpList_mkB rfl _ _ _ rfl _ infoB Try.underlying22 _ _ n rfl rfl (by omega) ?_; intro g3 w3 hg3 hO3 hE3)) | (go_at_call 17; go_loud ((first | refine (write_calls (fun k => k ≠ g5) _ (fun k hk e => (by have h1 := hk5.lt; have h2 := Nat.le_trans (Ext.size (show Ext w5 _ from (by with_reducible repeat (first | exact Ext.refl _ | refine Ext.alloc ?_ _ | refine Ext.drewN ?_ _ | refine Ext.trans ?_ (by assumption))))) hk; omega)) A2 1 c2 d2 (by refine BL.ext (by assumption) ?_; (with_reducible repeat (first | exact Ext.refl _ | refine Ext.alloc ?_ _ | refine Ext.drewN ?_ _ | refine Ext.trans ?_ (by assumption)))) (by omega) _ n n (List.replicate n 0) (BV.ext (OB.bv (P := fun _ => True) hO3 (fun _ _ => trivial)) (by with_reducible repeat (first | exact Ext.refl _ | refine Ext.alloc ?_ _ | refine Ext.drewN ?_ _ | refine Ext.trans ?_ (by assumption)))) (by omega) 0 (by rw [H2.out]; decide) (by rw [H2.out]; decide) (by rw [H2.out]; decide)).mono ?_ | refine (write_calls (fun _ => True) _ (Anew.top _) A2 1 c2 d2 (by refine BL.ext (by assumption) ?_; (with_reducible repeat (first | exact Ext.refl _ | refine Ext.alloc ?_ _ | refine Ext.drewN ?_ _ | refine Ext.trans ?_ (by assumption)))) (by omega) _ n n (List.replicate n 0) (BV.ext (OB.bv (P := fun _ => True) hO3 (fun _ _ => trivial)) (by with_reducible repeat (first | exact Ext.refl _ | refine Ext.alloc ?_ _ | refine Ext.drewN ?_ _ | refine Ext.trans ?_ (by assumption)))) (by omega) 0 (by rw [H2.out]; decide) (by rw [H2.out]; decide) (by rw [H2.out]; decide)).mono ?_); rintro e w4 ⟨A4, c4, d4, e4, rfl, H4, hb4, hE4⟩; obtain ⟨rfl, rfl⟩ : d4 = largeD n ∧ e4 = largeE n := (by have := H4.out; rw [H2.out, (large_put n).1, (large_put n).2.2] at this; exact this))))
        refine nx_done rfl trivial ?_
        try simp only [Act.put, List.setIfInBounds_toArray, List.set]
        apply run_read rfl
        · intro w1 hS
          go_wp2
          exact rv_done rfl rfl
        try simp only [Act.put, List.setIfInBounds_toArray, List.set]
        apply run_read rfl
        · intro w1 hS
          go_wp2
          exact rv_done rfl rfl
        try simp only [Act.put, List.setIfInBounds_toArray, List.set]
        apply run_read rfl
        · intro w1 hS
          go_wp2
          exact rv_done rfl rfl
        try simp only [Act.put, List.setIfInBounds_toArray, List.set]
        refine run_call1 rfl ?_ run_none
        ((with_reducible (show wpList _ _ _ (⟨_, Op.alloc _, _, _, _, _⟩ :: _) _ _)); go_loud (refine wpList_alB (.agg #[.slice none 0 0, .int .i64 0, .int .i64 0, .int .i64 0, .bool false]) rfl _ rfl (by kernel_rfl) rfl ?_; intro g5 w5 hg5 hk5 hE5))
        refine wpList_nil ?_
        refine nx_done rfl trivial ?_
        try simp only [Act.put, List.setIfInBounds_toArray, List.set]
        try replace hb2 := BL.off hb2 (g := g5) (Nat.le_trans (Ext.size (by with_reducible repeat (first | exact Ext.refl _ | refine Ext.alloc ?_ _ | refine Ext.drewN ?_ _ | refine Ext.trans ?_ (by assumption)))) hg5)
        try replace hb4 := BL.off hb4 (g := g5) (Nat.le_trans (Ext.size (by with_reducible repeat (first | exact Ext.refl _ | refine Ext.alloc ?_ _ | refine Ext.drewN ?_ _ | refine Ext.trans ?_ (by assumption)))) hg5)
        refine run_call1 rfl ?_ run_none
        ((with_reducible (show wpList _ _ _ (⟨_, Op.store _ _ _, _, _, _, _⟩ :: _) _ _)); go_loud (refine wpList_stB rfl _ _ _ rfl _ rfl rfl (by refine Blk.ext (by assumption) ?_; (with_reducible repeat (first | exact Ext.refl _ | refine Ext.alloc ?_ _ | refine Ext.drewN ?_ _ | refine Ext.trans ?_ (by assumption)))) (by kernel_rfl) (by rfl) (by simp [Value.oneCell']) ?_; intro w6 hk6 hF6))
        refine wpList_nil ?_
        refine nx_done rfl trivial ?_
        try simp only [Act.put, List.setIfInBounds_toArray, List.set]
        refine run_tail rfl ?_
        refine wpList_forget (fun w7 => Blk w7 g5 27 #[.slice A4 1 c4, .int .i64 (largeD n).wr, .int .i64 (largeD n).ct, .int .i64 (largeD n).tn, .bool (largeD n).off] ∧ BL w7 (fun k => k ≠ g5) A4 1 c4 (largeD n).areas ∧ Ext w w7 ∧ w.heap.size ≤ g5) ⟨hk6, BL.fr (BL.ext hb4 (by with_reducible repeat (first | exact Ext.refl _ | refine Ext.alloc ?_ _ | refine Ext.drewN ?_ _ | refine Ext.trans ?_ (by assumption)))) hF6, Ext.over (by with_reducible repeat (first | exact Ext.refl _ | refine Ext.alloc ?_ _ | refine Ext.drewN ?_ _ | refine Ext.trans ?_ (by assumption))) hF6 (Nat.le_trans (Ext.size (by with_reducible repeat (first | exact Ext.refl _ | refine Ext.alloc ?_ _ | refine Ext.drewN ?_ _ | refine Ext.trans ?_ (by assumption)))) hg5), Nat.le_trans (Ext.size (by with_reducible repeat (first | exact Ext.refl _ | refine Ext.alloc ?_ _ | refine Ext.drewN ?_ _ | refine Ext.trans ?_ (by assumption)))) hg5⟩ ?_
        clear hk6 hF6 hb4 hb2 hE1 hE2 hE3 hE4 hE5 hk5 hO3 hg5 H2 H4
        rintro w7 ⟨hkF, hbF, hEF, hgF⟩
        rcases hlarge with ⟨hbig, hD, hEr⟩ | ⟨hbig, hD, hEr⟩
        · rw [hD] at hkF hbF
          simp only [hEr]
          obtain ⟨bb, ob, A', n', c', rfl, hcell, hn'⟩ := BL.at0 (l := []) hbF
          simp only [List.length_nil] at hn'
          subst hn'
          obtain ⟨q0, q1, q2, q3, q4⟩ := hkF.c5
          simp only [newS] at q1
          clear hbF hkF hD hEr
          go_wp2
          go_ret
          exact ⟨rfl, hEF⟩
        · rw [hD] at hkF hbF
          simp only [hEr]
          obtain ⟨bb, ob, A', n', c', rfl, hcell, hn'⟩ := BL.at0 (l := List.replicate n 0) hbF
          simp only [List.length_replicate] at hn'
          subst hn'
          obtain ⟨q0, q1, q2, q3, q4⟩ := hkF.c5
          clear hbF hkF hD hEr
          go_wp2
          go_ret
          exact ⟨rfl, hEF⟩
      refine run_call1 rfl ?_ run_none
      ((with_reducible (show wpList _ _ _ (⟨_, Op.alloc _, _, _, _, _⟩ :: _) _ _)); go_loud (refine wpList_alB (.agg #[.slice none 0 0, .int .i64 0, .int .i64 0, .int .i64 0, .bool false]) rfl _ rfl (by kernel_rfl) rfl ?_; intro g5 w5 hg5 hk5 hE5))
      refine wpList_nil ?_
      refine nx_done rfl trivial ?_
      try simp only [Act.put, List.setIfInBounds_toArray, List.set]
      try replace hb2 := BL.off hb2 (g := g5) (Nat.le_trans (Ext.size (by with_reducible repeat (first | exact Ext.refl _ | refine Ext.alloc ?_ _ | refine Ext.drewN ?_ _ | refine Ext.trans ?_ (by assumption)))) hg5)
      try replace hb4 := BL.off hb4 (g := g5) (Nat.le_trans (Ext.size (by with_reducible repeat (first | exact Ext.refl _ | refine Ext.alloc ?_ _ | refine Ext.drewN ?_ _ | refine Ext.trans ?_ (by assumption)))) hg5)
      refine run_call1 rfl ?_ run_none
      go_wp2_with (first | (go_at_call 22; go_loud ((first | refine (newP_calls' (fun k => k ≠ g5) _ (fun k hk e => (by have h1 := hk5.lt; have h2 := Nat.le_trans (Ext.size (show Ext w5 _ from (by with_reducible repeat (first | exact Ext.refl _ | refine Ext.alloc ?_ _ | refine Ext.drewN ?_ _ | refine Ext.trans ?_ (by assumption))))) hk; omega)) 1 1 rfl).mono ?_ | refine (newP_calls' (fun _ => True) _ (Anew.top _) 1 1 rfl).mono ?_); rintro e w2 ⟨A2, c2, d2, rfl, H2, hb2, hE2⟩)) | ((with_reducible (show wpList _ _ _ (⟨_, Op.makeSlice _ _ _, _, _, _, _⟩ :: _) _ _)); go_loud (refine wpList_mkB rfl _ _ _ rfl _ infoB Try.underlying22 _ _ n rfl rfl (by omega) ?_; intro g3 w3 hg3 hO3 hE3)) | (go_at_call 17; go_loud ((first | refine (write_calls (fun k => k ≠ g5) _ (fun k hk e => (by have h1 := hk5.lt; have h2 := Nat.le_trans (Ext.size (show Ext w5 _ from (by with_reducible repeat (first | exact Ext.refl _ | refine Ext.alloc ?_ _ | refine Ext.drewN ?_ _ | refine Ext.trans ?_ (by assumption))))) hk; omega)) A2 1 c2 d2 (by refine BL.ext (by assumption) ?_; (with_reducible repeat (first | exact Ext.refl _ | refine Ext.alloc ?_ _ | refine Ext.drewN ?_ _ | refine Ext.trans ?_ (by assumption)))) (by omega) _ n n (List.replicate n 0) (BV.ext (OB.bv (P := fun _ => True) hO3 (fun _ _ => trivial)) (by with_reducible repeat (first | exact Ext.refl _ | refine Ext.alloc ?_ _ | refine Ext.drewN ?_ _ | refine Ext.trans ?_ (by assumption)))) (by omega) 0 (by rw [H2.out]; decide) (by rw [H2.out]; decide) (by rw [H2.out]; decide)).mono ?_ | refine (write_calls (fun _ => True) _ (Anew.top _) A2 1 c2 d2 (by refine BL.ext (by assumption) ?_; (with_reducible repeat (first | exact Ext.refl _ | refine Ext.alloc ?_ _ | refine Ext.drewN ?_ _ | refine Ext.trans ?_ (by assumption)))) (by omega) _ n n (List.replicate n 0) (BV.ext (OB.bv (P := fun _ => True) hO3 (fun _ _ => trivial)) (by with_reducible repeat (first | exact Ext.refl _ | refine Ext.alloc ?_ _ | refine Ext.drewN ?_ _ | refine Ext.trans ?_ (by assumption)))) (by omega) 0 (by rw [H2.out]; decide) (by rw [H2.out]; decide) (by rw [H2.out]; decide)).mono ?_); rintro e w4 ⟨A4, c4, d4, e4, rfl, H4, hb4, hE4⟩; obtain ⟨rfl, rfl⟩ : d4 = largeD n ∧ e4 = largeE n := (by have := H4.out; rw [H2.out, (large_put n).1, (large_put n).2.2] at this; exact this))))
      refine nx_done rfl trivial ?_
      try simp only [Act.put, List.setIfInBounds_toArray, List.set]
      apply run_read rfl
      · intro w1 hS
        go_wp2
        exact rv_done rfl rfl
      try simp only [Act.put, List.setIfInBounds_toArray, List.set]
      apply run_read rfl
      · intro w1 hS
        go_wp2
        exact rv_done rfl rfl
      try simp only [Act.put, List.setIfInBounds_toArray, List.set]
      apply run_read rfl
      · intro w1 hS
        go_wp2
        exact rv_done rfl rfl
      try simp only [Act.put, List.setIfInBounds_toArray, List.set]
      refine run_call1 rfl ?_ run_none
      ((with_reducible (show wpList _ _ _ (⟨_, Op.store _ _ _, _, _, _, _⟩ :: _) _ _)); go_loud (refine wpList_stB rfl _ _ _ rfl _ rfl rfl (by refine Blk.ext (by assumption) ?_; (with_reducible repeat (first | exact Ext.refl _ | refine Ext.alloc ?_ _ | refine Ext.drewN ?_ _ | refine Ext.trans ?_ (by assumption)))) (by kernel_rfl) (by rfl) (by simp [Value.oneCell']) ?_; intro w6 hk6 hF6))
      refine wpList_nil ?_
      refine nx_done rfl trivial ?_
      try simp only [Act.put, List.setIfInBounds_toArray, List.set]
      refine run_tail rfl ?_
      refine wpList_forget (fun w7 => Blk w7 g5 27 #[.slice A4 1 c4, .int .i64 (largeD n).wr, .int .i64 (largeD n).ct, .int .i64 (largeD n).tn, .bool (largeD n).off] ∧ BL w7 (fun k => k ≠ g5) A4 1 c4 (largeD n).areas ∧ Ext w w7 ∧ w.heap.size ≤ g5) ⟨hk6, BL.fr (BL.ext hb4 (by with_reducible repeat (first | exact Ext.refl _ | refine Ext.alloc ?_ _ | refine Ext.drewN ?_ _ | refine Ext.trans ?_ (by assumption)))) hF6, Ext.over (by with_reducible repeat (first | exact Ext.refl _ | refine Ext.alloc ?_ _ | refine Ext.drewN ?_ _ | refine Ext.trans ?_ (by assumption))) hF6 (Nat.le_trans (Ext.size (by with_reducible repeat (first | exact Ext.refl _ | refine Ext.alloc ?_ _ | refine Ext.drewN ?_ _ | refine Ext.trans ?_ (by assumption)))) hg5), Nat.le_trans (Ext.size (by with_reducible repeat (first | exact Ext.refl _ | refine Ext.alloc ?_ _ | refine Ext.drewN ?_ _ | refine Ext.trans ?_ (by assumption)))) hg5⟩ ?_
      clear hk6 hF6 hb4 hb2 hE1 hE2 hE3 hE4 hE5 hk5 hO3 hg5 H2 H4
      rintro w7 ⟨hkF, hbF, hEF, hgF⟩
      rcases hlarge with ⟨hbig, hD, hEr⟩ | ⟨hbig, hD, hEr⟩
      · rw [hD] at hkF hbF
        simp only [hEr]
        obtain ⟨bb, ob, A', n', c', rfl, hcell, hn'⟩ := BL.at0 (l := []) hbF
        simp only [List.length_nil] at hn'
        subst hn'
        obtain ⟨q0, q1, q2, q3, q4⟩ := hkF.c5
        simp only [newS] at q1
        clear hbF hkF hD hEr
        go_wp2
        go_ret
        exact ⟨rfl, hEF⟩
      · rw [hD] at hkF hbF
        simp only [hEr]
        obtain ⟨bb, ob, A', n', c', rfl, hcell, hn'⟩ := BL.at0 (l := List.replicate n 0) hbF
        simp only [List.length_replicate] at hn'
        subst hn'
        obtain ⟨q0, q1, q2, q3, q4⟩ := hkF.c5
        clear hbF hkF hD hEr
        go_wp2
        go_ret
        exact ⟨rfl, hEF⟩
    refine run_call1 rfl ?_ run_none
    ((with_reducible (show wpList _ _ _ (⟨_, Op.alloc _, _, _, _, _⟩ :: _) _ _)); go_loud (refine wpList_alB (.agg #[.slice none 0 0, .int .i64 0, .int .i64 0, .int .i64 0, .bool false]) rfl _ rfl (by kernel_rfl) rfl ?_; intro g5 w5 hg5 hk5 hE5))
    refine wpList_nil ?_
    refine nx_done rfl trivial ?_
    try simp only [Act.put, List.setIfInBounds_toArray, List.set]
    try replace hb2 := BL.off hb2 (g := g5) (Nat.le_trans (Ext.size (by with_reducible repeat (first | exact Ext.refl _ | refine Ext.alloc ?_ _ | refine Ext.drewN ?_ _ | refine Ext.trans ?_ (by assumption)))) hg5)
    try replace hb4 := BL.off hb4 (g := g5) (Nat.le_trans (Ext.size (by with_reducible repeat (first | exact Ext.refl _ | refine Ext.alloc ?_ _ | refine Ext.drewN ?_ _ | refine Ext.trans ?_ (by assumption)))) hg5)
    refine run_call1 rfl ?_ run_none
    go_wp2_with (first | (go_at_call 22; go_loud ((first | refine (newP_calls' (fun k => k ≠ g5) _ (fun k hk e => (by have h1 := hk5.lt; have h2 := Nat.le_trans (Ext.size (show Ext w5 _ from (by with_reducible repeat (first | exact Ext.refl _ | refine Ext.alloc ?_ _ | refine Ext.drewN ?_ _ | refine Ext.trans ?_ (by assumption))))) hk; omega)) 1 1 rfl).mono ?_ | refine (newP_calls' (fun _ => True) _ (Anew.top _) 1 1 rfl).mono ?_); rintro e w2 ⟨A2, c2, d2, rfl, H2, hb2, hE2⟩)) | ((with_reducible (show wpList _ _ _ (⟨_, Op.makeSlice _ _ _, _, _, _, _⟩ :: _) _ _)); go_loud (refine wpList_mkB rfl _ _ _ rfl _ infoB Try.underlying22 _ _ n rfl rfl (by omega) ?_; intro g3 w3 hg3 hO3 hE3)) | (go_at_call 17; go_loud ((first | refine (write_calls (fun k => k ≠ g5) _ (fun k hk e => (by have h1 := hk5.lt; have h2 := Nat.le_trans (Ext.size (show Ext w5 _ from (by with_reducible repeat (first | exact Ext.refl _ | refine Ext.alloc ?_ _ | refine Ext.drewN ?_ _ | refine Ext.trans ?_ (by assumption))))) hk; omega)) A2 1 c2 d2 (by refine BL.ext (by assumption) ?_; (with_reducible repeat (first | exact Ext.refl _ | refine Ext.alloc ?_ _ | refine Ext.drewN ?_ _ | refine Ext.trans ?_ (by assumption)))) (by omega) _ n n (List.replicate n 0) (BV.ext (OB.bv (P := fun _ => True) hO3 (fun _ _ => trivial)) (by with_reducible repeat (first | exact Ext.refl _ | refine Ext.alloc ?_ _ | refine Ext.drewN ?_ _ | refine Ext.trans ?_ (by assumption)))) (by omega) 0 (by rw [H2.out]; decide) (by rw [H2.out]; decide) (by rw [H2.out]; decide)).mono ?_ | refine (write_calls (fun _ => True) _ (Anew.top _) A2 1 c2 d2 (by refine BL.ext (by assumption) ?_; (with_reducible repeat (first | exact Ext.refl _ | refine Ext.alloc ?_ _ | refine Ext.drewN ?_ _ | refine Ext.trans ?_ (by assumption)))) (by omega) _ n n (List.replicate n 0) (BV.ext (OB.bv (P := fun _ => True) hO3 (fun _ _ => trivial)) (by with_reducible repeat (first | exact Ext.refl _ | refine Ext.alloc ?_ _ | refine Ext.drewN ?_ _ | refine Ext.trans ?_ (by assumption)))) (by omega) 0 (by rw [H2.out]; decide) (by rw [H2.out]; decide) (by rw [H2.out]; decide)).mono ?_); rintro e w4 ⟨A4, c4, d4, e4, rfl, H4, hb4, hE4⟩; obtain ⟨rfl, rfl⟩ : d4 = largeD n ∧ e4 = largeE n := (by have := H4.out; rw [H2.out, (large_put n).1, (large_put n).2.2] at this; exact this))))
    refine nx_done rfl trivial ?_
    try simp only [Act.put, List.setIfInBounds_toArray, List.set]
    refine run_call1 rfl ?_ run_none
    go_wp2_with (first | (go_at_call 22; go_loud ((first | refine (newP_calls' (fun k => k ≠ g5) _ (fun k hk e => (by have h1 := hk5.lt; have h2 := Nat.le_trans (Ext.size (show Ext w5 _ from (by with_reducible repeat (first | exact Ext.refl _ | refine Ext.alloc ?_ _ | refine Ext.drewN ?_ _ | refine Ext.trans ?_ (by assumption))))) hk; omega)) 1 1 rfl).mono ?_ | refine (newP_calls' (fun _ => True) _ (Anew.top _) 1 1 rfl).mono ?_); rintro e w2 ⟨A2, c2, d2, rfl, H2, hb2, hE2⟩)) | ((with_reducible (show wpList _ _ _ (⟨_, Op.makeSlice _ _ _, _, _, _, _⟩ :: _) _ _)); go_loud (refine wpList_mkB rfl _ _ _ rfl _ infoB Try.underlying22 _ _ n rfl rfl (by omega) ?_; intro g3 w3 hg3 hO3 hE3)) | (go_at_call 17; go_loud ((first | refine (write_calls (fun k => k ≠ g5) _ (fun k hk e => (by have h1 := hk5.lt; have h2 := Nat.le_trans (Ext.size (show Ext w5 _ from (by with_reducible repeat (first | exact Ext.refl _ | refine Ext.alloc ?_ _ | refine Ext.drewN ?_ _ | refine Ext.trans ?_ (by assumption))))) hk; omega)) A2 1 c2 d2 (by refine BL.ext (by assumption) ?_; (with_reducible repeat (first | exact Ext.refl _ | refine Ext.alloc ?_ _ | refine Ext.drewN ?_ _ | refine Ext.trans ?_ (by assumption)))) (by omega) _ n n (List.replicate n 0) (BV.ext (OB.bv (P := fun _ => True) hO3 (fun _ _ => trivial)) (by with_reducible repeat (first | exact Ext.refl _ | refine Ext.alloc ?_ _ | refine Ext.drewN ?_ _ | refine Ext.trans ?_ (by assumption)))) (by omega) 0 (by rw [H2.out]; decide) (by rw [H2.out]; decide) (by rw [H2.out]; decide)).mono ?_ | refine (write_calls (fun _ => True) _ (Anew.top _) A2 1 c2 d2 (by refine BL.ext (by assumption) ?_; (with_reducible repeat (first | exact Ext.refl _ | refine Ext.alloc ?_ _ | refine Ext.drewN ?_ _ | refine Ext.trans ?_ (by assumption)))) (by omega) _ n n (List.replicate n 0) (BV.ext (OB.bv (P := fun _ => True) hO3 (fun _ _ => trivial)) (by with_reducible repeat (first | exact Ext.refl _ | refine Ext.alloc ?_ _ | refine Ext.drewN ?_ _ | refine Ext.trans ?_ (by assumption)))) (by omega) 0 (by rw [H2.out]; decide) (by rw [H2.out]; decide) (by rw [H2.out]; decide)).mono ?_); rintro e w4 ⟨A4, c4, d4, e4, rfl, H4, hb4, hE4⟩; obtain ⟨rfl, rfl⟩ : d4 = largeD n ∧ e4 = largeE n := (by have := H4.out; rw [H2.out, (large_put n).1, (large_put n).2.2] at this; exact this))))
    refine nx_done rfl trivial ?_
    try simp only [Act.put, List.setIfInBounds_toArray, List.set]
    apply run_read rfl
    · intro w1 hS
      go_wp2
      exact rv_done rfl rfl
    try simp only [Act.put, List.setIfInBounds_toArray, List.set]
    apply run_read rfl
    · intro w1 hS
      go_wp2
      exact rv_done rfl rfl
    try simp only [Act.put, List.setIfInBounds_toArray, List.set]
    apply run_read rfl
    · intro w1 hS
      go_wp2
      exact rv_done rfl rfl
    try simp only [Act.put, List.setIfInBounds_toArray, List.set]
    refine run_call1 rfl ?_ run_none
    ((with_reducible (show wpList _ _ _ (⟨_, Op.store _ _ _, _, _, _, _⟩ :: _) _ _)); go_loud (refine wpList_stB rfl _ _ _ rfl _ rfl rfl (by refine Blk.ext (by assumption) ?_; (with_reducible repeat (first | exact Ext.refl _ | refine Ext.alloc ?_ _ | refine Ext.drewN ?_ _ | refine Ext.trans ?_ (by assumption)))) (by kernel_rfl) (by rfl) (by simp [Value.oneCell']) ?_; intro w6 hk6 hF6))
    refine wpList_nil ?_
    refine nx_done rfl trivial ?_
    try simp only [Act.put, List.setIfInBounds_toArray, List.set]
    refine run_tail rfl ?_
    refine wpList_forget (fun w7 => Blk w7 g5 27 #[.slice A4 1 c4, .int .i64 (largeD n).wr, .int .i64 (largeD n).ct, .int .i64 (largeD n).tn, .bool (largeD n).off] ∧ BL w7 (fun k => k ≠ g5) A4 1 c4 (largeD n).areas ∧ Ext w w7 ∧ w.heap.size ≤ g5) ⟨hk6, BL.fr (BL.ext hb4 (by with_reducible repeat (first | exact Ext.refl _ | refine Ext.alloc ?_ _ | refine Ext.drewN ?_ _ | refine Ext.trans ?_ (by assumption)))) hF6, Ext.over (by with_reducible repeat (first | exact Ext.refl _ | refine Ext.alloc ?_ _ | refine Ext.drewN ?_ _ | refine Ext.trans ?_ (by assumption))) hF6 (Nat.le_trans (Ext.size (by with_reducible repeat (first | exact Ext.refl _ | refine Ext.alloc ?_ _ | refine Ext.drewN ?_ _ | refine Ext.trans ?_ (by assumption)))) hg5), Nat.le_trans (Ext.size (by with_reducible repeat (first | exact Ext.refl _ | refine Ext.alloc ?_ _ | refine Ext.drewN ?_ _ | refine Ext.trans ?_ (by assumption)))) hg5⟩ ?_
    clear hk6 hF6 hb4 hb2 hE1 hE2 hE3 hE4 hE5 hk5 hO3 hg5 H2 H4
    rintro w7 ⟨hkF, hbF, hEF, hgF⟩
    rcases hlarge with ⟨hbig, hD, hEr⟩ | ⟨hbig, hD, hEr⟩
    · rw [hD] at hkF hbF
      simp only [hEr]
      obtain ⟨bb, ob, A', n', c', rfl, hcell, hn'⟩ := BL.at0 (l := []) hbF
      simp only [List.length_nil] at hn'
      subst hn'
      obtain ⟨q0, q1, q2, q3, q4⟩ := hkF.c5
      simp only [newS] at q1
      clear hbF hkF hD hEr
      go_wp2
      go_ret
      exact ⟨rfl, hEF⟩
    · rw [hD] at hkF hbF
      simp only [hEr]
      obtain ⟨bb, ob, A', n', c', rfl, hcell, hn'⟩ := BL.at0 (l := List.replicate n 0) hbF
      simp only [List.length_replicate] at hn'
      subst hn'
      obtain ⟨q0, q1, q2, q3, q4⟩ := hkF.c5
      clear hbF hkF hD hEr
      go_wp2
      go_ret
      exact ⟨rfl, hEF⟩
  refine run_call1 rfl ?_ run_none
  ((with_reducible (show wpList _ _ _ (⟨_, Op.alloc _, _, _, _, _⟩ :: _) _ _)); go_loud (refine wpList_alB (.agg #[.slice none 0 0, .int .i64 0, .int .i64 0, .int .i64 0, .bool false]) rfl _ rfl (by kernel_rfl) rfl ?_; intro g5 w5 hg5 hk5 hE5))
  refine wpList_nil ?_
  refine nx_done rfl trivial ?_
  try simp only [Act.put, List.setIfInBounds_toArray, List.set]
  try replace hb2 := BL.off hb2 (g := g5) (Nat.le_trans (Ext.size (by with_reducible repeat (first | exact Ext.refl _ | refine Ext.alloc ?_ _ | refine Ext.drewN ?_ _ | refine Ext.trans ?_ (by assumption)))) hg5)
  try replace hb4 := BL.off hb4 (g := g5) (Nat.le_trans (Ext.size (by with_reducible repeat (first | exact Ext.refl _ | refine Ext.alloc ?_ _ | refine Ext.drewN ?_ _ | refine Ext.trans ?_ (by assumption)))) hg5)
  refine run_call1 rfl ?_ ?_
  · go_wp2_with (first | (go_at_call 22; go_loud ((first | refine (newP_calls' (fun k => k ≠ g5) _ (fun k hk e => (by have h1 := hk5.lt; have h2 := Nat.le_trans (Ext.size (show Ext w5 _ from (by with_reducible repeat (first | exact Ext.refl _ | refine Ext.alloc ?_ _ | refine Ext.drewN ?_ _ | refine Ext.trans ?_ (by assumption))))) hk; omega)) 1 1 rfl).mono ?_ | refine (newP_calls' (fun _ => True) _ (Anew.top _) 1 1 rfl).mono ?_); rintro e w2 ⟨A2, c2, d2, rfl, H2, hb2, hE2⟩)) | ((with_reducible (show wpList _ _ _ (⟨_, Op.makeSlice _ _ _, _, _, _, _⟩ :: _) _ _)); go_loud (refine wpList_mkB rfl _ _ _ rfl _ infoB Try.underlying22 _ _ n rfl rfl (by omega) ?_; intro g3 w3 hg3 hO3 hE3)) | (go_at_call 17; go_loud ((first | refine (write_calls (fun k => k ≠ g5) _ (fun k hk e => (by have h1 := hk5.lt; have h2 := Nat.le_trans (Ext.size (show Ext w5 _ from (by with_reducible repeat (first | exact Ext.refl _ | refine Ext.alloc ?_ _ | refine Ext.drewN ?_ _ | refine Ext.trans ?_ (by assumption))))) hk; omega)) A2 1 c2 d2 (by refine BL.ext (by assumption) ?_; (with_reducible repeat (first | exact Ext.refl _ | refine Ext.alloc ?_ _ | refine Ext.drewN ?_ _ | refine Ext.trans ?_ (by assumption)))) (by omega) _ n n (List.replicate n 0) (BV.ext (OB.bv (P := fun _ => True) hO3 (fun _ _ => trivial)) (by with_reducible repeat (first | exact Ext.refl _ | refine Ext.alloc ?_ _ | refine Ext.drewN ?_ _ | refine Ext.trans ?_ (by assumption)))) (by omega) 0 (by rw [H2.out]; decide) (by rw [H2.out]; decide) (by rw [H2.out]; decide)).mono ?_ | refine (write_calls (fun _ => True) _ (Anew.top _) A2 1 c2 d2 (by refine BL.ext (by assumption) ?_; (with_reducible repeat (first | exact Ext.refl _ | refine Ext.alloc ?_ _ | refine Ext.drewN ?_ _ | refine Ext.trans ?_ (by assumption)))) (by omega) _ n n (List.replicate n 0) (BV.ext (OB.bv (P := fun _ => True) hO3 (fun _ _ => trivial)) (by with_reducible repeat (first | exact Ext.refl _ | refine Ext.alloc ?_ _ | refine Ext.drewN ?_ _ | refine Ext.trans ?_ (by assumption)))) (by omega) 0 (by rw [H2.out]; decide) (by rw [H2.out]; decide) (by rw [H2.out]; decide)).mono ?_); rintro e w4 ⟨A4, c4, d4, e4, rfl, H4, hb4, hE4⟩; obtain ⟨rfl, rfl⟩ : d4 = largeD n ∧ e4 = largeE n := (by have := H4.out; rw [H2.out, (large_put n).1, (large_put n).2.2] at this; exact this))))
    refine nx_done rfl trivial ?_
    try simp only [Act.put, List.setIfInBounds_toArray, List.set]
    refine run_call1 rfl ?_ run_none
    go_wp2_with (first | (go_at_call 22; go_loud ((first | refine (newP_calls' (fun k => k ≠ g5) _ (fun k hk e => (by have h1 := hk5.lt; have h2 := Nat.le_trans (Ext.size (show Ext w5 _ from (by with_reducible repeat (first | exact Ext.refl _ | refine Ext.alloc ?_ _ | refine Ext.drewN ?_ _ | refine Ext.trans ?_ (by assumption))))) hk; omega)) 1 1 rfl).mono ?_ | refine (newP_calls' (fun _ => True) _ (Anew.top _) 1 1 rfl).mono ?_); rintro e w2 ⟨A2, c2, d2, rfl, H2, hb2, hE2⟩)) | ((with_reducible (show wpList _ _ _ (⟨_, Op.makeSlice _ _ _, _, _, _, _⟩ :: _) _ _)); go_loud (refine wpList_mkB rfl _ _ _ rfl _ infoB Try.underlying22 _ _ n rfl rfl (by omega) ?_; intro g3 w3 hg3 hO3 hE3)) | (go_at_call 17; go_loud ((first | refine (write_calls (fun k => k ≠ g5) _ (fun k hk e => (by have h1 := hk5.lt; have h2 := Nat.le_trans (Ext.size (show Ext w5 _ from (by with_reducible repeat (first | exact Ext.refl _ | refine Ext.alloc ?_ _ | refine Ext.drewN ?_ _ | refine Ext.trans ?_ (by assumption))))) hk; omega)) A2 1 c2 d2 (by refine BL.ext (by assumption) ?_; (with_reducible repeat (first | exact Ext.refl _ | refine Ext.alloc ?_ _ | refine Ext.drewN ?_ _ | refine Ext.trans ?_ (by assumption)))) (by omega) _ n n (List.replicate n 0) (BV.ext (OB.bv (P := fun _ => True) hO3 (fun _ _ => trivial)) (by with_reducible repeat (first | exact Ext.refl _ | refine Ext.alloc ?_ _ | refine Ext.drewN ?_ _ | refine Ext.trans ?_ (by assumption)))) (by omega) 0 (by rw [H2.out]; decide) (by rw [H2.out]; decide) (by rw [H2.out]; decide)).mono ?_ | refine (write_calls (fun _ => True) _ (Anew.top _) A2 1 c2 d2 (by refine BL.ext (by assumption) ?_; (with_reducible repeat (first | exact Ext.refl _ | refine Ext.alloc ?_ _ | refine Ext.drewN ?_ _ | refine Ext.trans ?_ (by assumption)))) (by omega) _ n n (List.replicate n 0) (BV.ext (OB.bv (P := fun _ => True) hO3 (fun _ _ => trivial)) (by with_reducible repeat (first | exact Ext.refl _ | refine Ext.alloc ?_ _ | refine Ext.drewN ?_ _ | refine Ext.trans ?_ (by assumption)))) (by omega) 0 (by rw [H2.out]; decide) (by rw [H2.out]; decide) (by rw [H2.out]; decide)).mono ?_); rintro e w4 ⟨A4, c4, d4, e4, rfl, H4, hb4, hE4⟩; obtain ⟨rfl, rfl⟩ : d4 = largeD n ∧ e4 = largeE n := (by have := H4.out; rw [H2.out, (large_put n).1, (large_put n).2.2] at this; exact this))))
    refine nx_done rfl trivial ?_
    try simp only [Act.put, List.setIfInBounds_toArray, List.set]
    refine run_call1 rfl ?_ run_none
    go_wp2_with (first | (go_at_call 22; go_loud ((first | refine (newP_calls' (fun k => k ≠ g5) _ (fun k hk e => (by have h1 := hk5.lt; have h2 := Nat.le_trans (Ext.size (show Ext w5 _ from (by with_reducible repeat (first | exact Ext.refl _ | refine Ext.alloc ?_ _ | refine Ext.drewN ?_ _ | refine Ext.trans ?_ (by assumption))))) hk; omega)) 1 1 rfl).mono ?_ | refine (newP_calls' (fun _ => True) _ (Anew.top _) 1 1 rfl).mono ?_); rintro e w2 ⟨A2, c2, d2, rfl, H2, hb2, hE2⟩)) | ((with_reducible (show wpList _ _ _ (⟨_, Op.makeSlice _ _ _, _, _, _, _⟩ :: _) _ _)); go_loud (refine wpList_mkB rfl _ _ _ rfl _ infoB Try.underlying22 _ _ n rfl rfl (by omega) ?_; intro g3 w3 hg3 hO3 hE3)) | (go_at_call 17; go_loud ((first | refine (write_calls (fun k => k ≠ g5) _ (fun k hk e => (by have h1 := hk5.lt; have h2 := Nat.le_trans (Ext.size (show Ext w5 _ from (by with_reducible repeat (first | exact Ext.refl _ | refine Ext.alloc ?_ _ | refine Ext.drewN ?_ _ | refine Ext.trans ?_ (by assumption))))) hk; omega)) A2 1 c2 d2 (by refine BL.ext (by assumption) ?_; (with_reducible repeat (first | exact Ext.refl _ | refine Ext.alloc ?_ _ | refine Ext.drewN ?_ _ | refine Ext.trans ?_ (by assumption)))) (by omega) _ n n (List.replicate n 0) (BV.ext (OB.bv (P := fun _ => True) hO3 (fun _ _ => trivial)) (by with_reducible repeat (first | exact Ext.refl _ | refine Ext.alloc ?_ _ | refine Ext.drewN ?_ _ | refine Ext.trans ?_ (by assumption)))) (by omega) 0 (by rw [H2.out]; decide) (by rw [H2.out]; decide) (by rw [H2.out]; decide)).mono ?_ | refine (write_calls (fun _ => True) _ (Anew.top _) A2 1 c2 d2 (by refine BL.ext (by assumption) ?_; (with_reducible repeat (first | exact Ext.refl _ | refine Ext.alloc ?_ _ | refine Ext.drewN ?_ _ | refine Ext.trans ?_ (by assumption)))) (by omega) _ n n (List.replicate n 0) (BV.ext (OB.bv (P := fun _ => True) hO3 (fun _ _ => trivial)) (by with_reducible repeat (first | exact Ext.refl _ | refine Ext.alloc ?_ _ | refine Ext.drewN ?_ _ | refine Ext.trans ?_ (by assumption)))) (by omega) 0 (by rw [H2.out]; decide) (by rw [H2.out]; decide) (by rw [H2.out]; decide)).mono ?_); rintro e w4 ⟨A4, c4, d4, e4, rfl, H4, hb4, hE4⟩; obtain ⟨rfl, rfl⟩ : d4 = largeD n ∧ e4 = largeE n := (by have := H4.out; rw [H2.out, (large_put n).1, (large_put n).2.2] at this; exact this))))
    refine nx_done rfl trivial ?_
    try simp only [Act.put, List.setIfInBounds_toArray, List.set]
    apply run_read rfl
    · intro w1 hS
      go_wp2
      exact rv_done rfl rfl
    try simp only [Act.put, List.setIfInBounds_toArray, List.set]
    apply run_read rfl
    · intro w1 hS
      go_wp2
      exact rv_done rfl rfl
    try simp only [Act.put, List.setIfInBounds_toArray, List.set]
    apply run_read rfl
    · intro w1 hS
      go_wp2
      exact rv_done rfl rfl
    try simp only [Act.put, List.setIfInBounds_toArray, List.set]
    refine run_call1 rfl ?_ run_none
    ((with_reducible (show wpList _ _ _ (⟨_, Op.store _ _ _, _, _, _, _⟩ :: _) _ _)); go_loud (refine wpList_stB rfl _ _ _ rfl _ rfl rfl (by refine Blk.ext (by assumption) ?_; (with_reducible repeat (first | exact Ext.refl _ | refine Ext.alloc ?_ _ | refine Ext.drewN ?_ _ | refine Ext.trans ?_ (by assumption)))) (by kernel_rfl) (by rfl) (by simp [Value.oneCell']) ?_; intro w6 hk6 hF6))
    refine wpList_nil ?_
    refine nx_done rfl trivial ?_
    try simp only [Act.put, List.setIfInBounds_toArray, List.set]
    refine run_tail rfl ?_
    refine wpList_forget (fun w7 => Blk w7 g5 27 #[.slice A4 1 c4, .int .i64 (largeD n).wr, .int .i64 (largeD n).ct, .int .i64 (largeD n).tn, .bool (largeD n).off] ∧ BL w7 (fun k => k ≠ g5) A4 1 c4 (largeD n).areas ∧ Ext w w7 ∧ w.heap.size ≤ g5) ⟨hk6, BL.fr (BL.ext hb4 (by with_reducible repeat (first | exact Ext.refl _ | refine Ext.alloc ?_ _ | refine Ext.drewN ?_ _ | refine Ext.trans ?_ (by assumption)))) hF6, Ext.over (by with_reducible repeat (first | exact Ext.refl _ | refine Ext.alloc ?_ _ | refine Ext.drewN ?_ _ | refine Ext.trans ?_ (by assumption))) hF6 (Nat.le_trans (Ext.size (by with_reducible repeat (first | exact Ext.refl _ | refine Ext.alloc ?_ _ | refine Ext.drewN ?_ _ | refine Ext.trans ?_ (by assumption)))) hg5), Nat.le_trans (Ext.size (by with_reducible repeat (first | exact Ext.refl _ | refine Ext.alloc ?_ _ | refine Ext.drewN ?_ _ | refine Ext.trans ?_ (by assumption)))) hg5⟩ ?_
    clear hk6 hF6 hb4 hb2 hE1 hE2 hE3 hE4 hE5 hk5 hO3 hg5 H2 H4
    rintro w7 ⟨hkF, hbF, hEF, hgF⟩
    rcases hlarge with ⟨hbig, hD, hEr⟩ | ⟨hbig, hD, hEr⟩
    · rw [hD] at hkF hbF
      simp only [hEr]
      obtain ⟨bb, ob, A', n', c', rfl, hcell, hn'⟩ := BL.at0 (l := []) hbF
      simp only [List.length_nil] at hn'
      subst hn'
      obtain ⟨q0, q1, q2, q3, q4⟩ := hkF.c5
      simp only [newS] at q1
      clear hbF hkF hD hEr
      go_wp2
      go_ret
      exact ⟨rfl, hEF⟩
    · rw [hD] at hkF hbF
      simp only [hEr]
      obtain ⟨bb, ob, A', n', c', rfl, hcell, hn'⟩ := BL.at0 (l := List.replicate n 0) hbF
      simp only [List.length_replicate] at hn'
      subst hn'
      obtain ⟨q0, q1, q2, q3, q4⟩ := hkF.c5
      clear hbF hkF hD hEr
      go_wp2
      go_ret
      exact ⟨rfl, hEF⟩
  refine run_call1 rfl ?_ run_none
  go_wp2_with (first | (go_at_call 22; go_loud ((first | refine (newP_calls' (fun k => k ≠ g5) _ (fun k hk e => (by have h1 := hk5.lt; have h2 := Nat.le_trans (Ext.size (show Ext w5 _ from (by with_reducible repeat (first | exact Ext.refl _ | refine Ext.alloc ?_ _ | refine Ext.drewN ?_ _ | refine Ext.trans ?_ (by assumption))))) hk; omega)) 1 1 rfl).mono ?_ | refine (newP_calls' (fun _ => True) _ (Anew.top _) 1 1 rfl).mono ?_); rintro e w2 ⟨A2, c2, d2, rfl, H2, hb2, hE2⟩)) | ((with_reducible (show wpList _ _ _ (⟨_, Op.makeSlice _ _ _, _, _, _, _⟩ :: _) _ _)); go_loud (refine wpList_mkB rfl _ _ _ rfl _ infoB Try.underlying22 _ _ n rfl rfl (by omega) ?_; intro g3 w3 hg3 hO3 hE3)) | (go_at_call 17; go_loud ((first | refine (write_calls (fun k => k ≠ g5) _ (fun k hk e => (by have h1 := hk5.lt; have h2 := Nat.le_trans (Ext.size (show Ext w5 _ from (by with_reducible repeat (first | exact Ext.refl _ | refine Ext.alloc ?_ _ | refine Ext.drewN ?_ _ | refine Ext.trans ?_ (by assumption))))) hk; omega)) A2 1 c2 d2 (by refine BL.ext (by assumption) ?_; (with_reducible repeat (first | exact Ext.refl _ | refine Ext.alloc ?_ _ | refine Ext.drewN ?_ _ | refine Ext.trans ?_ (by assumption)))) (by omega) _ n n (List.replicate n 0) (BV.ext (OB.bv (P := fun _ => True) hO3 (fun _ _ => trivial)) (by with_reducible repeat (first | exact Ext.refl _ | refine Ext.alloc ?_ _ | refine Ext.drewN ?_ _ | refine Ext.trans ?_ (by assumption)))) (by omega) 0 (by rw [H2.out]; decide) (by rw [H2.out]; decide) (by rw [H2.out]; decide)).mono ?_ | refine (write_calls (fun _ => True) _ (Anew.top _) A2 1 c2 d2 (by refine BL.ext (by assumption) ?_; (with_reducible repeat (first | exact Ext.refl _ | refine Ext.alloc ?_ _ | refine Ext.drewN ?_ _ | refine Ext.trans ?_ (by assumption)))) (by omega) _ n n (List.replicate n 0) (BV.ext (OB.bv (P := fun _ => True) hO3 (fun _ _ => trivial)) (by with_reducible repeat (first | exact Ext.refl _ | refine Ext.alloc ?_ _ | refine Ext.drewN ?_ _ | refine Ext.trans ?_ (by assumption)))) (by omega) 0 (by rw [H2.out]; decide) (by rw [H2.out]; decide) (by rw [H2.out]; decide)).mono ?_); rintro e w4 ⟨A4, c4, d4, e4, rfl, H4, hb4, hE4⟩; obtain ⟨rfl, rfl⟩ : d4 = largeD n ∧ e4 = largeE n := (by have := H4.out; rw [H2.out, (large_put n).1, (large_put n).2.2] at this; exact this))))
  refine nx_done rfl trivial ?_
  try simp only [Act.put, List.setIfInBounds_toArray, List.set]
  refine run_call1 rfl ?_ run_none
  go_wp2_with (first | (go_at_call 22; go_loud ((first | refine (newP_calls' (fun k => k ≠ g5) _ (fun k hk e => (by have h1 := hk5.lt; have h2 := Nat.le_trans (Ext.size (show Ext w5 _ from (by with_reducible repeat (first | exact Ext.refl _ | refine Ext.alloc ?_ _ | refine Ext.drewN ?_ _ | refine Ext.trans ?_ (by assumption))))) hk; omega)) 1 1 rfl).mono ?_ | refine (newP_calls' (fun _ => True) _ (Anew.top _) 1 1 rfl).mono ?_); rintro e w2 ⟨A2, c2, d2, rfl, H2, hb2, hE2⟩)) | ((with_reducible (show wpList _ _ _ (⟨_, Op.makeSlice _ _ _, _, _, _, _⟩ :: _) _ _)); go_loud (refine wpList_mkB rfl _ _ _ rfl _ infoB Try.underlying22 _ _ n rfl rfl (by omega) ?_; intro g3 w3 hg3 hO3 hE3)) | (go_at_call 17; go_loud ((first | refine (write_calls (fun k => k ≠ g5) _ (fun k hk e => (by have h1 := hk5.lt; have h2 := Nat.le_trans (Ext.size (show Ext w5 _ from (by with_reducible repeat (first | exact Ext.refl _ | refine Ext.alloc ?_ _ | refine Ext.drewN ?_ _ | refine Ext.trans ?_ (by assumption))))) hk; omega)) A2 1 c2 d2 (by refine BL.ext (by assumption) ?_; (with_reducible repeat (first | exact Ext.refl _ | refine Ext.alloc ?_ _ | refine Ext.drewN ?_ _ | refine Ext.trans ?_ (by assumption)))) (by omega) _ n n (List.replicate n 0) (BV.ext (OB.bv (P := fun _ => True) hO3 (fun _ _ => trivial)) (by with_reducible repeat (first | exact Ext.refl _ | refine Ext.alloc ?_ _ | refine Ext.drewN ?_ _ | refine Ext.trans ?_ (by assumption)))) (by omega) 0 (by rw [H2.out]; decide) (by rw [H2.out]; decide) (by rw [H2.out]; decide)).mono ?_ | refine (write_calls (fun _ => True) _ (Anew.top _) A2 1 c2 d2 (by refine BL.ext (by assumption) ?_; (with_reducible repeat (first | exact Ext.refl _ | refine Ext.alloc ?_ _ | refine Ext.drewN ?_ _ | refine Ext.trans ?_ (by assumption)))) (by omega) _ n n (List.replicate n 0) (BV.ext (OB.bv (P := fun _ => True) hO3 (fun _ _ => trivial)) (by with_reducible repeat (first | exact Ext.refl _ | refine Ext.alloc ?_ _ | refine Ext.drewN ?_ _ | refine Ext.trans ?_ (by assumption)))) (by omega) 0 (by rw [H2.out]; decide) (by rw [H2.out]; decide) (by rw [H2.out]; decide)).mono ?_); rintro e w4 ⟨A4, c4, d4, e4, rfl, H4, hb4, hE4⟩; obtain ⟨rfl, rfl⟩ : d4 = largeD n ∧ e4 = largeE n := (by have := H4.out; rw [H2.out, (large_put n).1, (large_put n).2.2] at this; exact this))))
  refine nx_done rfl trivial ?_
  try simp only [Act.put, List.setIfInBounds_toArray, List.set]
  refine run_call1 rfl ?_ run_none
  go_wp2_with (first | (go_at_call 22; go_loud ((first | refine (newP_calls' (fun k => k ≠ g5) _ (fun k hk e => (by have h1 := hk5.lt; have h2 := Nat.le_trans (Ext.size (show Ext w5 _ from (by with_reducible repeat (first | exact Ext.refl _ | refine Ext.alloc ?_ _ | refine Ext.drewN ?_ _ | refine Ext.trans ?_ (by assumption))))) hk; omega)) 1 1 rfl).mono ?_ | refine (newP_calls' (fun _ => True) _ (Anew.top _) 1 1 rfl).mono ?_); rintro e w2 ⟨A2, c2, d2, rfl, H2, hb2, hE2⟩)) | ((with_reducible (show wpList _ _ _ (⟨_, Op.makeSlice _ _ _, _, _, _, _⟩ :: _) _ _)); go_loud (refine wpList_mkB rfl _ _ _ rfl _ infoB Try.underlying22 _ _ n rfl rfl (by omega) ?_; intro g3 w3 hg3 hO3 hE3)) | (go_at_call 17; go_loud ((first | refine (write_calls (fun k => k ≠ g5) _ (fun k hk e => (by have h1 := hk5.lt; have h2 := Nat.le_trans (Ext.size (show Ext w5 _ from (by with_reducible repeat (first | exact Ext.refl _ | refine Ext.alloc ?_ _ | refine Ext.drewN ?_ _ | refine Ext.trans ?_ (by assumption))))) hk; omega)) A2 1 c2 d2 (by refine BL.ext (by assumption) ?_; (with_reducible repeat (first | exact Ext.refl _ | refine Ext.alloc ?_ _ | refine Ext.drewN ?_ _ | refine Ext.trans ?_ (by assumption)))) (by omega) _ n n (List.replicate n 0) (BV.ext (OB.bv (P := fun _ => True) hO3 (fun _ _ => trivial)) (by with_reducible repeat (first | exact Ext.refl _ | refine Ext.alloc ?_ _ | refine Ext.drewN ?_ _ | refine Ext.trans ?_ (by assumption)))) (by omega) 0 (by rw [H2.out]; decide) (by rw [H2.out]; decide) (by rw [H2.out]; decide)).mono ?_ | refine (write_calls (fun _ => True) _ (Anew.top _) A2 1 c2 d2 (by refine BL.ext (by assumption) ?_; (with_reducible repeat (first | exact Ext.refl _ | refine Ext.alloc ?_ _ | refine Ext.drewN ?_ _ | refine Ext.trans ?_ (by assumption)))) (by omega) _ n n (List.replicate n 0) (BV.ext (OB.bv (P := fun _ => True) hO3 (fun _ _ => trivial)) (by with_reducible repeat (first | exact Ext.refl _ | refine Ext.alloc ?_ _ | refine Ext.drewN ?_ _ | refine Ext.trans ?_ (by assumption)))) (by omega) 0 (by rw [H2.out]; decide) (by rw [H2.out]; decide) (by rw [H2.out]; decide)).mono ?_); rintro e w4 ⟨A4, c4, d4, e4, rfl, H4, hb4, hE4⟩; obtain ⟨rfl, rfl⟩ : d4 = largeD n ∧ e4 = largeE n := (by have := H4.out; rw [H2.out, (large_put n).1, (large_put n).2.2] at this; exact this))))
  refine nx_done rfl trivial ?_
  try simp only [Act.put, List.setIfInBounds_toArray, List.set]
  apply run_read rfl
  · intro w1 hS
    go_wp2
    exact rv_done rfl rfl
  try simp only [Act.put, List.setIfInBounds_toArray, List.set]
  apply run_read rfl
  · intro w1 hS
    go_wp2
    exact rv_done rfl rfl
  try simp only [Act.put, List.setIfInBounds_toArray, List.set]
  apply run_read rfl
  · intro w1 hS
    go_wp2
    exact rv_done rfl rfl
  try simp only [Act.put, List.setIfInBounds_toArray, List.set]
  refine run_call1 rfl ?_ run_none
  ((with_reducible (show wpList _ _ _ (⟨_, Op.store _ _ _, _, _, _, _⟩ :: _) _ _)); go_loud (refine wpList_stB rfl _ _ _ rfl _ rfl rfl (by refine Blk.ext (by assumption) ?_; (with_reducible repeat (first | exact Ext.refl _ | refine Ext.alloc ?_ _ | refine Ext.drewN ?_ _ | refine Ext.trans ?_ (by assumption)))) (by kernel_rfl) (by rfl) (by simp [Value.oneCell']) ?_; intro w6 hk6 hF6))
  refine wpList_nil ?_
  refine nx_done rfl trivial ?_
  try simp only [Act.put, List.setIfInBounds_toArray, List.set]
  refine run_tail rfl ?_
  refine wpList_forget (fun w7 => Blk w7 g5 27 #[.slice A4 1 c4, .int .i64 (largeD n).wr, .int .i64 (largeD n).ct, .int .i64 (largeD n).tn, .bool (largeD n).off] ∧ BL w7 (fun k => k ≠ g5) A4 1 c4 (largeD n).areas ∧ Ext w w7 ∧ w.heap.size ≤ g5) ⟨hk6, BL.fr (BL.ext hb4 (by with_reducible repeat (first | exact Ext.refl _ | refine Ext.alloc ?_ _ | refine Ext.drewN ?_ _ | refine Ext.trans ?_ (by assumption)))) hF6, Ext.over (by with_reducible repeat (first | exact Ext.refl _ | refine Ext.alloc ?_ _ | refine Ext.drewN ?_ _ | refine Ext.trans ?_ (by assumption))) hF6 (Nat.le_trans (Ext.size (by with_reducible repeat (first | exact Ext.refl _ | refine Ext.alloc ?_ _ | refine Ext.drewN ?_ _ | refine Ext.trans ?_ (by assumption)))) hg5), Nat.le_trans (Ext.size (by with_reducible repeat (first | exact Ext.refl _ | refine Ext.alloc ?_ _ | refine Ext.drewN ?_ _ | refine Ext.trans ?_ (by assumption)))) hg5⟩ ?_
  clear hk6 hF6 hb4 hb2 hE1 hE2 hE3 hE4 hE5 hk5 hO3 hg5 H2 H4
  rintro w7 ⟨hkF, hbF, hEF, hgF⟩
  rcases hlarge with ⟨hbig, hD, hEr⟩ | ⟨hbig, hD, hEr⟩
  · rw [hD] at hkF hbF
    simp only [hEr]
    obtain ⟨bb, ob, A', n', c', rfl, hcell, hn'⟩ := BL.at0 (l := []) hbF
    simp only [List.length_nil] at hn'
    subst hn'
    obtain ⟨q0, q1, q2, q3, q4⟩ := hkF.c5
    simp only [newS] at q1
    clear hbF hkF hD hEr
    go_wp2
    go_ret
    exact ⟨rfl, hEF⟩
  · rw [hD] at hkF hbF
    simp only [hEr]
    obtain ⟨bb, ob, A', n', c', rfl, hcell, hn'⟩ := BL.at0 (l := List.replicate n 0) hbF
    simp only [List.length_replicate] at hn'
    subst hn'
    obtain ⟨q0, q1, q2, q3, q4⟩ := hkF.c5
    clear hbF hkF hD hEr
    go_wp2
    go_ret
    exact ⟨rfl, hEF⟩
set_option maxRecDepth 20000 in
set_option maxHeartbeats 2000000 in
theorem large_true (w : World) (n : Nat) (h1 : 65530 ≤ (n : Int)) (h2 : (n : Int) ≤ 65545) :
    Calls Try.prog 5 #[.int .i64 n, .bool true] w fun e w' => e = .returned (.bool true) ∧ Ext w w' := by
  have hlarge : (65536 < (n : Int) ∧ largeD n = newS 1 ∧ largeE n = 4) ∨ ((n : Int) ≤ 65536 ∧ largeD n = ⟨[List.replicate n 0], 1, 0, 0, false⟩ ∧ largeE n = 0) := by
    unfold largeD largeE
    by_cases h : 65536 < n
    · rw [if_pos h, if_pos h]; exact .inl ⟨by omega, rfl, rfl⟩
    · rw [if_neg h, if_neg h]; exact .inr ⟨by omega, rfl, rfl⟩
  go_enter Try.func5, Try.ntmps5
  go_upto_region 5 with (go_at_call 9; go_loud (refine (awake_calls w).mono ?_; rintro e w1 ⟨rfl, hE1⟩))
  refine wp_region_planG (fun _ _ => True) (.read 1 (.call false 0 (.call false 2 (.call true 3 (.read 4 (.read 5 (.read 6 (.call false 7 (.call false 8 .tail .none) .none)))) (.call false 7 (.call false 3 (.read 4 (.read 5 (.read 6 (.call false 8 .tail .none)))) .none) .none)) (.call false 7 (.call false 2 (.call false 3 (.read 4 (.read 5 (.read 6 (.call false 8 .tail .none)))) .none) .none) .none)) (.call true 2 (.call false 0 (.call true 3 (.read 4 (.read 5 (.read 6 (.call false 7 (.call false 8 .tail .none) .none)))) (.call false 7 (.call false 3 (.read 4 (.read 5 (.read 6 (.call false 8 .tail .none)))) .none) .none)) (.call false 7 (.call false 0 (.call false 3 (.read 4 (.read 5 (.read 6 (.call false 8 .tail .none)))) .none) .none) .none)) (.call false 7 (.call false 0 (.call false 2 (.call false 3 (.read 4 (.read 5 (.read 6 (.call false 8 .tail .none)))) .none) .none) (.call false 2 (.call false 0 (.call false 3 (.read 4 (.read 5 (.read 6 (.call false 8 .tail .none)))) .none) .none) .none)) .none)))) 9 (by kernel_rfl) (by kernel_rfl) (by kernel_rfl) (fun _ => trivial) (fun _ _ _ _ _ => trivial) Ext (Ext.drew (Ext.refl _)) (fun wR hR => ?_)
  apply run_read rfl
  · intro w1 hS
    go_wp2
    exact rv_done rfl rfl
  try simp only [Act.put, List.setIfInBounds_toArray, List.set]
  refine run_call1 rfl ?_ ?_
  · go_wp2_with (first | (go_at_call 22; go_loud ((first | refine (newP_calls' (fun k => k ≠ g5) _ (fun k hk e => (by have h1 := hk5.lt; have h2 := Nat.le_trans (Ext.size (show Ext w5 _ from (by with_reducible repeat (first | exact Ext.refl _ | refine Ext.alloc ?_ _ | refine Ext.drewN ?_ _ | refine Ext.trans ?_ (by assumption))))) hk; omega)) 1 1 rfl).mono ?_ | refine (newP_calls' (fun _ => True) _ (Anew.top _) 1 1 rfl).mono ?_); rintro e w2 ⟨A2, c2, d2, rfl, H2, hb2, hE2⟩)) | ((with_reducible (show wpList _ _ _ (⟨_, Op.makeSlice _ _ _, _, _, _, _⟩ :: _) _ _)); go_loud (refine wpList_mkB rfl _ _ _ rfl _ infoB Try.underlying22 _ _ n rfl rfl (by omega) ?_; intro g3 w3 hg3 hO3 hE3)) | (go_at_call 17; go_loud ((first | refine (write_calls (fun k => k ≠ g5) _ (fun k hk e => (by have h1 := hk5.lt; have h2 := Nat.le_trans (Ext.size (show Ext w5 _ from (by with_reducible repeat (first | exact Ext.refl _ | refine Ext.alloc ?_ _ | refine Ext.drewN ?_ _ | refine Ext.trans ?_ (by assumption))))) hk; omega)) A2 1 c2 d2 (by refine BL.ext (by assumption) ?_; (with_reducible repeat (first | exact Ext.refl _ | refine Ext.alloc ?_ _ | refine Ext.drewN ?_ _ | refine Ext.trans ?_ (by assumption)))) (by omega) _ n n (List.replicate n 0) (BV.ext (OB.bv (P := fun _ => True) hO3 (fun _ _ => trivial)) (by with_reducible repeat (first | exact Ext.refl _ | refine Ext.alloc ?_ _ | refine Ext.drewN ?_ _ | refine Ext.trans ?_ (by assumption)))) (by omega) 0 (by rw [H2.out]; decide) (by rw [H2.out]; decide) (by rw [H2.out]; decide)).mono ?_ | refine (write_calls (fun _ => True) _ (Anew.top _) A2 1 c2 d2 (by refine BL.ext (by assumption) ?_; (with_reducible repeat (first | exact Ext.refl _ | refine Ext.alloc ?_ _ | refine Ext.drewN ?_ _ | refine Ext.trans ?_ (by assumption)))) (by omega) _ n n (List.replicate n 0) (BV.ext (OB.bv (P := fun _ => True) hO3 (fun _ _ => trivial)) (by with_reducible repeat (first | exact Ext.refl _ | refine Ext.alloc ?_ _ | refine Ext.drewN ?_ _ | refine Ext.trans ?_ (by assumption)))) (by omega) 0 (by rw [H2.out]; decide) (by rw [H2.out]; decide) (by rw [H2.out]; decide)).mono ?_); rintro e w4 ⟨A4, c4, d4, e4, rfl, H4, hb4, hE4⟩; obtain ⟨rfl, rfl⟩ : d4 = largeD n ∧ e4 = largeE n := (by have := H4.out; rw [H2.out, (large_put n).1, (large_put n).2.2] at this; exact this))))
    refine nx_done rfl trivial ?_
    try simp only [Act.put, List.setIfInBounds_toArray, List.set]
    refine run_call1 rfl ?_ ?_
    · go_wp2_with (first | (go_at_call 22; go_loud ((first | refine (newP_calls' (fun k => k ≠ g5) _ (fun k hk e => (by have h1 := hk5.lt; have h2 := Nat.le_trans (Ext.size (show Ext w5 _ from (by with_reducible repeat (first | exact Ext.refl _ | refine Ext.alloc ?_ _ | refine Ext.drewN ?_ _ | refine Ext.trans ?_ (by assumption))))) hk; omega)) 1 1 rfl).mono ?_ | refine (newP_calls' (fun _ => True) _ (Anew.top _) 1 1 rfl).mono ?_); rintro e w2 ⟨A2, c2, d2, rfl, H2, hb2, hE2⟩)) | ((with_reducible (show wpList _ _ _ (⟨_, Op.makeSlice _ _ _, _, _, _, _⟩ :: _) _ _)); go_loud (refine wpList_mkB rfl _ _ _ rfl _ infoB Try.underlying22 _ _ n rfl rfl (by omega) ?_; intro g3 w3 hg3 hO3 hE3)) | (go_at_call 17; go_loud ((first | refine (write_calls (fun k => k ≠ g5) _ (fun k hk e => (by have h1 := hk5.lt; have h2 := Nat.le_trans (Ext.size (show Ext w5 _ from (by with_reducible repeat (first | exact Ext.refl _ | refine Ext.alloc ?_ _ | refine Ext.drewN ?_ _ | refine Ext.trans ?_ (by assumption))))) hk; omega)) A2 1 c2 d2 (by refine BL.ext (by assumption) ?_; (with_reducible repeat (first | exact Ext.refl _ | refine Ext.alloc ?_ _ | refine Ext.drewN ?_ _ | refine Ext.trans ?_ (by assumption)))) (by omega) _ n n (List.replicate n 0) (BV.ext (OB.bv (P := fun _ => True) hO3 (fun _ _ => trivial)) (by with_reducible repeat (first | exact Ext.refl _ | refine Ext.alloc ?_ _ | refine Ext.drewN ?_ _ | refine Ext.trans ?_ (by assumption)))) (by omega) 0 (by rw [H2.out]; decide) (by rw [H2.out]; decide) (by rw [H2.out]; decide)).mono ?_ | refine (write_calls (fun _ => True) _ (Anew.top _) A2 1 c2 d2 (by refine BL.ext (by assumption) ?_; (with_reducible repeat (first | exact Ext.refl _ | refine Ext.alloc ?_ _ | refine Ext.drewN ?_ _ | refine Ext.trans ?_ (by assumption)))) (by omega) _ n n (List.replicate n 0) (BV.ext (OB.bv (P := fun _ => True) hO3 (fun _ _ => trivial)) (by with_reducible repeat (first | exact Ext.refl _ | refine Ext.alloc ?_ _ | refine Ext.drewN ?_ _ | refine Ext.trans ?_ (by assumption)))) (by omega) 0 (by rw [H2.out]; decide) (by rw [H2.out]; decide) (by rw [H2.out]; decide)).mono ?_); rintro e w4 ⟨A4, c4, d4, e4, rfl, H4, hb4, hE4⟩; obtain ⟨rfl, rfl⟩ : d4 = largeD n ∧ e4 = largeE n := (by have := H4.out; rw [H2.out, (large_put n).1, (large_put n).2.2] at this; exact this))))
      refine nx_done rfl trivial ?_
      try simp only [Act.put, List.setIfInBounds_toArray, List.set]
      refine run_free rfl ?_ ?_
      · go_wp2_with (first | (go_at_call 22; go_loud ((first | refine (newP_calls' (fun k => k ≠ g5) _ (fun k hk e => (by have h1 := hk5.lt; have h2 := Nat.le_trans (Ext.size (show Ext w5 _ from (by with_reducible repeat (first | exact Ext.refl _ | refine Ext.alloc ?_ _ | refine Ext.drewN ?_ _ | refine Ext.trans ?_ (by assumption))))) hk; omega)) 1 1 rfl).mono ?_ | refine (newP_calls' (fun _ => True) _ (Anew.top _) 1 1 rfl).mono ?_); rintro e w2 ⟨A2, c2, d2, rfl, H2, hb2, hE2⟩)) | ((with_reducible (show wpList _ _ _ (⟨_, Op.makeSlice _ _ _, _, _, _, _⟩ :: _) _ _)); go_loud (refine wpList_mkB rfl _ _ _ rfl _ infoB Try.underlying22 _ _ n rfl rfl (by omega) ?_; intro g3 w3 hg3 hO3 hE3)) | (go_at_call 17; go_loud ((first | refine (write_calls (fun k => k ≠ g5) _ (fun k hk e => (by have h1 := hk5.lt; have h2 := Nat.le_trans (Ext.size (show Ext w5 _ from (by with_reducible repeat (first | exact Ext.refl _ | refine Ext.alloc ?_ _ | refine Ext.drewN ?_ _ | refine Ext.trans ?_ (by assumption))))) hk; omega)) A2 1 c2 d2 (by refine BL.ext (by assumption) ?_; (with_reducible repeat (first | exact Ext.refl _ | refine Ext.alloc ?_ _ | refine Ext.drewN ?_ _ | refine Ext.trans ?_ (by assumption)))) (by omega) _ n n (List.replicate n 0) (BV.ext (OB.bv (P := fun _ => True) hO3 (fun _ _ => trivial)) (by with_reducible repeat (first | exact Ext.refl _ | refine Ext.alloc ?_ _ | refine Ext.drewN ?_ _ | refine Ext.trans ?_ (by assumption)))) (by omega) 0 (by rw [H2.out]; decide) (by rw [H2.out]; decide) (by rw [H2.out]; decide)).mono ?_ | refine (write_calls (fun _ => True) _ (Anew.top _) A2 1 c2 d2 (by refine BL.ext (by assumption) ?_; (with_reducible repeat (first | exact Ext.refl _ | refine Ext.alloc ?_ _ | refine Ext.drewN ?_ _ | refine Ext.trans ?_ (by assumption)))) (by omega) _ n n (List.replicate n 0) (BV.ext (OB.bv (P := fun _ => True) hO3 (fun _ _ => trivial)) (by with_reducible repeat (first | exact Ext.refl _ | refine Ext.alloc ?_ _ | refine Ext.drewN ?_ _ | refine Ext.trans ?_ (by assumption)))) (by omega) 0 (by rw [H2.out]; decide) (by rw [H2.out]; decide) (by rw [H2.out]; decide)).mono ?_); rintro e w4 ⟨A4, c4, d4, e4, rfl, H4, hb4, hE4⟩; obtain ⟨rfl, rfl⟩ : d4 = largeD n ∧ e4 = largeE n := (by have := H4.out; rw [H2.out, (large_put n).1, (large_put n).2.2] at this; exact this))))
        refine nx_done rfl trivial ?_
        try simp only [Act.put, List.setIfInBounds_toArray, List.set]
        apply run_read rfl
        · intro w1 hS
          go_wp2
          exact rv_done rfl rfl
        try simp only [Act.put, List.setIfInBounds_toArray, List.set]
        apply run_read rfl
        · intro w1 hS
          go_wp2
          exact rv_done rfl rfl
        try simp only [Act.put, List.setIfInBounds_toArray, List.set]
        apply run_read rfl
        · intro w1 hS
          go_wp2
          exact rv_done rfl rfl
        try simp only [Act.put, List.setIfInBounds_toArray, List.set]
        refine run_call1 rfl ?_ run_none
        ((with_reducible (show wpList _ _ _ (⟨_, Op.alloc _, _, _, _, _⟩ :: _) _ _)); go_loud (refine wpList_alB (.agg #[.slice none 0 0, .int .i64 0, .int .i64 0, .int .i64 0, .bool false]) rfl _ rfl (by kernel_rfl) rfl ?_; intro g5 w5 hg5 hk5 hE5))
        refine wpList_nil ?_
        refine nx_done rfl trivial ?_
        try simp only [Act.put, List.setIfInBounds_toArray, List.set]
        try replace hb2 := BL.off hb2 (g := g5) (Nat.le_trans (Ext.size (by with_reducible repeat (first | exact Ext.refl _ | refine Ext.alloc ?_ _ | refine Ext.drewN ?_ _ | refine Ext.trans ?_ (by assumption)))) hg5)
        try replace hb4 := BL.off hb4 (g := g5) (Nat.le_trans (Ext.size (by with_reducible repeat (first | exact Ext.refl _ | refine Ext.alloc ?_ _ | refine Ext.drewN ?_ _ | refine Ext.trans ?_ (by assumption)))) hg5)
        refine run_call1 rfl ?_ run_none
        ((with_reducible (show wpList _ _ _ (⟨_, Op.store _ _ _, _, _, _, _⟩ :: _) _ _)); go_loud (refine wpList_stB rfl _ _ _ rfl _ rfl rfl (by refine Blk.ext (by assumption) ?_; (with_reducible repeat (first | exact Ext.refl _ | refine Ext.alloc ?_ _ | refine Ext.drewN ?_ _ | refine Ext.trans ?_ (by assumption)))) (by kernel_rfl) (by rfl) (by simp [Value.oneCell']) ?_; intro w6 hk6 hF6))
        refine wpList_nil ?_
        refine nx_done rfl trivial ?_
        try simp only [Act.put, List.setIfInBounds_toArray, List.set]
        refine run_tail rfl ?_
        refine wpList_forget (fun w7 => Blk w7 g5 27 #[.slice A4 1 c4, .int .i64 (largeD n).wr, .int .i64 (largeD n).ct, .int .i64 (largeD n).tn, .bool (largeD n).off] ∧ BL w7 (fun k => k ≠ g5) A4 1 c4 (largeD n).areas ∧ Ext w w7 ∧ w.heap.size ≤ g5) ⟨hk6, BL.fr (BL.ext hb4 (by with_reducible repeat (first | exact Ext.refl _ | refine Ext.alloc ?_ _ | refine Ext.drewN ?_ _ | refine Ext.trans ?_ (by assumption)))) hF6, Ext.over (by with_reducible repeat (first | exact Ext.refl _ | refine Ext.alloc ?_ _ | refine Ext.drewN ?_ _ | refine Ext.trans ?_ (by assumption))) hF6 (Nat.le_trans (Ext.size (by with_reducible repeat (first | exact Ext.refl _ | refine Ext.alloc ?_ _ | refine Ext.drewN ?_ _ | refine Ext.trans ?_ (by assumption)))) hg5), Nat.le_trans (Ext.size (by with_reducible repeat (first | exact Ext.refl _ | refine Ext.alloc ?_ _ | refine Ext.drewN ?_ _ | refine Ext.trans ?_ (by assumption)))) hg5⟩ ?_
        clear hk6 hF6 hb4 hb2 hE1 hE2 hE3 hE4 hE5 hk5 hO3 hg5 H2 H4
        rintro w7 ⟨hkF, hbF, hEF, hgF⟩
        go_upto_region 7 with fail
        refine wp_region_planG (fun _ _ => True) (.read 1 (.call false 0 (.call false 2 (.call true 3 (.read 4 (.read 5 (.read 6 (.call false 7 .tail .none)))) .none) .none) (.call true 2 (.call false 0 (.call true 3 (.read 4 (.read 5 (.read 6 (.call false 7 .tail .none)))) .none) .none) .none))) 8 (by kernel_rfl) (by kernel_rfl) (by kernel_rfl) (fun _ => trivial) (fun _ _ _ _ _ => trivial) Ext (Ext.drew (Ext.refl _)) (fun wR hR => ?_)
        apply run_read rfl
        · intro w1 hS
          go_wp2
          exact rv_done rfl rfl
        try simp only [Act.put, List.setIfInBounds_toArray, List.set]
        refine run_call1 rfl ?_ ?_
        · go_wp2_with (first | (go_at_call 22; go_loud (refine (newP_calls' (fun k => k ≠ g5) _ (fun k hk e => (by have h1 := hkF.lt; have h2 := Nat.le_trans (Ext.size (show Ext w7 _ from (by with_reducible repeat (first | exact Ext.refl _ | refine Ext.alloc ?_ _ | refine Ext.drewN ?_ _ | refine Ext.trans ?_ (by assumption))))) hk; omega)) 1 1 rfl).mono ?_; rintro e w2 ⟨A2, c2, d2, rfl, H2, hb2, hE2⟩)) | ((with_reducible (show wpList _ _ _ (⟨_, Op.makeSlice _ _ _, _, _, _, _⟩ :: _) _ _)); go_loud (refine wpList_mkB rfl _ _ _ rfl _ infoB Try.underlying22 _ _ n rfl rfl (by omega) ?_; intro g3 w3 hg3 hO3 hE3)) | (go_at_call 19; go_loud (refine (append_calls (fun k => k ≠ g5) _ (fun k hk e => (by have h1 := hkF.lt; have h2 := Nat.le_trans (Ext.size (show Ext w7 _ from (by with_reducible repeat (first | exact Ext.refl _ | refine Ext.alloc ?_ _ | refine Ext.drewN ?_ _ | refine Ext.trans ?_ (by assumption))))) hk; omega)) A2 1 c2 d2 (by refine BL.ext (by assumption) ?_; (with_reducible repeat (first | exact Ext.refl _ | refine Ext.alloc ?_ _ | refine Ext.drewN ?_ _ | refine Ext.trans ?_ (by assumption)))) (by omega) _ n n (List.replicate n 0) (BV.ext (OB.bv (P := fun _ => True) hO3 (fun _ _ => trivial)) (by with_reducible repeat (first | exact Ext.refl _ | refine Ext.alloc ?_ _ | refine Ext.drewN ?_ _ | refine Ext.trans ?_ (by assumption)))) (by omega) 0 (by rw [H2.out]; decide) (by rw [H2.out]; decide) (by rw [H2.out]; decide)).mono ?_; rintro e w4 ⟨A5, c5, d5, e5, rfl, H5, hb5, hE5⟩; obtain ⟨rfl, rfl⟩ : d5 = largeD n ∧ e5 = largeE n := (by have := H5.out; rw [H2.out, (large_put n).2.1, (large_put n).2.2] at this; exact this))))
          refine nx_done rfl trivial ?_
          try simp only [Act.put, List.setIfInBounds_toArray, List.set]
          refine run_call1 rfl ?_ run_none
          go_wp2_with (first | (go_at_call 22; go_loud (refine (newP_calls' (fun k => k ≠ g5) _ (fun k hk e => (by have h1 := hkF.lt; have h2 := Nat.le_trans (Ext.size (show Ext w7 _ from (by with_reducible repeat (first | exact Ext.refl _ | refine Ext.alloc ?_ _ | refine Ext.drewN ?_ _ | refine Ext.trans ?_ (by assumption))))) hk; omega)) 1 1 rfl).mono ?_; rintro e w2 ⟨A2, c2, d2, rfl, H2, hb2, hE2⟩)) | ((with_reducible (show wpList _ _ _ (⟨_, Op.makeSlice _ _ _, _, _, _, _⟩ :: _) _ _)); go_loud (refine wpList_mkB rfl _ _ _ rfl _ infoB Try.underlying22 _ _ n rfl rfl (by omega) ?_; intro g3 w3 hg3 hO3 hE3)) | (go_at_call 19; go_loud (refine (append_calls (fun k => k ≠ g5) _ (fun k hk e => (by have h1 := hkF.lt; have h2 := Nat.le_trans (Ext.size (show Ext w7 _ from (by with_reducible repeat (first | exact Ext.refl _ | refine Ext.alloc ?_ _ | refine Ext.drewN ?_ _ | refine Ext.trans ?_ (by assumption))))) hk; omega)) A2 1 c2 d2 (by refine BL.ext (by assumption) ?_; (with_reducible repeat (first | exact Ext.refl _ | refine Ext.alloc ?_ _ | refine Ext.drewN ?_ _ | refine Ext.trans ?_ (by assumption)))) (by omega) _ n n (List.replicate n 0) (BV.ext (OB.bv (P := fun _ => True) hO3 (fun _ _ => trivial)) (by with_reducible repeat (first | exact Ext.refl _ | refine Ext.alloc ?_ _ | refine Ext.drewN ?_ _ | refine Ext.trans ?_ (by assumption)))) (by omega) 0 (by rw [H2.out]; decide) (by rw [H2.out]; decide) (by rw [H2.out]; decide)).mono ?_; rintro e w4 ⟨A5, c5, d5, e5, rfl, H5, hb5, hE5⟩; obtain ⟨rfl, rfl⟩ : d5 = largeD n ∧ e5 = largeE n := (by have := H5.out; rw [H2.out, (large_put n).2.1, (large_put n).2.2] at this; exact this))))
          refine nx_done rfl trivial ?_
          try simp only [Act.put, List.setIfInBounds_toArray, List.set]
          refine run_free rfl ?_ run_none
          go_wp2_with (first | (go_at_call 22; go_loud (refine (newP_calls' (fun k => k ≠ g5) _ (fun k hk e => (by have h1 := hkF.lt; have h2 := Nat.le_trans (Ext.size (show Ext w7 _ from (by with_reducible repeat (first | exact Ext.refl _ | refine Ext.alloc ?_ _ | refine Ext.drewN ?_ _ | refine Ext.trans ?_ (by assumption))))) hk; omega)) 1 1 rfl).mono ?_; rintro e w2 ⟨A2, c2, d2, rfl, H2, hb2, hE2⟩)) | ((with_reducible (show wpList _ _ _ (⟨_, Op.makeSlice _ _ _, _, _, _, _⟩ :: _) _ _)); go_loud (refine wpList_mkB rfl _ _ _ rfl _ infoB Try.underlying22 _ _ n rfl rfl (by omega) ?_; intro g3 w3 hg3 hO3 hE3)) | (go_at_call 19; go_loud (refine (append_calls (fun k => k ≠ g5) _ (fun k hk e => (by have h1 := hkF.lt; have h2 := Nat.le_trans (Ext.size (show Ext w7 _ from (by with_reducible repeat (first | exact Ext.refl _ | refine Ext.alloc ?_ _ | refine Ext.drewN ?_ _ | refine Ext.trans ?_ (by assumption))))) hk; omega)) A2 1 c2 d2 (by refine BL.ext (by assumption) ?_; (with_reducible repeat (first | exact Ext.refl _ | refine Ext.alloc ?_ _ | refine Ext.drewN ?_ _ | refine Ext.trans ?_ (by assumption)))) (by omega) _ n n (List.replicate n 0) (BV.ext (OB.bv (P := fun _ => True) hO3 (fun _ _ => trivial)) (by with_reducible repeat (first | exact Ext.refl _ | refine Ext.alloc ?_ _ | refine Ext.drewN ?_ _ | refine Ext.trans ?_ (by assumption)))) (by omega) 0 (by rw [H2.out]; decide) (by rw [H2.out]; decide) (by rw [H2.out]; decide)).mono ?_; rintro e w4 ⟨A5, c5, d5, e5, rfl, H5, hb5, hE5⟩; obtain ⟨rfl, rfl⟩ : d5 = largeD n ∧ e5 = largeE n := (by have := H5.out; rw [H2.out, (large_put n).2.1, (large_put n).2.2] at this; exact this))))
          refine nx_done rfl trivial ?_
          try simp only [Act.put, List.setIfInBounds_toArray, List.set]
          apply run_read rfl
          · intro w1 hS
            go_wp2
            exact rv_done rfl rfl
          try simp only [Act.put, List.setIfInBounds_toArray, List.set]
          apply run_read rfl
          · intro w1 hS
            go_wp2
            exact rv_done rfl rfl
          try simp only [Act.put, List.setIfInBounds_toArray, List.set]
          apply run_read rfl
          · intro w1 hS
            go_wp2
            exact rv_done rfl rfl
          try simp only [Act.put, List.setIfInBounds_toArray, List.set]
          refine run_call1 rfl ?_ run_none
          ((with_reducible (show wpList _ _ _ (⟨_, Op.store _ _ _, _, _, _, _⟩ :: _) _ _)); go_loud (refine wpList_stB rfl _ _ _ rfl _ rfl rfl (by refine Blk.ext (by assumption) ?_; (with_reducible repeat (first | exact Ext.refl _ | refine Ext.alloc ?_ _ | refine Ext.drewN ?_ _ | refine Ext.trans ?_ (by assumption)))) (by kernel_rfl) (by rfl) (by simp [Value.oneCell']) ?_; intro w6 hk6 hF6))
          refine wpList_nil ?_
          refine nx_done rfl trivial ?_
          try simp only [Act.put, List.setIfInBounds_toArray, List.set]
          refine run_tail rfl ?_
          refine wpList_forget (fun w8 => Blk w8 g5 27 #[.slice A5 1 c5, .int .i64 (largeD n).wr, .int .i64 (largeD n).ct, .int .i64 (largeD n).tn, .bool (largeD n).off] ∧ BL w8 (fun k => k ≠ g5) A5 1 c5 (largeD n).areas ∧ Ext w w8) ⟨hk6, BL.fr (BL.ext hb5 (by with_reducible repeat (first | exact Ext.refl _ | refine Ext.alloc ?_ _ | refine Ext.drewN ?_ _ | refine Ext.trans ?_ (by assumption)))) hF6, Ext.over (hEF.trans (by with_reducible repeat (first | exact Ext.refl _ | refine Ext.alloc ?_ _ | refine Ext.drewN ?_ _ | refine Ext.trans ?_ (by assumption)))) hF6 hgF⟩ ?_
          clear hk6 hF6 hb5 hb2 hE2 hE3 hO3 hE5 H2 H5 hkF hbF hEF
          rintro w8 ⟨hkF, hbF, hEF⟩
          rcases hlarge with ⟨hbig, hD, hEr⟩ | ⟨hbig, hD, hEr⟩
          · rw [hD] at hkF hbF
            simp only [hEr]
            obtain ⟨bb, ob, A', n', c', rfl, hcell, hn'⟩ := BL.at0 (l := []) hbF
            simp only [List.length_nil] at hn'
            subst hn'
            obtain ⟨q0, q1, q2, q3, q4⟩ := hkF.c5
            simp only [newS] at q1
            clear hbF hkF hD hEr
            go_wp2
            go_ret
            exact ⟨rfl, hEF⟩
          · rw [hD] at hkF hbF
            simp only [hEr]
            obtain ⟨bb, ob, A', n', c', rfl, hcell, hn'⟩ := BL.at0 (l := List.replicate n 0) hbF
            simp only [List.length_replicate] at hn'
            subst hn'
            obtain ⟨q0, q1, q2, q3, q4⟩ := hkF.c5
            clear hbF hkF hD hEr
            go_wp2
            go_ret
            exact ⟨rfl, hEF⟩
        refine run_free rfl ?_ run_none
        go_wp2_with (first | (go_at_call 22; go_loud (refine (newP_calls' (fun k => k ≠ g5) _ (fun k hk e => (by have h1 := hkF.lt; have h2 := Nat.le_trans (Ext.size (show Ext w7 _ from (by with_reducible repeat (first | exact Ext.refl _ | refine Ext.alloc ?_ _ | refine Ext.drewN ?_ _ | refine Ext.trans ?_ (by assumption))))) hk; omega)) 1 1 rfl).mono ?_; rintro e w2 ⟨A2, c2, d2, rfl, H2, hb2, hE2⟩)) | ((with_reducible (show wpList _ _ _ (⟨_, Op.makeSlice _ _ _, _, _, _, _⟩ :: _) _ _)); go_loud (refine wpList_mkB rfl _ _ _ rfl _ infoB Try.underlying22 _ _ n rfl rfl (by omega) ?_; intro g3 w3 hg3 hO3 hE3)) | (go_at_call 19; go_loud (refine (append_calls (fun k => k ≠ g5) _ (fun k hk e => (by have h1 := hkF.lt; have h2 := Nat.le_trans (Ext.size (show Ext w7 _ from (by with_reducible repeat (first | exact Ext.refl _ | refine Ext.alloc ?_ _ | refine Ext.drewN ?_ _ | refine Ext.trans ?_ (by assumption))))) hk; omega)) A2 1 c2 d2 (by refine BL.ext (by assumption) ?_; (with_reducible repeat (first | exact Ext.refl _ | refine Ext.alloc ?_ _ | refine Ext.drewN ?_ _ | refine Ext.trans ?_ (by assumption)))) (by omega) _ n n (List.replicate n 0) (BV.ext (OB.bv (P := fun _ => True) hO3 (fun _ _ => trivial)) (by with_reducible repeat (first | exact Ext.refl _ | refine Ext.alloc ?_ _ | refine Ext.drewN ?_ _ | refine Ext.trans ?_ (by assumption)))) (by omega) 0 (by rw [H2.out]; decide) (by rw [H2.out]; decide) (by rw [H2.out]; decide)).mono ?_; rintro e w4 ⟨A5, c5, d5, e5, rfl, H5, hb5, hE5⟩; obtain ⟨rfl, rfl⟩ : d5 = largeD n ∧ e5 = largeE n := (by have := H5.out; rw [H2.out, (large_put n).2.1, (large_put n).2.2] at this; exact this))))
        refine nx_done rfl trivial ?_
        try simp only [Act.put, List.setIfInBounds_toArray, List.set]
        refine run_call1 rfl ?_ run_none
        go_wp2_with (first | (go_at_call 22; go_loud (refine (newP_calls' (fun k => k ≠ g5) _ (fun k hk e => (by have h1 := hkF.lt; have h2 := Nat.le_trans (Ext.size (show Ext w7 _ from (by with_reducible repeat (first | exact Ext.refl _ | refine Ext.alloc ?_ _ | refine Ext.drewN ?_ _ | refine Ext.trans ?_ (by assumption))))) hk; omega)) 1 1 rfl).mono ?_; rintro e w2 ⟨A2, c2, d2, rfl, H2, hb2, hE2⟩)) | ((with_reducible (show wpList _ _ _ (⟨_, Op.makeSlice _ _ _, _, _, _, _⟩ :: _) _ _)); go_loud (refine wpList_mkB rfl _ _ _ rfl _ infoB Try.underlying22 _ _ n rfl rfl (by omega) ?_; intro g3 w3 hg3 hO3 hE3)) | (go_at_call 19; go_loud (refine (append_calls (fun k => k ≠ g5) _ (fun k hk e => (by have h1 := hkF.lt; have h2 := Nat.le_trans (Ext.size (show Ext w7 _ from (by with_reducible repeat (first | exact Ext.refl _ | refine Ext.alloc ?_ _ | refine Ext.drewN ?_ _ | refine Ext.trans ?_ (by assumption))))) hk; omega)) A2 1 c2 d2 (by refine BL.ext (by assumption) ?_; (with_reducible repeat (first | exact Ext.refl _ | refine Ext.alloc ?_ _ | refine Ext.drewN ?_ _ | refine Ext.trans ?_ (by assumption)))) (by omega) _ n n (List.replicate n 0) (BV.ext (OB.bv (P := fun _ => True) hO3 (fun _ _ => trivial)) (by with_reducible repeat (first | exact Ext.refl _ | refine Ext.alloc ?_ _ | refine Ext.drewN ?_ _ | refine Ext.trans ?_ (by assumption)))) (by omega) 0 (by rw [H2.out]; decide) (by rw [H2.out]; decide) (by rw [H2.out]; decide)).mono ?_; rintro e w4 ⟨A5, c5, d5, e5, rfl, H5, hb5, hE5⟩; obtain ⟨rfl, rfl⟩ : d5 = largeD n ∧ e5 = largeE n := (by have := H5.out; rw [H2.out, (large_put n).2.1, (large_put n).2.2] at this; exact this))))
        refine nx_done rfl trivial ?_
        try simp only [Act.put, List.setIfInBounds_toArray, List.set]
        refine run_free rfl ?_ run_none
        go_wp2_with (first | (go_at_call 22; go_loud (refine (newP_calls' (fun k => k ≠ g5) _ (fun k hk e => (by have h1 := hkF.lt; have h2 := Nat.le_trans (Ext.size (show Ext w7 _ from (by with_reducible repeat (first | exact Ext.refl _ | refine Ext.alloc ?_ _ | refine Ext.drewN ?_ _ | refine Ext.trans ?_ (by assumption))))) hk; omega)) 1 1 rfl).mono ?_; rintro e w2 ⟨A2, c2, d2, rfl, H2, hb2, hE2⟩)) | ((with_reducible (show wpList _ _ _ (⟨_, Op.makeSlice _ _ _, _, _, _, _⟩ :: _) _ _)); go_loud (refine wpList_mkB rfl _ _ _ rfl _ infoB Try.underlying22 _ _ n rfl rfl (by omega) ?_; intro g3 w3 hg3 hO3 hE3)) | (go_at_call 19; go_loud (refine (append_calls (fun k => k ≠ g5) _ (fun k hk e => (by have h1 := hkF.lt; have h2 := Nat.le_trans (Ext.size (show Ext w7 _ from (by with_reducible repeat (first | exact Ext.refl _ | refine Ext.alloc ?_ _ | refine Ext.drewN ?_ _ | refine Ext.trans ?_ (by assumption))))) hk; omega)) A2 1 c2 d2 (by refine BL.ext (by assumption) ?_; (with_reducible repeat (first | exact Ext.refl _ | refine Ext.alloc ?_ _ | refine Ext.drewN ?_ _ | refine Ext.trans ?_ (by assumption)))) (by omega) _ n n (List.replicate n 0) (BV.ext (OB.bv (P := fun _ => True) hO3 (fun _ _ => trivial)) (by with_reducible repeat (first | exact Ext.refl _ | refine Ext.alloc ?_ _ | refine Ext.drewN ?_ _ | refine Ext.trans ?_ (by assumption)))) (by omega) 0 (by rw [H2.out]; decide) (by rw [H2.out]; decide) (by rw [H2.out]; decide)).mono ?_; rintro e w4 ⟨A5, c5, d5, e5, rfl, H5, hb5, hE5⟩; obtain ⟨rfl, rfl⟩ : d5 = largeD n ∧ e5 = largeE n := (by have := H5.out; rw [H2.out, (large_put n).2.1, (large_put n).2.2] at this; exact this))))
        refine nx_done rfl trivial ?_
        try simp only [Act.put, List.setIfInBounds_toArray, List.set]
        apply run_read rfl
        · intro w1 hS
          go_wp2
          exact rv_done rfl rfl
        try simp only [Act.put, List.setIfInBounds_toArray, List.set]
        apply run_read rfl
        · intro w1 hS
          go_wp2
          exact rv_done rfl rfl
        try simp only [Act.put, List.setIfInBounds_toArray, List.set]
        apply run_read rfl
        · intro w1 hS
          go_wp2
          exact rv_done rfl rfl
        try simp only [Act.put, List.setIfInBounds_toArray, List.set]
        refine run_call1 rfl ?_ run_none
        ((with_reducible (show wpList _ _ _ (⟨_, Op.store _ _ _, _, _, _, _⟩ :: _) _ _)); go_loud (refine wpList_stB rfl _ _ _ rfl _ rfl rfl (by refine Blk.ext (by assumption) ?_; (with_reducible repeat (first | exact Ext.refl _ | refine Ext.alloc ?_ _ | refine Ext.drewN ?_ _ | refine Ext.trans ?_ (by assumption)))) (by kernel_rfl) (by rfl) (by simp [Value.oneCell']) ?_; intro w6 hk6 hF6))
        refine wpList_nil ?_
        refine nx_done rfl trivial ?_
        try simp only [Act.put, List.setIfInBounds_toArray, List.set]
        refine run_tail rfl ?_
        refine wpList_forget (fun w8 => Blk w8 g5 27 #[.slice A5 1 c5, .int .i64 (largeD n).wr, .int .i64 (largeD n).ct, .int .i64 (largeD n).tn, .bool (largeD n).off] ∧ BL w8 (fun k => k ≠ g5) A5 1 c5 (largeD n).areas ∧ Ext w w8) ⟨hk6, BL.fr (BL.ext hb5 (by with_reducible repeat (first | exact Ext.refl _ | refine Ext.alloc ?_ _ | refine Ext.drewN ?_ _ | refine Ext.trans ?_ (by assumption)))) hF6, Ext.over (hEF.trans (by with_reducible repeat (first | exact Ext.refl _ | refine Ext.alloc ?_ _ | refine Ext.drewN ?_ _ | refine Ext.trans ?_ (by assumption)))) hF6 hgF⟩ ?_
        clear hk6 hF6 hb5 hb2 hE2 hE3 hO3 hE5 H2 H5 hkF hbF hEF
        rintro w8 ⟨hkF, hbF, hEF⟩
        rcases hlarge with ⟨hbig, hD, hEr⟩ | ⟨hbig, hD, hEr⟩
        · rw [hD] at hkF hbF
          simp only [hEr]
          obtain ⟨bb, ob, A', n', c', rfl, hcell, hn'⟩ := BL.at0 (l := []) hbF
          simp only [List.length_nil] at hn'
          subst hn'
          obtain ⟨q0, q1, q2, q3, q4⟩ := hkF.c5
          simp only [newS] at q1
          clear hbF hkF hD hEr
          go_wp2
          go_ret
          exact ⟨rfl, hEF⟩
        · rw [hD] at hkF hbF
          simp only [hEr]
          obtain ⟨bb, ob, A', n', c', rfl, hcell, hn'⟩ := BL.at0 (l := List.replicate n 0) hbF
          simp only [List.length_replicate] at hn'
          subst hn'
          obtain ⟨q0, q1, q2, q3, q4⟩ := hkF.c5
          clear hbF hkF hD hEr
          go_wp2
          go_ret
          exact ⟨rfl, hEF⟩
      refine run_call1 rfl ?_ run_none
      ((with_reducible (show wpList _ _ _ (⟨_, Op.alloc _, _, _, _, _⟩ :: _) _ _)); go_loud (refine wpList_alB (.agg #[.slice none 0 0, .int .i64 0, .int .i64 0, .int .i64 0, .bool false]) rfl _ rfl (by kernel_rfl) rfl ?_; intro g5 w5 hg5 hk5 hE5))
      refine wpList_nil ?_
      refine nx_done rfl trivial ?_
      try simp only [Act.put, List.setIfInBounds_toArray, List.set]
      try replace hb2 := BL.off hb2 (g := g5) (Nat.le_trans (Ext.size (by with_reducible repeat (first | exact Ext.refl _ | refine Ext.alloc ?_ _ | refine Ext.drewN ?_ _ | refine Ext.trans ?_ (by assumption)))) hg5)
      try replace hb4 := BL.off hb4 (g := g5) (Nat.le_trans (Ext.size (by with_reducible repeat (first | exact Ext.refl _ | refine Ext.alloc ?_ _ | refine Ext.drewN ?_ _ | refine Ext.trans ?_ (by assumption)))) hg5)
      refine run_call1 rfl ?_ run_none
      go_wp2_with (first | (go_at_call 22; go_loud ((first | refine (newP_calls' (fun k => k ≠ g5) _ (fun k hk e => (by have h1 := hk5.lt; have h2 := Nat.le_trans (Ext.size (show Ext w5 _ from (by with_reducible repeat (first | exact Ext.refl _ | refine Ext.alloc ?_ _ | refine Ext.drewN ?_ _ | refine Ext.trans ?_ (by assumption))))) hk; omega)) 1 1 rfl).mono ?_ | refine (newP_calls' (fun _ => True) _ (Anew.top _) 1 1 rfl).mono ?_); rintro e w2 ⟨A2, c2, d2, rfl, H2, hb2, hE2⟩)) | ((with_reducible (show wpList _ _ _ (⟨_, Op.makeSlice _ _ _, _, _, _, _⟩ :: _) _ _)); go_loud (refine wpList_mkB rfl _ _ _ rfl _ infoB Try.underlying22 _ _ n rfl rfl (by omega) ?_; intro g3 w3 hg3 hO3 hE3)) | (go_at_call 17; go_loud ((first | refine (write_calls (fun k => k ≠ g5) _ (fun k hk e => (by have h1 := hk5.lt; have h2 := Nat.le_trans (Ext.size (show Ext w5 _ from (by with_reducible repeat (first | exact Ext.refl _ | refine Ext.alloc ?_ _ | refine Ext.drewN ?_ _ | refine Ext.trans ?_ (by assumption))))) hk; omega)) A2 1 c2 d2 (by refine BL.ext (by assumption) ?_; (with_reducible repeat (first | exact Ext.refl _ | refine Ext.alloc ?_ _ | refine Ext.drewN ?_ _ | refine Ext.trans ?_ (by assumption)))) (by omega) _ n n (List.replicate n 0) (BV.ext (OB.bv (P := fun _ => True) hO3 (fun _ _ => trivial)) (by with_reducible repeat (first | exact Ext.refl _ | refine Ext.alloc ?_ _ | refine Ext.drewN ?_ _ | refine Ext.trans ?_ (by assumption)))) (by omega) 0 (by rw [H2.out]; decide) (by rw [H2.out]; decide) (by rw [H2.out]; decide)).mono ?_ | refine (write_calls (fun _ => True) _ (Anew.top _) A2 1 c2 d2 (by refine BL.ext (by assumption) ?_; (with_reducible repeat (first | exact Ext.refl _ | refine Ext.alloc ?_ _ | refine Ext.drewN ?_ _ | refine Ext.trans ?_ (by assumption)))) (by omega) _ n n (List.replicate n 0) (BV.ext (OB.bv (P := fun _ => True) hO3 (fun _ _ => trivial)) (by with_reducible repeat (first | exact Ext.refl _ | refine Ext.alloc ?_ _ | refine Ext.drewN ?_ _ | refine Ext.trans ?_ (by assumption)))) (by omega) 0 (by rw [H2.out]; decide) (by rw [H2.out]; decide) (by rw [H2.out]; decide)).mono ?_); rintro e w4 ⟨A4, c4, d4, e4, rfl, H4, hb4, hE4⟩; obtain ⟨rfl, rfl⟩ : d4 = largeD n ∧ e4 = largeE n := (by have := H4.out; rw [H2.out, (large_put n).1, (large_put n).2.2] at this; exact this))))
      refine nx_done rfl trivial ?_
      try simp only [Act.put, List.setIfInBounds_toArray, List.set]
      apply run_read rfl
      · intro w1 hS
        go_wp2
        exact rv_done rfl rfl
      try simp only [Act.put, List.setIfInBounds_toArray, List.set]
      apply run_read rfl
      · intro w1 hS
        go_wp2
        exact rv_done rfl rfl
      try simp only [Act.put, List.setIfInBounds_toArray, List.set]
      apply run_read rfl
      · intro w1 hS
        go_wp2
        exact rv_done rfl rfl
      try simp only [Act.put, List.setIfInBounds_toArray, List.set]
      refine run_call1 rfl ?_ run_none
      ((with_reducible (show wpList _ _ _ (⟨_, Op.store _ _ _, _, _, _, _⟩ :: _) _ _)); go_loud (refine wpList_stB rfl _ _ _ rfl _ rfl rfl (by refine Blk.ext (by assumption) ?_; (with_reducible repeat (first | exact Ext.refl _ | refine Ext.alloc ?_ _ | refine Ext.drewN ?_ _ | refine Ext.trans ?_ (by assumption)))) (by kernel_rfl) (by rfl) (by simp [Value.oneCell']) ?_; intro w6 hk6 hF6))
      refine wpList_nil ?_
      refine nx_done rfl trivial ?_
      try simp only [Act.put, List.setIfInBounds_toArray, List.set]
      refine run_tail rfl ?_
      refine wpList_forget (fun w7 => Blk w7 g5 27 #[.slice A4 1 c4, .int .i64 (largeD n).wr, .int .i64 (largeD n).ct, .int .i64 (largeD n).tn, .bool (largeD n).off] ∧ BL w7 (fun k => k ≠ g5) A4 1 c4 (largeD n).areas ∧ Ext w w7 ∧ w.heap.size ≤ g5) ⟨hk6, BL.fr (BL.ext hb4 (by with_reducible repeat (first | exact Ext.refl _ | refine Ext.alloc ?_ _ | refine Ext.drewN ?_ _ | refine Ext.trans ?_ (by assumption)))) hF6, Ext.over (by with_reducible repeat (first | exact Ext.refl _ | refine Ext.alloc ?_ _ | refine Ext.drewN ?_ _ | refine Ext.trans ?_ (by assumption))) hF6 (Nat.le_trans (Ext.size (by with_reducible repeat (first | exact Ext.refl _ | refine Ext.alloc ?_ _ | refine Ext.drewN ?_ _ | refine Ext.trans ?_ (by assumption)))) hg5), Nat.le_trans (Ext.size (by with_reducible repeat (first | exact Ext.refl _ | refine Ext.alloc ?_ _ | refine Ext.drewN ?_ _ | refine Ext.trans ?_ (by assumption)))) hg5⟩ ?_
      clear hk6 hF6 hb4 hb2 hE1 hE2 hE3 hE4 hE5 hk5 hO3 hg5 H2 H4
      rintro w7 ⟨hkF, hbF, hEF, hgF⟩
      go_upto_region 7 with fail
      refine wp_region_planG (fun _ _ => True) (.read 1 (.call false 0 (.call false 2 (.call true 3 (.read 4 (.read 5 (.read 6 (.call false 7 .tail .none)))) .none) .none) (.call true 2 (.call false 0 (.call true 3 (.read 4 (.read 5 (.read 6 (.call false 7 .tail .none)))) .none) .none) .none))) 8 (by kernel_rfl) (by kernel_rfl) (by kernel_rfl) (fun _ => trivial) (fun _ _ _ _ _ => trivial) Ext (Ext.drew (Ext.refl _)) (fun wR hR => ?_)
      apply run_read rfl
      · intro w1 hS
        go_wp2
        exact rv_done rfl rfl
      try simp only [Act.put, List.setIfInBounds_toArray, List.set]
      refine run_call1 rfl ?_ ?_
      · go_wp2_with (first | (go_at_call 22; go_loud (refine (newP_calls' (fun k => k ≠ g5) _ (fun k hk e => (by have h1 := hkF.lt; have h2 := Nat.le_trans (Ext.size (show Ext w7 _ from (by with_reducible repeat (first | exact Ext.refl _ | refine Ext.alloc ?_ _ | refine Ext.drewN ?_ _ | refine Ext.trans ?_ (by assumption))))) hk; omega)) 1 1 rfl).mono ?_; rintro e w2 ⟨A2, c2, d2, rfl, H2, hb2, hE2⟩)) | ((with_reducible (show wpList _ _ _ (⟨_, Op.makeSlice _ _ _, _, _, _, _⟩ :: _) _ _)); go_loud (refine wpList_mkB rfl _ _ _ rfl _ infoB Try.underlying22 _ _ n rfl rfl (by omega) ?_; intro g3 w3 hg3 hO3 hE3)) | (go_at_call 19; go_loud (refine (append_calls (fun k => k ≠ g5) _ (fun k hk e => (by have h1 := hkF.lt; have h2 := Nat.le_trans (Ext.size (show Ext w7 _ from (by with_reducible repeat (first | exact Ext.refl _ | refine Ext.alloc ?_ _ | refine Ext.drewN ?_ _ | refine Ext.trans ?_ (by assumption))))) hk; omega)) A2 1 c2 d2 (by refine BL.ext (by assumption) ?_; (with_reducible repeat (first | exact Ext.refl _ | refine Ext.alloc ?_ _ | refine Ext.drewN ?_ _ | refine Ext.trans ?_ (by assumption)))) (by omega) _ n n (List.replicate n 0) (BV.ext (OB.bv (P := fun _ => True) hO3 (fun _ _ => trivial)) (by with_reducible repeat (first | exact Ext.refl _ | refine Ext.alloc ?_ _ | refine Ext.drewN ?_ _ | refine Ext.trans ?_ (by assumption)))) (by omega) 0 (by rw [H2.out]; decide) (by rw [H2.out]; decide) (by rw [H2.out]; decide)).mono ?_; rintro e w4 ⟨A5, c5, d5, e5, rfl, H5, hb5, hE5⟩; obtain ⟨rfl, rfl⟩ : d5 = largeD n ∧ e5 = largeE n := (by have := H5.out; rw [H2.out, (large_put n).2.1, (large_put n).2.2] at this; exact this))))
        refine nx_done rfl trivial ?_
        try simp only [Act.put, List.setIfInBounds_toArray, List.set]
        refine run_call1 rfl ?_ run_none
        go_wp2_with (first | (go_at_call 22; go_loud (refine (newP_calls' (fun k => k ≠ g5) _ (fun k hk e => (by have h1 := hkF.lt; have h2 := Nat.le_trans (Ext.size (show Ext w7 _ from (by with_reducible repeat (first | exact Ext.refl _ | refine Ext.alloc ?_ _ | refine Ext.drewN ?_ _ | refine Ext.trans ?_ (by assumption))))) hk; omega)) 1 1 rfl).mono ?_; rintro e w2 ⟨A2, c2, d2, rfl, H2, hb2, hE2⟩)) | ((with_reducible (show wpList _ _ _ (⟨_, Op.makeSlice _ _ _, _, _, _, _⟩ :: _) _ _)); go_loud (refine wpList_mkB rfl _ _ _ rfl _ infoB Try.underlying22 _ _ n rfl rfl (by omega) ?_; intro g3 w3 hg3 hO3 hE3)) | (go_at_call 19; go_loud (refine (append_calls (fun k => k ≠ g5) _ (fun k hk e => (by have h1 := hkF.lt; have h2 := Nat.le_trans (Ext.size (show Ext w7 _ from (by with_reducible repeat (first | exact Ext.refl _ | refine Ext.alloc ?_ _ | refine Ext.drewN ?_ _ | refine Ext.trans ?_ (by assumption))))) hk; omega)) A2 1 c2 d2 (by refine BL.ext (by assumption) ?_; (with_reducible repeat (first | exact Ext.refl _ | refine Ext.alloc ?_ _ | refine Ext.drewN ?_ _ | refine Ext.trans ?_ (by assumption)))) (by omega) _ n n (List.replicate n 0) (BV.ext (OB.bv (P := fun _ => True) hO3 (fun _ _ => trivial)) (by with_reducible repeat (first | exact Ext.refl _ | refine Ext.alloc ?_ _ | refine Ext.drewN ?_ _ | refine Ext.trans ?_ (by assumption)))) (by omega) 0 (by rw [H2.out]; decide) (by rw [H2.out]; decide) (by rw [H2.out]; decide)).mono ?_; rintro e w4 ⟨A5, c5, d5, e5, rfl, H5, hb5, hE5⟩; obtain ⟨rfl, rfl⟩ : d5 = largeD n ∧ e5 = largeE n := (by have := H5.out; rw [H2.out, (large_put n).2.1, (large_put n).2.2] at this; exact this))))
        refine nx_done rfl trivial ?_
        try simp only [Act.put, List.setIfInBounds_toArray, List.set]
        refine run_free rfl ?_ run_none
        go_wp2_with (first | (go_at_call 22; go_loud (refine (newP_calls' (fun k => k ≠ g5) _ (fun k hk e => (by have h1 := hkF.lt; have h2 := Nat.le_trans (Ext.size (show Ext w7 _ from (by with_reducible repeat (first | exact Ext.refl _ | refine Ext.alloc ?_ _ | refine Ext.drewN ?_ _ | refine Ext.trans ?_ (by assumption))))) hk; omega)) 1 1 rfl).mono ?_; rintro e w2 ⟨A2, c2, d2, rfl, H2, hb2, hE2⟩)) | ((with_reducible (show wpList _ _ _ (⟨_, Op.makeSlice _ _ _, _, _, _, _⟩ :: _) _ _)); go_loud (refine wpList_mkB rfl _ _ _ rfl _ infoB Try.underlying22 _ _ n rfl rfl (by omega) ?_; intro g3 w3 hg3 hO3 hE3)) | (go_at_call 19; go_loud (refine (append_calls (fun k => k ≠ g5) _ (fun k hk e => (by have h1 := hkF.lt; have h2 := Nat.le_trans (Ext.size (show Ext w7 _ from (by with_reducible repeat (first | exact Ext.refl _ | refine Ext.alloc ?_ _ | refine Ext.drewN ?_ _ | refine Ext.trans ?_ (by assumption))))) hk; omega)) A2 1 c2 d2 (by refine BL.ext (by assumption) ?_; (with_reducible repeat (first | exact Ext.refl _ | refine Ext.alloc ?_ _ | refine Ext.drewN ?_ _ | refine Ext.trans ?_ (by assumption)))) (by omega) _ n n (List.replicate n 0) (BV.ext (OB.bv (P := fun _ => True) hO3 (fun _ _ => trivial)) (by with_reducible repeat (first | exact Ext.refl _ | refine Ext.alloc ?_ _ | refine Ext.drewN ?_ _ | refine Ext.trans ?_ (by assumption)))) (by omega) 0 (by rw [H2.out]; decide) (by rw [H2.out]; decide) (by rw [H2.out]; decide)).mono ?_; rintro e w4 ⟨A5, c5, d5, e5, rfl, H5, hb5, hE5⟩; obtain ⟨rfl, rfl⟩ : d5 = largeD n ∧ e5 = largeE n := (by have := H5.out; rw [H2.out, (large_put n).2.1, (large_put n).2.2] at this; exact this))))
        refine nx_done rfl trivial ?_
        try simp only [Act.put, List.setIfInBounds_toArray, List.set]
        apply run_read rfl
        · intro w1 hS
          go_wp2
          exact rv_done rfl rfl
        try simp only [Act.put, List.setIfInBounds_toArray, List.set]
        apply run_read rfl
        · intro w1 hS
          go_wp2
          exact rv_done rfl rfl
        try simp only [Act.put, List.setIfInBounds_toArray, List.set]
        apply run_read rfl
        · intro w1 hS
          go_wp2
          exact rv_done rfl rfl
        try simp only [Act.put, List.setIfInBounds_toArray, List.set]
        refine run_call1 rfl ?_ run_none
        ((with_reducible (show wpList _ _ _ (⟨_, Op.store _ _ _, _, _, _, _⟩ :: _) _ _)); go_loud (refine wpList_stB rfl _ _ _ rfl _ rfl rfl (by refine Blk.ext (by assumption) ?_; (with_reducible repeat (first | exact Ext.refl _ | refine Ext.alloc ?_ _ | refine Ext.drewN ?_ _ | refine Ext.trans ?_ (by assumption)))) (by kernel_rfl) (by rfl) (by simp [Value.oneCell']) ?_; intro w6 hk6 hF6))
        refine wpList_nil ?_
        refine nx_done rfl trivial ?_
        try simp only [Act.put, List.setIfInBounds_toArray, List.set]
        refine run_tail rfl ?_
        refine wpList_forget (fun w8 => Blk w8 g5 27 #[.slice A5 1 c5, .int .i64 (largeD n).wr, .int .i64 (largeD n).ct, .int .i64 (largeD n).tn, .bool (largeD n).off] ∧ BL w8 (fun k => k ≠ g5) A5 1 c5 (largeD n).areas ∧ Ext w w8) ⟨hk6, BL.fr (BL.ext hb5 (by with_reducible repeat (first | exact Ext.refl _ | refine Ext.alloc ?_ _ | refine Ext.drewN ?_ _ | refine Ext.trans ?_ (by assumption)))) hF6, Ext.over (hEF.trans (by with_reducible repeat (first | exact Ext.refl _ | refine Ext.alloc ?_ _ | refine Ext.drewN ?_ _ | refine Ext.trans ?_ (by assumption)))) hF6 hgF⟩ ?_
        clear hk6 hF6 hb5 hb2 hE2 hE3 hO3 hE5 H2 H5 hkF hbF hEF
        rintro w8 ⟨hkF, hbF, hEF⟩
        rcases hlarge with ⟨hbig, hD, hEr⟩ | ⟨hbig, hD, hEr⟩
        · rw [hD] at hkF hbF
          simp only [hEr]
          obtain ⟨bb, ob, A', n', c', rfl, hcell, hn'⟩ := BL.at0 (l := []) hbF
          simp only [List.length_nil] at hn'
          subst hn'
          obtain ⟨q0, q1, q2, q3, q4⟩ := hkF.c5
          simp only [newS] at q1
          clear hbF hkF hD hEr
          go_wp2
          go_ret
          exact ⟨rfl, hEF⟩
        · rw [hD] at hkF hbF
          simp only [hEr]
          obtain ⟨bb, ob, A', n', c', rfl, hcell, hn'⟩ := BL.at0 (l := List.replicate n 0) hbF
          simp only [List.length_replicate] at hn'
          subst hn'
          obtain ⟨q0, q1, q2, q3, q4⟩ := hkF.c5
          clear hbF hkF hD hEr
          go_wp2
          go_ret
          exact ⟨rfl, hEF⟩
      refine run_free rfl ?_ run_none
      go_wp2_with (first | (go_at_call 22; go_loud (refine (newP_calls' (fun k => k ≠ g5) _ (fun k hk e => (by have h1 := hkF.lt; have h2 := Nat.le_trans (Ext.size (show Ext w7 _ from (by with_reducible repeat (first | exact Ext.refl _ | refine Ext.alloc ?_ _ | refine Ext.drewN ?_ _ | refine Ext.trans ?_ (by assumption))))) hk; omega)) 1 1 rfl).mono ?_; rintro e w2 ⟨A2, c2, d2, rfl, H2, hb2, hE2⟩)) | ((with_reducible (show wpList _ _ _ (⟨_, Op.makeSlice _ _ _, _, _, _, _⟩ :: _) _ _)); go_loud (refine wpList_mkB rfl _ _ _ rfl _ infoB Try.underlying22 _ _ n rfl rfl (by omega) ?_; intro g3 w3 hg3 hO3 hE3)) | (go_at_call 19; go_loud (refine (append_calls (fun k => k ≠ g5) _ (fun k hk e => (by have h1 := hkF.lt; have h2 := Nat.le_trans (Ext.size (show Ext w7 _ from (by with_reducible repeat (first | exact Ext.refl _ | refine Ext.alloc ?_ _ | refine Ext.drewN ?_ _ | refine Ext.trans ?_ (by assumption))))) hk; omega)) A2 1 c2 d2 (by refine BL.ext (by assumption) ?_; (with_reducible repeat (first | exact Ext.refl _ | refine Ext.alloc ?_ _ | refine Ext.drewN ?_ _ | refine Ext.trans ?_ (by assumption)))) (by omega) _ n n (List.replicate n 0) (BV.ext (OB.bv (P := fun _ => True) hO3 (fun _ _ => trivial)) (by with_reducible repeat (first | exact Ext.refl _ | refine Ext.alloc ?_ _ | refine Ext.drewN ?_ _ | refine Ext.trans ?_ (by assumption)))) (by omega) 0 (by rw [H2.out]; decide) (by rw [H2.out]; decide) (by rw [H2.out]; decide)).mono ?_; rintro e w4 ⟨A5, c5, d5, e5, rfl, H5, hb5, hE5⟩; obtain ⟨rfl, rfl⟩ : d5 = largeD n ∧ e5 = largeE n := (by have := H5.out; rw [H2.out, (large_put n).2.1, (large_put n).2.2] at this; exact this))))
      refine nx_done rfl trivial ?_
      try simp only [Act.put, List.setIfInBounds_toArray, List.set]
      refine run_call1 rfl ?_ run_none
      go_wp2_with (first | (go_at_call 22; go_loud (refine (newP_calls' (fun k => k ≠ g5) _ (fun k hk e => (by have h1 := hkF.lt; have h2 := Nat.le_trans (Ext.size (show Ext w7 _ from (by with_reducible repeat (first | exact Ext.refl _ | refine Ext.alloc ?_ _ | refine Ext.drewN ?_ _ | refine Ext.trans ?_ (by assumption))))) hk; omega)) 1 1 rfl).mono ?_; rintro e w2 ⟨A2, c2, d2, rfl, H2, hb2, hE2⟩)) | ((with_reducible (show wpList _ _ _ (⟨_, Op.makeSlice _ _ _, _, _, _, _⟩ :: _) _ _)); go_loud (refine wpList_mkB rfl _ _ _ rfl _ infoB Try.underlying22 _ _ n rfl rfl (by omega) ?_; intro g3 w3 hg3 hO3 hE3)) | (go_at_call 19; go_loud (refine (append_calls (fun k => k ≠ g5) _ (fun k hk e => (by have h1 := hkF.lt; have h2 := Nat.le_trans (Ext.size (show Ext w7 _ from (by with_reducible repeat (first | exact Ext.refl _ | refine Ext.alloc ?_ _ | refine Ext.drewN ?_ _ | refine Ext.trans ?_ (by assumption))))) hk; omega)) A2 1 c2 d2 (by refine BL.ext (by assumption) ?_; (with_reducible repeat (first | exact Ext.refl _ | refine Ext.alloc ?_ _ | refine Ext.drewN ?_ _ | refine Ext.trans ?_ (by assumption)))) (by omega) _ n n (List.replicate n 0) (BV.ext (OB.bv (P := fun _ => True) hO3 (fun _ _ => trivial)) (by with_reducible repeat (first | exact Ext.refl _ | refine Ext.alloc ?_ _ | refine Ext.drewN ?_ _ | refine Ext.trans ?_ (by assumption)))) (by omega) 0 (by rw [H2.out]; decide) (by rw [H2.out]; decide) (by rw [H2.out]; decide)).mono ?_; rintro e w4 ⟨A5, c5, d5, e5, rfl, H5, hb5, hE5⟩; obtain ⟨rfl, rfl⟩ : d5 = largeD n ∧ e5 = largeE n := (by have := H5.out; rw [H2.out, (large_put n).2.1, (large_put n).2.2] at this; exact this))))
      refine nx_done rfl trivial ?_
      try simp only [Act.put, List.setIfInBounds_toArray, List.set]
      refine run_free rfl ?_ run_none
      go_wp2_with (first | (go_at_call 22; go_loud (refine (newP_calls' (fun k => k ≠ g5) _ (fun k hk e => (by have h1 := hkF.lt; have h2 := Nat.le_trans (Ext.size (show Ext w7 _ from (by with_reducible repeat (first | exact Ext.refl _ | refine Ext.alloc ?_ _ | refine Ext.drewN ?_ _ | refine Ext.trans ?_ (by assumption))))) hk; omega)) 1 1 rfl).mono ?_; rintro e w2 ⟨A2, c2, d2, rfl, H2, hb2, hE2⟩)) | ((with_reducible (show wpList _ _ _ (⟨_, Op.makeSlice _ _ _, _, _, _, _⟩ :: _) _ _)); go_loud (refine wpList_mkB rfl _ _ _ rfl _ infoB Try.underlying22 _ _ n rfl rfl (by omega) ?_; intro g3 w3 hg3 hO3 hE3)) | (go_at_call 19; go_loud (refine (append_calls (fun k => k ≠ g5) _ (fun k hk e => (by have h1 := hkF.lt; have h2 := Nat.le_trans (Ext.size (show Ext w7 _ from (by with_reducible repeat (first | exact Ext.refl _ | refine Ext.alloc ?_ _ | refine Ext.drewN ?_ _ | refine Ext.trans ?_ (by assumption))))) hk; omega)) A2 1 c2 d2 (by refine BL.ext (by assumption) ?_; (with_reducible repeat (first | exact Ext.refl _ | refine Ext.alloc ?_ _ | refine Ext.drewN ?_ _ | refine Ext.trans ?_ (by assumption)))) (by omega) _ n n (List.replicate n 0) (BV.ext (OB.bv (P := fun _ => True) hO3 (fun _ _ => trivial)) (by with_reducible repeat (first | exact Ext.refl _ | refine Ext.alloc ?_ _ | refine Ext.drewN ?_ _ | refine Ext.trans ?_ (by assumption)))) (by omega) 0 (by rw [H2.out]; decide) (by rw [H2.out]; decide) (by rw [H2.out]; decide)).mono ?_; rintro e w4 ⟨A5, c5, d5, e5, rfl, H5, hb5, hE5⟩; obtain ⟨rfl, rfl⟩ : d5 = largeD n ∧ e5 = largeE n := (by have := H5.out; rw [H2.out, (large_put n).2.1, (large_put n).2.2] at this; exact this))))
      refine nx_done rfl trivial ?_
      try simp only [Act.put, List.setIfInBounds_toArray, List.set]
      apply run_read rfl
      · intro w1 hS
        go_wp2
        exact rv_done rfl rfl
      try simp only [Act.put, List.setIfInBounds_toArray, List.set]
      apply run_read rfl
      · intro w1 hS
        go_wp2
        exact rv_done rfl rfl
      try simp only [Act.put, List.setIfInBounds_toArray, List.set]
      apply run_read rfl
      · intro w1 hS
        go_wp2
        exact rv_done rfl rfl
      try simp only [Act.put, List.setIfInBounds_toArray, List.set]
      refine run_call1 rfl ?_ run_none
      ((with_reducible (show wpList _ _ _ (⟨_, Op.store _ _ _, _, _, _, _⟩ :: _) _ _)); go_loud (refine wpList_stB rfl _ _ _ rfl _ rfl rfl (by refine Blk.ext (by assumption) ?_; (with_reducible repeat (first | exact Ext.refl _ | refine Ext.alloc ?_ _ | refine Ext.drewN ?_ _ | refine Ext.trans ?_ (by assumption)))) (by kernel_rfl) (by rfl) (by simp [Value.oneCell']) ?_; intro w6 hk6 hF6))
      refine wpList_nil ?_
      refine nx_done rfl trivial ?_
      try simp only [Act.put, List.setIfInBounds_toArray, List.set]
      refine run_tail rfl ?_
      refine wpList_forget (fun w8 => Blk w8 g5 27 #[.slice A5 1 c5, .int .i64 (largeD n).wr, .int .i64 (largeD n).ct, .int .i64 (largeD n).tn, .bool (largeD n).off] ∧ BL w8 (fun k => k ≠ g5) A5 1 c5 (largeD n).areas ∧ Ext w w8) ⟨hk6, BL.fr (BL.ext hb5 (by with_reducible repeat (first | exact Ext.refl _ | refine Ext.alloc ?_ _ | refine Ext.drewN ?_ _ | refine Ext.trans ?_ (by assumption)))) hF6, Ext.over (hEF.trans (by with_reducible repeat (first | exact Ext.refl _ | refine Ext.alloc ?_ _ | refine Ext.drewN ?_ _ | refine Ext.trans ?_ (by assumption)))) hF6 hgF⟩ ?_
      clear hk6 hF6 hb5 hb2 hE2 hE3 hO3 hE5 H2 H5 hkF hbF hEF
      rintro w8 ⟨hkF, hbF, hEF⟩
      rcases hlarge with ⟨hbig, hD, hEr⟩ | ⟨hbig, hD, hEr⟩
      · rw [hD] at hkF hbF
        simp only [hEr]
        obtain ⟨bb, ob, A', n', c', rfl, hcell, hn'⟩ := BL.at0 (l := []) hbF
        simp only [List.length_nil] at hn'
        subst hn'
        obtain ⟨q0, q1, q2, q3, q4⟩ := hkF.c5
        simp only [newS] at q1
        clear hbF hkF hD hEr
        go_wp2
        go_ret
        exact ⟨rfl, hEF⟩
      · rw [hD] at hkF hbF
        simp only [hEr]
        obtain ⟨bb, ob, A', n', c', rfl, hcell, hn'⟩ := BL.at0 (l := List.replicate n 0) hbF
        simp only [List.length_replicate] at hn'
        subst hn'
        obtain ⟨q0, q1, q2, q3, q4⟩ := hkF.c5
        clear hbF hkF hD hEr
        go_wp2
        go_ret
        exact ⟨rfl, hEF⟩
    refine run_call1 rfl ?_ run_none
    ((with_reducible (show wpList _ _ _ (⟨_, Op.alloc _, _, _, _, _⟩ :: _) _ _)); go_loud (refine wpList_alB (.agg #[.slice none 0 0, .int .i64 0, .int .i64 0, .int .i64 0, .bool false]) rfl _ rfl (by kernel_rfl) rfl ?_; intro g5 w5 hg5 hk5 hE5))
    refine wpList_nil ?_
    refine nx_done rfl trivial ?_
    try simp only [Act.put, List.setIfInBounds_toArray, List.set]
    try replace hb2 := BL.off hb2 (g := g5) (Nat.le_trans (Ext.size (by with_reducible repeat (first | exact Ext.refl _ | refine Ext.alloc ?_ _ | refine Ext.drewN ?_ _ | refine Ext.trans ?_ (by assumption)))) hg5)
    try replace hb4 := BL.off hb4 (g := g5) (Nat.le_trans (Ext.size (by with_reducible repeat (first | exact Ext.refl _ | refine Ext.alloc ?_ _ | refine Ext.drewN ?_ _ | refine Ext.trans ?_ (by assumption)))) hg5)
    refine run_call1 rfl ?_ run_none
    go_wp2_with (first | (go_at_call 22; go_loud ((first | refine (newP_calls' (fun k => k ≠ g5) _ (fun k hk e => (by have h1 := hk5.lt; have h2 := Nat.le_trans (Ext.size (show Ext w5 _ from (by with_reducible repeat (first | exact Ext.refl _ | refine Ext.alloc ?_ _ | refine Ext.drewN ?_ _ | refine Ext.trans ?_ (by assumption))))) hk; omega)) 1 1 rfl).mono ?_ | refine (newP_calls' (fun _ => True) _ (Anew.top _) 1 1 rfl).mono ?_); rintro e w2 ⟨A2, c2, d2, rfl, H2, hb2, hE2⟩)) | ((with_reducible (show wpList _ _ _ (⟨_, Op.makeSlice _ _ _, _, _, _, _⟩ :: _) _ _)); go_loud (refine wpList_mkB rfl _ _ _ rfl _ infoB Try.underlying22 _ _ n rfl rfl (by omega) ?_; intro g3 w3 hg3 hO3 hE3)) | (go_at_call 17; go_loud ((first | refine (write_calls (fun k => k ≠ g5) _ (fun k hk e => (by have h1 := hk5.lt; have h2 := Nat.le_trans (Ext.size (show Ext w5 _ from (by with_reducible repeat (first | exact Ext.refl _ | refine Ext.alloc ?_ _ | refine Ext.drewN ?_ _ | refine Ext.trans ?_ (by assumption))))) hk; omega)) A2 1 c2 d2 (by refine BL.ext (by assumption) ?_; (with_reducible repeat (first | exact Ext.refl _ | refine Ext.alloc ?_ _ | refine Ext.drewN ?_ _ | refine Ext.trans ?_ (by assumption)))) (by omega) _ n n (List.replicate n 0) (BV.ext (OB.bv (P := fun _ => True) hO3 (fun _ _ => trivial)) (by with_reducible repeat (first | exact Ext.refl _ | refine Ext.alloc ?_ _ | refine Ext.drewN ?_ _ | refine Ext.trans ?_ (by assumption)))) (by omega) 0 (by rw [H2.out]; decide) (by rw [H2.out]; decide) (by rw [H2.out]; decide)).mono ?_ | refine (write_calls (fun _ => True) _ (Anew.top _) A2 1 c2 d2 (by refine BL.ext (by assumption) ?_; (with_reducible repeat (first | exact Ext.refl _ | refine Ext.alloc ?_ _ | refine Ext.drewN ?_ _ | refine Ext.trans ?_ (by assumption)))) (by omega) _ n n (List.replicate n 0) (BV.ext (OB.bv (P := fun _ => True) hO3 (fun _ _ => trivial)) (by with_reducible repeat (first | exact Ext.refl _ | refine Ext.alloc ?_ _ | refine Ext.drewN ?_ _ | refine Ext.trans ?_ (by assumption)))) (by omega) 0 (by rw [H2.out]; decide) (by rw [H2.out]; decide) (by rw [H2.out]; decide)).mono ?_); rintro e w4 ⟨A4, c4, d4, e4, rfl, H4, hb4, hE4⟩; obtain ⟨rfl, rfl⟩ : d4 = largeD n ∧ e4 = largeE n := (by have := H4.out; rw [H2.out, (large_put n).1, (large_put n).2.2] at this; exact this))))
    refine nx_done rfl trivial ?_
    try simp only [Act.put, List.setIfInBounds_toArray, List.set]
    refine run_call1 rfl ?_ run_none
    go_wp2_with (first | (go_at_call 22; go_loud ((first | refine (newP_calls' (fun k => k ≠ g5) _ (fun k hk e => (by have h1 := hk5.lt; have h2 := Nat.le_trans (Ext.size (show Ext w5 _ from (by with_reducible repeat (first | exact Ext.refl _ | refine Ext.alloc ?_ _ | refine Ext.drewN ?_ _ | refine Ext.trans ?_ (by assumption))))) hk; omega)) 1 1 rfl).mono ?_ | refine (newP_calls' (fun _ => True) _ (Anew.top _) 1 1 rfl).mono ?_); rintro e w2 ⟨A2, c2, d2, rfl, H2, hb2, hE2⟩)) | ((with_reducible (show wpList _ _ _ (⟨_, Op.makeSlice _ _ _, _, _, _, _⟩ :: _) _ _)); go_loud (refine wpList_mkB rfl _ _ _ rfl _ infoB Try.underlying22 _ _ n rfl rfl (by omega) ?_; intro g3 w3 hg3 hO3 hE3)) | (go_at_call 17; go_loud ((first | refine (write_calls (fun k => k ≠ g5) _ (fun k hk e => (by have h1 := hk5.lt; have h2 := Nat.le_trans (Ext.size (show Ext w5 _ from (by with_reducible repeat (first | exact Ext.refl _ | refine Ext.alloc ?_ _ | refine Ext.drewN ?_ _ | refine Ext.trans ?_ (by assumption))))) hk; omega)) A2 1 c2 d2 (by refine BL.ext (by assumption) ?_; (with_reducible repeat (first | exact Ext.refl _ | refine Ext.alloc ?_ _ | refine Ext.drewN ?_ _ | refine Ext.trans ?_ (by assumption)))) (by omega) _ n n (List.replicate n 0) (BV.ext (OB.bv (P := fun _ => True) hO3 (fun _ _ => trivial)) (by with_reducible repeat (first | exact Ext.refl _ | refine Ext.alloc ?_ _ | refine Ext.drewN ?_ _ | refine Ext.trans ?_ (by assumption)))) (by omega) 0 (by rw [H2.out]; decide) (by rw [H2.out]; decide) (by rw [H2.out]; decide)).mono ?_ | refine (write_calls (fun _ => True) _ (Anew.top _) A2 1 c2 d2 (by refine BL.ext (by assumption) ?_; (with_reducible repeat (first | exact Ext.refl _ | refine Ext.alloc ?_ _ | refine Ext.drewN ?_ _ | refine Ext.trans ?_ (by assumption)))) (by omega) _ n n (List.replicate n 0) (BV.ext (OB.bv (P := fun _ => True) hO3 (fun _ _ => trivial)) (by with_reducible repeat (first | exact Ext.refl _ | refine Ext.alloc ?_ _ | refine Ext.drewN ?_ _ | refine Ext.trans ?_ (by assumption)))) (by omega) 0 (by rw [H2.out]; decide) (by rw [H2.out]; decide) (by rw [H2.out]; decide)).mono ?_); rintro e w4 ⟨A4, c4, d4, e4, rfl, H4, hb4, hE4⟩; obtain ⟨rfl, rfl⟩ : d4 = largeD n ∧ e4 = largeE n := (by have := H4.out; rw [H2.out, (large_put n).1, (large_put n).2.2] at this; exact this))))
    refine nx_done rfl trivial ?_
    try simp only [Act.put, List.setIfInBounds_toArray, List.set]
    apply run_read rfl
    · intro w1 hS
      go_wp2
      exact rv_done rfl rfl
    try simp only [Act.put, List.setIfInBounds_toArray, List.set]
    apply run_read rfl
    · intro w1 hS
      go_wp2
      exact rv_done rfl rfl
    try simp only [Act.put, List.setIfInBounds_toArray, List.set]
    apply run_read rfl
    · intro w1 hS
      go_wp2
      exact rv_done rfl rfl
    try simp only [Act.put, List.setIfInBounds_toArray, List.set]
    refine run_call1 rfl ?_ run_none
    ((with_reducible (show wpList _ _ _ (⟨_, Op.store _ _ _, _, _, _, _⟩ :: _) _ _)); go_loud (refine wpList_stB rfl _ _ _ rfl _ rfl rfl (by refine Blk.ext (by assumption) ?_; (with_reducible repeat (first | exact Ext.refl _ | refine Ext.alloc ?_ _ | refine Ext.drewN ?_ _ | refine Ext.trans ?_ (by assumption)))) (by kernel_rfl) (by rfl) (by simp [Value.oneCell']) ?_; intro w6 hk6 hF6))
    refine wpList_nil ?_
    refine nx_done rfl trivial ?_
    try simp only [Act.put, List.setIfInBounds_toArray, List.set]
    refine run_tail rfl ?_
    refine wpList_forget (fun w7 => Blk w7 g5 27 #[.slice A4 1 c4, .int .i64 (largeD n).wr, .int .i64 (largeD n).ct, .int .i64 (largeD n).tn, .bool (largeD n).off] ∧ BL w7 (fun k => k ≠ g5) A4 1 c4 (largeD n).areas ∧ Ext w w7 ∧ w.heap.size ≤ g5) ⟨hk6, BL.fr (BL.ext hb4 (by with_reducible repeat (first | exact Ext.refl _ | refine Ext.alloc ?_ _ | refine Ext.drewN ?_ _ | refine Ext.trans ?_ (by assumption)))) hF6, Ext.over (by with_reducible repeat (first | exact Ext.refl _ | refine Ext.alloc ?_ _ | refine Ext.drewN ?_ _ | refine Ext.trans ?_ (by assumption))) hF6 (Nat.le_trans (Ext.size (by with_reducible repeat (first | exact Ext.refl _ | refine Ext.alloc ?_ _ | refine Ext.drewN ?_ _ | refine Ext.trans ?_ (by assumption)))) hg5), Nat.le_trans (Ext.size (by with_reducible repeat (first | exact Ext.refl _ | refine Ext.alloc ?_ _ | refine Ext.drewN ?_ _ | refine Ext.trans ?_ (by assumption)))) hg5⟩ ?_
    clear hk6 hF6 hb4 hb2 hE1 hE2 hE3 hE4 hE5 hk5 hO3 hg5 H2 H4
    rintro w7 ⟨hkF, hbF, hEF, hgF⟩
    go_upto_region 7 with fail
    refine wp_region_planG (fun _ _ => True) (.read 1 (.call false 0 (.call false 2 (.call true 3 (.read 4 (.read 5 (.read 6 (.call false 7 .tail .none)))) .none) .none) (.call true 2 (.call false 0 (.call true 3 (.read 4 (.read 5 (.read 6 (.call false 7 .tail .none)))) .none) .none) .none))) 8 (by kernel_rfl) (by kernel_rfl) (by kernel_rfl) (fun _ => trivial) (fun _ _ _ _ _ => trivial) Ext (Ext.drew (Ext.refl _)) (fun wR hR => ?_)
    apply run_read rfl
    · intro w1 hS
      go_wp2
      exact rv_done rfl rfl
    try simp only [Act.put, List.setIfInBounds_toArray, List.set]
    refine run_call1 rfl ?_ ?_
    · go_wp2_with (first | (go_at_call 22; go_loud (refine (newP_calls' (fun k => k ≠ g5) _ (fun k hk e => (by have h1 := hkF.lt; have h2 := Nat.le_trans (Ext.size (show Ext w7 _ from (by with_reducible repeat (first | exact Ext.refl _ | refine Ext.alloc ?_ _ | refine Ext.drewN ?_ _ | refine Ext.trans ?_ (by assumption))))) hk; omega)) 1 1 rfl).mono ?_; rintro e w2 ⟨A2, c2, d2, rfl, H2, hb2, hE2⟩)) | ((with_reducible (show wpList _ _ _ (⟨_, Op.makeSlice _ _ _, _, _, _, _⟩ :: _) _ _)); go_loud (refine wpList_mkB rfl _ _ _ rfl _ infoB Try.underlying22 _ _ n rfl rfl (by omega) ?_; intro g3 w3 hg3 hO3 hE3)) | (go_at_call 19; go_loud (refine (append_calls (fun k => k ≠ g5) _ (fun k hk e => (by have h1 := hkF.lt; have h2 := Nat.le_trans (Ext.size (show Ext w7 _ from (by with_reducible repeat (first | exact Ext.refl _ | refine Ext.alloc ?_ _ | refine Ext.drewN ?_ _ | refine Ext.trans ?_ (by assumption))))) hk; omega)) A2 1 c2 d2 (by refine BL.ext (by assumption) ?_; (with_reducible repeat (first | exact Ext.refl _ | refine Ext.alloc ?_ _ | refine Ext.drewN ?_ _ | refine Ext.trans ?_ (by assumption)))) (by omega) _ n n (List.replicate n 0) (BV.ext (OB.bv (P := fun _ => True) hO3 (fun _ _ => trivial)) (by with_reducible repeat (first | exact Ext.refl _ | refine Ext.alloc ?_ _ | refine Ext.drewN ?_ _ | refine Ext.trans ?_ (by assumption)))) (by omega) 0 (by rw [H2.out]; decide) (by rw [H2.out]; decide) (by rw [H2.out]; decide)).mono ?_; rintro e w4 ⟨A5, c5, d5, e5, rfl, H5, hb5, hE5⟩; obtain ⟨rfl, rfl⟩ : d5 = largeD n ∧ e5 = largeE n := (by have := H5.out; rw [H2.out, (large_put n).2.1, (large_put n).2.2] at this; exact this))))
      refine nx_done rfl trivial ?_
      try simp only [Act.put, List.setIfInBounds_toArray, List.set]
      refine run_call1 rfl ?_ run_none
      go_wp2_with (first | (go_at_call 22; go_loud (refine (newP_calls' (fun k => k ≠ g5) _ (fun k hk e => (by have h1 := hkF.lt; have h2 := Nat.le_trans (Ext.size (show Ext w7 _ from (by with_reducible repeat (first | exact Ext.refl _ | refine Ext.alloc ?_ _ | refine Ext.drewN ?_ _ | refine Ext.trans ?_ (by assumption))))) hk; omega)) 1 1 rfl).mono ?_; rintro e w2 ⟨A2, c2, d2, rfl, H2, hb2, hE2⟩)) | ((with_reducible (show wpList _ _ _ (⟨_, Op.makeSlice _ _ _, _, _, _, _⟩ :: _) _ _)); go_loud (refine wpList_mkB rfl _ _ _ rfl _ infoB Try.underlying22 _ _ n rfl rfl (by omega) ?_; intro g3 w3 hg3 hO3 hE3)) | (go_at_call 19; go_loud (refine (append_calls (fun k => k ≠ g5) _ (fun k hk e => (by have h1 := hkF.lt; have h2 := Nat.le_trans (Ext.size (show Ext w7 _ from (by with_reducible repeat (first | exact Ext.refl _ | refine Ext.alloc ?_ _ | refine Ext.drewN ?_ _ | refine Ext.trans ?_ (by assumption))))) hk; omega)) A2 1 c2 d2 (by refine BL.ext (by assumption) ?_; (with_reducible repeat (first | exact Ext.refl _ | refine Ext.alloc ?_ _ | refine Ext.drewN ?_ _ | refine Ext.trans ?_ (by assumption)))) (by omega) _ n n (List.replicate n 0) (BV.ext (OB.bv (P := fun _ => True) hO3 (fun _ _ => trivial)) (by with_reducible repeat (first | exact Ext.refl _ | refine Ext.alloc ?_ _ | refine Ext.drewN ?_ _ | refine Ext.trans ?_ (by assumption)))) (by omega) 0 (by rw [H2.out]; decide) (by rw [H2.out]; decide) (by rw [H2.out]; decide)).mono ?_; rintro e w4 ⟨A5, c5, d5, e5, rfl, H5, hb5, hE5⟩; obtain ⟨rfl, rfl⟩ : d5 = largeD n ∧ e5 = largeE n := (by have := H5.out; rw [H2.out, (large_put n).2.1, (large_put n).2.2] at this; exact this))))
      refine nx_done rfl trivial ?_
      try simp only [Act.put, List.setIfInBounds_toArray, List.set]
      refine run_free rfl ?_ run_none
      go_wp2_with (first | (go_at_call 22; go_loud (refine (newP_calls' (fun k => k ≠ g5) _ (fun k hk e => (by have h1 := hkF.lt; have h2 := Nat.le_trans (Ext.size (show Ext w7 _ from (by with_reducible repeat (first | exact Ext.refl _ | refine Ext.alloc ?_ _ | refine Ext.drewN ?_ _ | refine Ext.trans ?_ (by assumption))))) hk; omega)) 1 1 rfl).mono ?_; rintro e w2 ⟨A2, c2, d2, rfl, H2, hb2, hE2⟩)) | ((with_reducible (show wpList _ _ _ (⟨_, Op.makeSlice _ _ _, _, _, _, _⟩ :: _) _ _)); go_loud (refine wpList_mkB rfl _ _ _ rfl _ infoB Try.underlying22 _ _ n rfl rfl (by omega) ?_; intro g3 w3 hg3 hO3 hE3)) | (go_at_call 19; go_loud (refine (append_calls (fun k => k ≠ g5) _ (fun k hk e => (by have h1 := hkF.lt; have h2 := Nat.le_trans (Ext.size (show Ext w7 _ from (by with_reducible repeat (first | exact Ext.refl _ | refine Ext.alloc ?_ _ | refine Ext.drewN ?_ _ | refine Ext.trans ?_ (by assumption))))) hk; omega)) A2 1 c2 d2 (by refine BL.ext (by assumption) ?_; (with_reducible repeat (first | exact Ext.refl _ | refine Ext.alloc ?_ _ | refine Ext.drewN ?_ _ | refine Ext.trans ?_ (by assumption)))) (by omega) _ n n (List.replicate n 0) (BV.ext (OB.bv (P := fun _ => True) hO3 (fun _ _ => trivial)) (by with_reducible repeat (first | exact Ext.refl _ | refine Ext.alloc ?_ _ | refine Ext.drewN ?_ _ | refine Ext.trans ?_ (by assumption)))) (by omega) 0 (by rw [H2.out]; decide) (by rw [H2.out]; decide) (by rw [H2.out]; decide)).mono ?_; rintro e w4 ⟨A5, c5, d5, e5, rfl, H5, hb5, hE5⟩; obtain ⟨rfl, rfl⟩ : d5 = largeD n ∧ e5 = largeE n := (by have := H5.out; rw [H2.out, (large_put n).2.1, (large_put n).2.2] at this; exact this))))
      refine nx_done rfl trivial ?_
      try simp only [Act.put, List.setIfInBounds_toArray, List.set]
      apply run_read rfl
      · intro w1 hS
        go_wp2
        exact rv_done rfl rfl
      try simp only [Act.put, List.setIfInBounds_toArray, List.set]
      apply run_read rfl
      · intro w1 hS
        go_wp2
        exact rv_done rfl rfl
      try simp only [Act.put, List.setIfInBounds_toArray, List.set]
      apply run_read rfl
      · intro w1 hS
        go_wp2
        exact rv_done rfl rfl
      try simp only [Act.put, List.setIfInBounds_toArray, List.set]
      refine run_call1 rfl ?_ run_none
      ((with_reducible (show wpList _ _ _ (⟨_, Op.store _ _ _, _, _, _, _⟩ :: _) _ _)); go_loud (refine wpList_stB rfl _ _ _ rfl _ rfl rfl (by refine Blk.ext (by assumption) ?_; (with_reducible repeat (first | exact Ext.refl _ | refine Ext.alloc ?_ _ | refine Ext.drewN ?_ _ | refine Ext.trans ?_ (by assumption)))) (by kernel_rfl) (by rfl) (by simp [Value.oneCell']) ?_; intro w6 hk6 hF6))
      refine wpList_nil ?_
      refine nx_done rfl trivial ?_
      try simp only [Act.put, List.setIfInBounds_toArray, List.set]
      refine run_tail rfl ?_
      refine wpList_forget (fun w8 => Blk w8 g5 27 #[.slice A5 1 c5, .int .i64 (largeD n).wr, .int .i64 (largeD n).ct, .int .i64 (largeD n).tn, .bool (largeD n).off] ∧ BL w8 (fun k => k ≠ g5) A5 1 c5 (largeD n).areas ∧ Ext w w8) ⟨hk6, BL.fr (BL.ext hb5 (by with_reducible repeat (first | exact Ext.refl _ | refine Ext.alloc ?_ _ | refine Ext.drewN ?_ _ | refine Ext.trans ?_ (by assumption)))) hF6, Ext.over (hEF.trans (by with_reducible repeat (first | exact Ext.refl _ | refine Ext.alloc ?_ _ | refine Ext.drewN ?_ _ | refine Ext.trans ?_ (by assumption)))) hF6 hgF⟩ ?_
      clear hk6 hF6 hb5 hb2 hE2 hE3 hO3 hE5 H2 H5 hkF hbF hEF
      rintro w8 ⟨hkF, hbF, hEF⟩
      rcases hlarge with ⟨hbig, hD, hEr⟩ | ⟨hbig, hD, hEr⟩
      · rw [hD] at hkF hbF
        simp only [hEr]
        obtain ⟨bb, ob, A', n', c', rfl, hcell, hn'⟩ := BL.at0 (l := []) hbF
        simp only [List.length_nil] at hn'
        subst hn'
        obtain ⟨q0, q1, q2, q3, q4⟩ := hkF.c5
        simp only [newS] at q1
        clear hbF hkF hD hEr
        go_wp2
        go_ret
        exact ⟨rfl, hEF⟩
      · rw [hD] at hkF hbF
        simp only [hEr]
        obtain ⟨bb, ob, A', n', c', rfl, hcell, hn'⟩ := BL.at0 (l := List.replicate n 0) hbF
        simp only [List.length_replicate] at hn'
        subst hn'
        obtain ⟨q0, q1, q2, q3, q4⟩ := hkF.c5
        clear hbF hkF hD hEr
        go_wp2
        go_ret
        exact ⟨rfl, hEF⟩
    refine run_free rfl ?_ run_none
    go_wp2_with (first | (go_at_call 22; go_loud (refine (newP_calls' (fun k => k ≠ g5) _ (fun k hk e => (by have h1 := hkF.lt; have h2 := Nat.le_trans (Ext.size (show Ext w7 _ from (by with_reducible repeat (first | exact Ext.refl _ | refine Ext.alloc ?_ _ | refine Ext.drewN ?_ _ | refine Ext.trans ?_ (by assumption))))) hk; omega)) 1 1 rfl).mono ?_; rintro e w2 ⟨A2, c2, d2, rfl, H2, hb2, hE2⟩)) | ((with_reducible (show wpList _ _ _ (⟨_, Op.makeSlice _ _ _, _, _, _, _⟩ :: _) _ _)); go_loud (refine wpList_mkB rfl _ _ _ rfl _ infoB Try.underlying22 _ _ n rfl rfl (by omega) ?_; intro g3 w3 hg3 hO3 hE3)) | (go_at_call 19; go_loud (refine (append_calls (fun k => k ≠ g5) _ (fun k hk e => (by have h1 := hkF.lt; have h2 := Nat.le_trans (Ext.size (show Ext w7 _ from (by with_reducible repeat (first | exact Ext.refl _ | refine Ext.alloc ?_ _ | refine Ext.drewN ?_ _ | refine Ext.trans ?_ (by assumption))))) hk; omega)) A2 1 c2 d2 (by refine BL.ext (by assumption) ?_; (with_reducible repeat (first | exact Ext.refl _ | refine Ext.alloc ?_ _ | refine Ext.drewN ?_ _ | refine Ext.trans ?_ (by assumption)))) (by omega) _ n n (List.replicate n 0) (BV.ext (OB.bv (P := fun _ => True) hO3 (fun _ _ => trivial)) (by with_reducible repeat (first | exact Ext.refl _ | refine Ext.alloc ?_ _ | refine Ext.drewN ?_ _ | refine Ext.trans ?_ (by assumption)))) (by omega) 0 (by rw [H2.out]; decide) (by rw [H2.out]; decide) (by rw [H2.out]; decide)).mono ?_; rintro e w4 ⟨A5, c5, d5, e5, rfl, H5, hb5, hE5⟩; obtain ⟨rfl, rfl⟩ : d5 = largeD n ∧ e5 = largeE n := (by have := H5.out; rw [H2.out, (large_put n).2.1, (large_put n).2.2] at this; exact this))))
    refine nx_done rfl trivial ?_
    try simp only [Act.put, List.setIfInBounds_toArray, List.set]
    refine run_call1 rfl ?_ run_none
    go_wp2_with (first | (go_at_call 22; go_loud (refine (newP_calls' (fun k => k ≠ g5) _ (fun k hk e => (by have h1 := hkF.lt; have h2 := Nat.le_trans (Ext.size (show Ext w7 _ from (by with_reducible repeat (first | exact Ext.refl _ | refine Ext.alloc ?_ _ | refine Ext.drewN ?_ _ | refine Ext.trans ?_ (by assumption))))) hk; omega)) 1 1 rfl).mono ?_; rintro e w2 ⟨A2, c2, d2, rfl, H2, hb2, hE2⟩)) | ((with_reducible (show wpList _ _ _ (⟨_, Op.makeSlice _ _ _, _, _, _, _⟩ :: _) _ _)); go_loud (refine wpList_mkB rfl _ _ _ rfl _ infoB Try.underlying22 _ _ n rfl rfl (by omega) ?_; intro g3 w3 hg3 hO3 hE3)) | (go_at_call 19; go_loud (refine (append_calls (fun k => k ≠ g5) _ (fun k hk e => (by have h1 := hkF.lt; have h2 := Nat.le_trans (Ext.size (show Ext w7 _ from (by with_reducible repeat (first | exact Ext.refl _ | refine Ext.alloc ?_ _ | refine Ext.drewN ?_ _ | refine Ext.trans ?_ (by assumption))))) hk; omega)) A2 1 c2 d2 (by refine BL.ext (by assumption) ?_; (with_reducible repeat (first | exact Ext.refl _ | refine Ext.alloc ?_ _ | refine Ext.drewN ?_ _ | refine Ext.trans ?_ (by assumption)))) (by omega) _ n n (List.replicate n 0) (BV.ext (OB.bv (P := fun _ => True) hO3 (fun _ _ => trivial)) (by with_reducible repeat (first | exact Ext.refl _ | refine Ext.alloc ?_ _ | refine Ext.drewN ?_ _ | refine Ext.trans ?_ (by assumption)))) (by omega) 0 (by rw [H2.out]; decide) (by rw [H2.out]; decide) (by rw [H2.out]; decide)).mono ?_; rintro e w4 ⟨A5, c5, d5, e5, rfl, H5, hb5, hE5⟩; obtain ⟨rfl, rfl⟩ : d5 = largeD n ∧ e5 = largeE n := (by have := H5.out; rw [H2.out, (large_put n).2.1, (large_put n).2.2] at this; exact this))))
    refine nx_done rfl trivial ?_
    try simp only [Act.put, List.setIfInBounds_toArray, List.set]
    refine run_free rfl ?_ run_none
    go_wp2_with (first | (go_at_call 22; go_loud (refine (newP_calls' (fun k => k ≠ g5) _ (fun k hk e => (by have h1 := hkF.lt; have h2 := Nat.le_trans (Ext.size (show Ext w7 _ from (by with_reducible repeat (first | exact Ext.refl _ | refine Ext.alloc ?_ _ | refine Ext.drewN ?_ _ | refine Ext.trans ?_ (by assumption))))) hk; omega)) 1 1 rfl).mono ?_; rintro e w2 ⟨A2, c2, d2, rfl, H2, hb2, hE2⟩)) | ((with_reducible (show wpList _ _ _ (⟨_, Op.makeSlice _ _ _, _, _, _, _⟩ :: _) _ _)); go_loud (refine wpList_mkB rfl _ _ _ rfl _ infoB Try.underlying22 _ _ n rfl rfl (by omega) ?_; intro g3 w3 hg3 hO3 hE3)) | (go_at_call 19; go_loud (refine (append_calls (fun k => k ≠ g5) _ (fun k hk e => (by have h1 := hkF.lt; have h2 := Nat.le_trans (Ext.size (show Ext w7 _ from (by with_reducible repeat (first | exact Ext.refl _ | refine Ext.alloc ?_ _ | refine Ext.drewN ?_ _ | refine Ext.trans ?_ (by assumption))))) hk; omega)) A2 1 c2 d2 (by refine BL.ext (by assumption) ?_; (with_reducible repeat (first | exact Ext.refl _ | refine Ext.alloc ?_ _ | refine Ext.drewN ?_ _ | refine Ext.trans ?_ (by assumption)))) (by omega) _ n n (List.replicate n 0) (BV.ext (OB.bv (P := fun _ => True) hO3 (fun _ _ => trivial)) (by with_reducible repeat (first | exact Ext.refl _ | refine Ext.alloc ?_ _ | refine Ext.drewN ?_ _ | refine Ext.trans ?_ (by assumption)))) (by omega) 0 (by rw [H2.out]; decide) (by rw [H2.out]; decide) (by rw [H2.out]; decide)).mono ?_; rintro e w4 ⟨A5, c5, d5, e5, rfl, H5, hb5, hE5⟩; obtain ⟨rfl, rfl⟩ : d5 = largeD n ∧ e5 = largeE n := (by have := H5.out; rw [H2.out, (large_put n).2.1, (large_put n).2.2] at this; exact this))))
    refine nx_done rfl trivial ?_
    try simp only [Act.put, List.setIfInBounds_toArray, List.set]
    apply run_read rfl
    · intro w1 hS
      go_wp2
      exact rv_done rfl rfl
    try simp only [Act.put, List.setIfInBounds_toArray, List.set]
    apply run_read rfl
    · intro w1 hS
      go_wp2
      exact rv_done rfl rfl
    try simp only [Act.put, List.setIfInBounds_toArray, List.set]
    apply run_read rfl
    · intro w1 hS
      go_wp2
      exact rv_done rfl rfl
    try simp only [Act.put, List.setIfInBounds_toArray, List.set]
    refine run_call1 rfl ?_ run_none
    ((with_reducible (show wpList _ _ _ (⟨_, Op.store _ _ _, _, _, _, _⟩ :: _) _ _)); go_loud (refine wpList_stB rfl _ _ _ rfl _ rfl rfl (by refine Blk.ext (by assumption) ?_; (with_reducible repeat (first | exact Ext.refl _ | refine Ext.alloc ?_ _ | refine Ext.drewN ?_ _ | refine Ext.trans ?_ (by assumption)))) (by kernel_rfl) (by rfl) (by simp [Value.oneCell']) ?_; intro w6 hk6 hF6))
    refine wpList_nil ?_
    refine nx_done rfl trivial ?_
    try simp only [Act.put, List.setIfInBounds_toArray, List.set]
    refine run_tail rfl ?_
    refine wpList_forget (fun w8 => Blk w8 g5 27 #[.slice A5 1 c5, .int .i64 (largeD n).wr, .int .i64 (largeD n).ct, .int .i64 (largeD n).tn, .bool (largeD n).off] ∧ BL w8 (fun k => k ≠ g5) A5 1 c5 (largeD n).areas ∧ Ext w w8) ⟨hk6, BL.fr (BL.ext hb5 (by with_reducible repeat (first | exact Ext.refl _ | refine Ext.alloc ?_ _ | refine Ext.drewN ?_ _ | refine Ext.trans ?_ (by assumption)))) hF6, Ext.over (hEF.trans (by with_reducible repeat (first | exact Ext.refl _ | refine Ext.alloc ?_ _ | refine Ext.drewN ?_ _ | refine Ext.trans ?_ (by assumption)))) hF6 hgF⟩ ?_
    clear hk6 hF6 hb5 hb2 hE2 hE3 hO3 hE5 H2 H5 hkF hbF hEF
    rintro w8 ⟨hkF, hbF, hEF⟩
    rcases hlarge with ⟨hbig, hD, hEr⟩ | ⟨hbig, hD, hEr⟩
    · rw [hD] at hkF hbF
      simp only [hEr]
      obtain ⟨bb, ob, A', n', c', rfl, hcell, hn'⟩ := BL.at0 (l := []) hbF
      simp only [List.length_nil] at hn'
      subst hn'
      obtain ⟨q0, q1, q2, q3, q4⟩ := hkF.c5
      simp only [newS] at q1
      clear hbF hkF hD hEr
      go_wp2
      go_ret
      exact ⟨rfl, hEF⟩
    · rw [hD] at hkF hbF
      simp only [hEr]
      obtain ⟨bb, ob, A', n', c', rfl, hcell, hn'⟩ := BL.at0 (l := List.replicate n 0) hbF
      simp only [List.length_replicate] at hn'
      subst hn'
      obtain ⟨q0, q1, q2, q3, q4⟩ := hkF.c5
      clear hbF hkF hD hEr
      go_wp2
      go_ret
      exact ⟨rfl, hEF⟩
  refine run_free rfl ?_ ?_
  · go_wp2_with (first | (go_at_call 22; go_loud ((first | refine (newP_calls' (fun k => k ≠ g5) _ (fun k hk e => (by have h1 := hk5.lt; have h2 := Nat.le_trans (Ext.size (show Ext w5 _ from (by with_reducible repeat (first | exact Ext.refl _ | refine Ext.alloc ?_ _ | refine Ext.drewN ?_ _ | refine Ext.trans ?_ (by assumption))))) hk; omega)) 1 1 rfl).mono ?_ | refine (newP_calls' (fun _ => True) _ (Anew.top _) 1 1 rfl).mono ?_); rintro e w2 ⟨A2, c2, d2, rfl, H2, hb2, hE2⟩)) | ((with_reducible (show wpList _ _ _ (⟨_, Op.makeSlice _ _ _, _, _, _, _⟩ :: _) _ _)); go_loud (refine wpList_mkB rfl _ _ _ rfl _ infoB Try.underlying22 _ _ n rfl rfl (by omega) ?_; intro g3 w3 hg3 hO3 hE3)) | (go_at_call 17; go_loud ((first | refine (write_calls (fun k => k ≠ g5) _ (fun k hk e => (by have h1 := hk5.lt; have h2 := Nat.le_trans (Ext.size (show Ext w5 _ from (by with_reducible repeat (first | exact Ext.refl _ | refine Ext.alloc ?_ _ | refine Ext.drewN ?_ _ | refine Ext.trans ?_ (by assumption))))) hk; omega)) A2 1 c2 d2 (by refine BL.ext (by assumption) ?_; (with_reducible repeat (first | exact Ext.refl _ | refine Ext.alloc ?_ _ | refine Ext.drewN ?_ _ | refine Ext.trans ?_ (by assumption)))) (by omega) _ n n (List.replicate n 0) (BV.ext (OB.bv (P := fun _ => True) hO3 (fun _ _ => trivial)) (by with_reducible repeat (first | exact Ext.refl _ | refine Ext.alloc ?_ _ | refine Ext.drewN ?_ _ | refine Ext.trans ?_ (by assumption)))) (by omega) 0 (by rw [H2.out]; decide) (by rw [H2.out]; decide) (by rw [H2.out]; decide)).mono ?_ | refine (write_calls (fun _ => True) _ (Anew.top _) A2 1 c2 d2 (by refine BL.ext (by assumption) ?_; (with_reducible repeat (first | exact Ext.refl _ | refine Ext.alloc ?_ _ | refine Ext.drewN ?_ _ | refine Ext.trans ?_ (by assumption)))) (by omega) _ n n (List.replicate n 0) (BV.ext (OB.bv (P := fun _ => True) hO3 (fun _ _ => trivial)) (by with_reducible repeat (first | exact Ext.refl _ | refine Ext.alloc ?_ _ | refine Ext.drewN ?_ _ | refine Ext.trans ?_ (by assumption)))) (by omega) 0 (by rw [H2.out]; decide) (by rw [H2.out]; decide) (by rw [H2.out]; decide)).mono ?_); rintro e w4 ⟨A4, c4, d4, e4, rfl, H4, hb4, hE4⟩; obtain ⟨rfl, rfl⟩ : d4 = largeD n ∧ e4 = largeE n := (by have := H4.out; rw [H2.out, (large_put n).1, (large_put n).2.2] at this; exact this))))
    refine nx_done rfl trivial ?_
    try simp only [Act.put, List.setIfInBounds_toArray, List.set]
    refine run_call1 rfl ?_ ?_
    · go_wp2_with (first | (go_at_call 22; go_loud ((first | refine (newP_calls' (fun k => k ≠ g5) _ (fun k hk e => (by have h1 := hk5.lt; have h2 := Nat.le_trans (Ext.size (show Ext w5 _ from (by with_reducible repeat (first | exact Ext.refl _ | refine Ext.alloc ?_ _ | refine Ext.drewN ?_ _ | refine Ext.trans ?_ (by assumption))))) hk; omega)) 1 1 rfl).mono ?_ | refine (newP_calls' (fun _ => True) _ (Anew.top _) 1 1 rfl).mono ?_); rintro e w2 ⟨A2, c2, d2, rfl, H2, hb2, hE2⟩)) | ((with_reducible (show wpList _ _ _ (⟨_, Op.makeSlice _ _ _, _, _, _, _⟩ :: _) _ _)); go_loud (refine wpList_mkB rfl _ _ _ rfl _ infoB Try.underlying22 _ _ n rfl rfl (by omega) ?_; intro g3 w3 hg3 hO3 hE3)) | (go_at_call 17; go_loud ((first | refine (write_calls (fun k => k ≠ g5) _ (fun k hk e => (by have h1 := hk5.lt; have h2 := Nat.le_trans (Ext.size (show Ext w5 _ from (by with_reducible repeat (first | exact Ext.refl _ | refine Ext.alloc ?_ _ | refine Ext.drewN ?_ _ | refine Ext.trans ?_ (by assumption))))) hk; omega)) A2 1 c2 d2 (by refine BL.ext (by assumption) ?_; (with_reducible repeat (first | exact Ext.refl _ | refine Ext.alloc ?_ _ | refine Ext.drewN ?_ _ | refine Ext.trans ?_ (by assumption)))) (by omega) _ n n (List.replicate n 0) (BV.ext (OB.bv (P := fun _ => True) hO3 (fun _ _ => trivial)) (by with_reducible repeat (first | exact Ext.refl _ | refine Ext.alloc ?_ _ | refine Ext.drewN ?_ _ | refine Ext.trans ?_ (by assumption)))) (by omega) 0 (by rw [H2.out]; decide) (by rw [H2.out]; decide) (by rw [H2.out]; decide)).mono ?_ | refine (write_calls (fun _ => True) _ (Anew.top _) A2 1 c2 d2 (by refine BL.ext (by assumption) ?_; (with_reducible repeat (first | exact Ext.refl _ | refine Ext.alloc ?_ _ | refine Ext.drewN ?_ _ | refine Ext.trans ?_ (by assumption)))) (by omega) _ n n (List.replicate n 0) (BV.ext (OB.bv (P := fun _ => True) hO3 (fun _ _ => trivial)) (by with_reducible repeat (first | exact Ext.refl _ | refine Ext.alloc ?_ _ | refine Ext.drewN ?_ _ | refine Ext.trans ?_ (by assumption)))) (by omega) 0 (by rw [H2.out]; decide) (by rw [H2.out]; decide) (by rw [H2.out]; decide)).mono ?_); rintro e w4 ⟨A4, c4, d4, e4, rfl, H4, hb4, hE4⟩; obtain ⟨rfl, rfl⟩ : d4 = largeD n ∧ e4 = largeE n := (by have := H4.out; rw [H2.out, (large_put n).1, (large_put n).2.2] at this; exact this))))
      refine nx_done rfl trivial ?_
      try simp only [Act.put, List.setIfInBounds_toArray, List.set]
      refine run_free rfl ?_ ?_
      · go_wp2_with (first | (go_at_call 22; go_loud ((first | refine (newP_calls' (fun k => k ≠ g5) _ (fun k hk e => (by have h1 := hk5.lt; have h2 := Nat.le_trans (Ext.size (show Ext w5 _ from (by with_reducible repeat (first | exact Ext.refl _ | refine Ext.alloc ?_ _ | refine Ext.drewN ?_ _ | refine Ext.trans ?_ (by assumption))))) hk; omega)) 1 1 rfl).mono ?_ | refine (newP_calls' (fun _ => True) _ (Anew.top _) 1 1 rfl).mono ?_); rintro e w2 ⟨A2, c2, d2, rfl, H2, hb2, hE2⟩)) | ((with_reducible (show wpList _ _ _ (⟨_, Op.makeSlice _ _ _, _, _, _, _⟩ :: _) _ _)); go_loud (refine wpList_mkB rfl _ _ _ rfl _ infoB Try.underlying22 _ _ n rfl rfl (by omega) ?_; intro g3 w3 hg3 hO3 hE3)) | (go_at_call 17; go_loud ((first | refine (write_calls (fun k => k ≠ g5) _ (fun k hk e => (by have h1 := hk5.lt; have h2 := Nat.le_trans (Ext.size (show Ext w5 _ from (by with_reducible repeat (first | exact Ext.refl _ | refine Ext.alloc ?_ _ | refine Ext.drewN ?_ _ | refine Ext.trans ?_ (by assumption))))) hk; omega)) A2 1 c2 d2 (by refine BL.ext (by assumption) ?_; (with_reducible repeat (first | exact Ext.refl _ | refine Ext.alloc ?_ _ | refine Ext.drewN ?_ _ | refine Ext.trans ?_ (by assumption)))) (by omega) _ n n (List.replicate n 0) (BV.ext (OB.bv (P := fun _ => True) hO3 (fun _ _ => trivial)) (by with_reducible repeat (first | exact Ext.refl _ | refine Ext.alloc ?_ _ | refine Ext.drewN ?_ _ | refine Ext.trans ?_ (by assumption)))) (by omega) 0 (by rw [H2.out]; decide) (by rw [H2.out]; decide) (by rw [H2.out]; decide)).mono ?_ | refine (write_calls (fun _ => True) _ (Anew.top _) A2 1 c2 d2 (by refine BL.ext (by assumption) ?_; (with_reducible repeat (first | exact Ext.refl _ | refine Ext.alloc ?_ _ | refine Ext.drewN ?_ _ | refine Ext.trans ?_ (by assumption)))) (by omega) _ n n (List.replicate n 0) (BV.ext (OB.bv (P := fun _ => True) hO3 (fun _ _ => trivial)) (by with_reducible repeat (first | exact Ext.refl _ | refine Ext.alloc ?_ _ | refine Ext.drewN ?_ _ | refine Ext.trans ?_ (by assumption)))) (by omega) 0 (by rw [H2.out]; decide) (by rw [H2.out]; decide) (by rw [H2.out]; decide)).mono ?_); rintro e w4 ⟨A4, c4, d4, e4, rfl, H4, hb4, hE4⟩; obtain ⟨rfl, rfl⟩ : d4 = largeD n ∧ e4 = largeE n := (by have := H4.out; rw [H2.out, (large_put n).1, (large_put n).2.2] at this; exact this))))
        refine nx_done rfl trivial ?_
        try simp only [Act.put, List.setIfInBounds_toArray, List.set]
        apply run_read rfl
        · intro w1 hS
          go_wp2
          exact rv_done rfl rfl
        try simp only [Act.put, List.setIfInBounds_toArray, List.set]
        apply run_read rfl
        · intro w1 hS
          go_wp2
          exact rv_done rfl rfl
        try simp only [Act.put, List.setIfInBounds_toArray, List.set]
        apply run_read rfl
        · intro w1 hS
          go_wp2
          exact rv_done rfl rfl
        try simp only [Act.put, List.setIfInBounds_toArray, List.set]
        refine run_call1 rfl ?_ run_none
        ((with_reducible (show wpList _ _ _ (⟨_, Op.alloc _, _, _, _, _⟩ :: _) _ _)); go_loud (refine wpList_alB (.agg #[.slice none 0 0, .int .i64 0, .int .i64 0, .int .i64 0, .bool false]) rfl _ rfl (by kernel_rfl) rfl ?_; intro g5 w5 hg5 hk5 hE5))
        refine wpList_nil ?_
        refine nx_done rfl trivial ?_
        try simp only [Act.put, List.setIfInBounds_toArray, List.set]
        try replace hb2 := BL.off hb2 (g := g5) (Nat.le_trans (Ext.size (by with_reducible repeat (first | exact Ext.refl _ | refine Ext.alloc ?_ _ | refine Ext.drewN ?_ _ | refine Ext.trans ?_ (by assumption)))) hg5)
        try replace hb4 := BL.off hb4 (g := g5) (Nat.le_trans (Ext.size (by with_reducible repeat (first | exact Ext.refl _ | refine Ext.alloc ?_ _ | refine Ext.drewN ?_ _ | refine Ext.trans ?_ (by assumption)))) hg5)
        refine run_call1 rfl ?_ run_none
        ((with_reducible (show wpList _ _ _ (⟨_, Op.store _ _ _, _, _, _, _⟩ :: _) _ _)); go_loud (refine wpList_stB rfl _ _ _ rfl _ rfl rfl (by refine Blk.ext (by assumption) ?_; (with_reducible repeat (first | exact Ext.refl _ | refine Ext.alloc ?_ _ | refine Ext.drewN ?_ _ | refine Ext.trans ?_ (by assumption)))) (by kernel_rfl) (by rfl) (by simp [Value.oneCell']) ?_; intro w6 hk6 hF6))
        refine wpList_nil ?_
        refine nx_done rfl trivial ?_
        try simp only [Act.put, List.setIfInBounds_toArray, List.set]
        refine run_tail rfl ?_
        refine wpList_forget (fun w7 => Blk w7 g5 27 #[.slice A4 1 c4, .int .i64 (largeD n).wr, .int .i64 (largeD n).ct, .int .i64 (largeD n).tn, .bool (largeD n).off] ∧ BL w7 (fun k => k ≠ g5) A4 1 c4 (largeD n).areas ∧ Ext w w7 ∧ w.heap.size ≤ g5) ⟨hk6, BL.fr (BL.ext hb4 (by with_reducible repeat (first | exact Ext.refl _ | refine Ext.alloc ?_ _ | refine Ext.drewN ?_ _ | refine Ext.trans ?_ (by assumption)))) hF6, Ext.over (by with_reducible repeat (first | exact Ext.refl _ | refine Ext.alloc ?_ _ | refine Ext.drewN ?_ _ | refine Ext.trans ?_ (by assumption))) hF6 (Nat.le_trans (Ext.size (by with_reducible repeat (first | exact Ext.refl _ | refine Ext.alloc ?_ _ | refine Ext.drewN ?_ _ | refine Ext.trans ?_ (by assumption)))) hg5), Nat.le_trans (Ext.size (by with_reducible repeat (first | exact Ext.refl _ | refine Ext.alloc ?_ _ | refine Ext.drewN ?_ _ | refine Ext.trans ?_ (by assumption)))) hg5⟩ ?_
        clear hk6 hF6 hb4 hb2 hE1 hE2 hE3 hE4 hE5 hk5 hO3 hg5 H2 H4
        rintro w7 ⟨hkF, hbF, hEF, hgF⟩
        go_upto_region 7 with fail
        refine wp_region_planG (fun _ _ => True) (.read 1 (.call false 0 (.call false 2 (.call true 3 (.read 4 (.read 5 (.read 6 (.call false 7 .tail .none)))) .none) .none) (.call true 2 (.call false 0 (.call true 3 (.read 4 (.read 5 (.read 6 (.call false 7 .tail .none)))) .none) .none) .none))) 8 (by kernel_rfl) (by kernel_rfl) (by kernel_rfl) (fun _ => trivial) (fun _ _ _ _ _ => trivial) Ext (Ext.drew (Ext.refl _)) (fun wR hR => ?_)
        apply run_read rfl
        · intro w1 hS
          go_wp2
          exact rv_done rfl rfl
        try simp only [Act.put, List.setIfInBounds_toArray, List.set]
        refine run_call1 rfl ?_ ?_
        · go_wp2_with (first | (go_at_call 22; go_loud (refine (newP_calls' (fun k => k ≠ g5) _ (fun k hk e => (by have h1 := hkF.lt; have h2 := Nat.le_trans (Ext.size (show Ext w7 _ from (by with_reducible repeat (first | exact Ext.refl _ | refine Ext.alloc ?_ _ | refine Ext.drewN ?_ _ | refine Ext.trans ?_ (by assumption))))) hk; omega)) 1 1 rfl).mono ?_; rintro e w2 ⟨A2, c2, d2, rfl, H2, hb2, hE2⟩)) | ((with_reducible (show wpList _ _ _ (⟨_, Op.makeSlice _ _ _, _, _, _, _⟩ :: _) _ _)); go_loud (refine wpList_mkB rfl _ _ _ rfl _ infoB Try.underlying22 _ _ n rfl rfl (by omega) ?_; intro g3 w3 hg3 hO3 hE3)) | (go_at_call 19; go_loud (refine (append_calls (fun k => k ≠ g5) _ (fun k hk e => (by have h1 := hkF.lt; have h2 := Nat.le_trans (Ext.size (show Ext w7 _ from (by with_reducible repeat (first | exact Ext.refl _ | refine Ext.alloc ?_ _ | refine Ext.drewN ?_ _ | refine Ext.trans ?_ (by assumption))))) hk; omega)) A2 1 c2 d2 (by refine BL.ext (by assumption) ?_; (with_reducible repeat (first | exact Ext.refl _ | refine Ext.alloc ?_ _ | refine Ext.drewN ?_ _ | refine Ext.trans ?_ (by assumption)))) (by omega) _ n n (List.replicate n 0) (BV.ext (OB.bv (P := fun _ => True) hO3 (fun _ _ => trivial)) (by with_reducible repeat (first | exact Ext.refl _ | refine Ext.alloc ?_ _ | refine Ext.drewN ?_ _ | refine Ext.trans ?_ (by assumption)))) (by omega) 0 (by rw [H2.out]; decide) (by rw [H2.out]; decide) (by rw [H2.out]; decide)).mono ?_; rintro e w4 ⟨A5, c5, d5, e5, rfl, H5, hb5, hE5⟩; obtain ⟨rfl, rfl⟩ : d5 = largeD n ∧ e5 = largeE n := (by have := H5.out; rw [H2.out, (large_put n).2.1, (large_put n).2.2] at this; exact this))))
          refine nx_done rfl trivial ?_
          try simp only [Act.put, List.setIfInBounds_toArray, List.set]
          refine run_call1 rfl ?_ run_none
          go_wp2_with (first | (go_at_call 22; go_loud (refine (newP_calls' (fun k => k ≠ g5) _ (fun k hk e => (by have h1 := hkF.lt; have h2 := Nat.le_trans (Ext.size (show Ext w7 _ from (by with_reducible repeat (first | exact Ext.refl _ | refine Ext.alloc ?_ _ | refine Ext.drewN ?_ _ | refine Ext.trans ?_ (by assumption))))) hk; omega)) 1 1 rfl).mono ?_; rintro e w2 ⟨A2, c2, d2, rfl, H2, hb2, hE2⟩)) | ((with_reducible (show wpList _ _ _ (⟨_, Op.makeSlice _ _ _, _, _, _, _⟩ :: _) _ _)); go_loud (refine wpList_mkB rfl _ _ _ rfl _ infoB Try.underlying22 _ _ n rfl rfl (by omega) ?_; intro g3 w3 hg3 hO3 hE3)) | (go_at_call 19; go_loud (refine (append_calls (fun k => k ≠ g5) _ (fun k hk e => (by have h1 := hkF.lt; have h2 := Nat.le_trans (Ext.size (show Ext w7 _ from (by with_reducible repeat (first | exact Ext.refl _ | refine Ext.alloc ?_ _ | refine Ext.drewN ?_ _ | refine Ext.trans ?_ (by assumption))))) hk; omega)) A2 1 c2 d2 (by refine BL.ext (by assumption) ?_; (with_reducible repeat (first | exact Ext.refl _ | refine Ext.alloc ?_ _ | refine Ext.drewN ?_ _ | refine Ext.trans ?_ (by assumption)))) (by omega) _ n n (List.replicate n 0) (BV.ext (OB.bv (P := fun _ => True) hO3 (fun _ _ => trivial)) (by with_reducible repeat (first | exact Ext.refl _ | refine Ext.alloc ?_ _ | refine Ext.drewN ?_ _ | refine Ext.trans ?_ (by assumption)))) (by omega) 0 (by rw [H2.out]; decide) (by rw [H2.out]; decide) (by rw [H2.out]; decide)).mono ?_; rintro e w4 ⟨A5, c5, d5, e5, rfl, H5, hb5, hE5⟩; obtain ⟨rfl, rfl⟩ : d5 = largeD n ∧ e5 = largeE n := (by have := H5.out; rw [H2.out, (large_put n).2.1, (large_put n).2.2] at this; exact this))))
          refine nx_done rfl trivial ?_
          try simp only [Act.put, List.setIfInBounds_toArray, List.set]
          refine run_free rfl ?_ run_none
          go_wp2_with (first | (go_at_call 22; go_loud (refine (newP_calls' (fun k => k ≠ g5) _ (fun k hk e => (by have h1 := hkF.lt; have h2 := Nat.le_trans (Ext.size (show Ext w7 _ from (by with_reducible repeat (first | exact Ext.refl _ | refine Ext.alloc ?_ _ | refine Ext.drewN ?_ _ | refine Ext.trans ?_ (by assumption))))) hk; omega)) 1 1 rfl).mono ?_; rintro e w2 ⟨A2, c2, d2, rfl, H2, hb2, hE2⟩)) | ((with_reducible (show wpList _ _ _ (⟨_, Op.makeSlice _ _ _, _, _, _, _⟩ :: _) _ _)); go_loud (refine wpList_mkB rfl _ _ _ rfl _ infoB Try.underlying22 _ _ n rfl rfl (by omega) ?_; intro g3 w3 hg3 hO3 hE3)) | (go_at_call 19; go_loud (refine (append_calls (fun k => k ≠ g5) _ (fun k hk e => (by have h1 := hkF.lt; have h2 := Nat.le_trans (Ext.size (show Ext w7 _ from (by with_reducible repeat (first | exact Ext.refl _ | refine Ext.alloc ?_ _ | refine Ext.drewN ?_ _ | refine Ext.trans ?_ (by assumption))))) hk; omega)) A2 1 c2 d2 (by refine BL.ext (by assumption) ?_; (with_reducible repeat (first | exact Ext.refl _ | refine Ext.alloc ?_ _ | refine Ext.drewN ?_ _ | refine Ext.trans ?_ (by assumption)))) (by omega) _ n n (List.replicate n 0) (BV.ext (OB.bv (P := fun _ => True) hO3 (fun _ _ => trivial)) (by with_reducible repeat (first | exact Ext.refl _ | refine Ext.alloc ?_ _ | refine Ext.drewN ?_ _ | refine Ext.trans ?_ (by assumption)))) (by omega) 0 (by rw [H2.out]; decide) (by rw [H2.out]; decide) (by rw [H2.out]; decide)).mono ?_; rintro e w4 ⟨A5, c5, d5, e5, rfl, H5, hb5, hE5⟩; obtain ⟨rfl, rfl⟩ : d5 = largeD n ∧ e5 = largeE n := (by have := H5.out; rw [H2.out, (large_put n).2.1, (large_put n).2.2] at this; exact this))))
          refine nx_done rfl trivial ?_
          try simp only [Act.put, List.setIfInBounds_toArray, List.set]
          apply run_read rfl
          · intro w1 hS
            go_wp2
            exact rv_done rfl rfl
          try simp only [Act.put, List.setIfInBounds_toArray, List.set]
          apply run_read rfl
          · intro w1 hS
            go_wp2
            exact rv_done rfl rfl
          try simp only [Act.put, List.setIfInBounds_toArray, List.set]
          apply run_read rfl
          · intro w1 hS
            go_wp2
            exact rv_done rfl rfl
          try simp only [Act.put, List.setIfInBounds_toArray, List.set]
          refine run_call1 rfl ?_ run_none
          ((with_reducible (show wpList _ _ _ (⟨_, Op.store _ _ _, _, _, _, _⟩ :: _) _ _)); go_loud (refine wpList_stB rfl _ _ _ rfl _ rfl rfl (by refine Blk.ext (by assumption) ?_; (with_reducible repeat (first | exact Ext.refl _ | refine Ext.alloc ?_ _ | refine Ext.drewN ?_ _ | refine Ext.trans ?_ (by assumption)))) (by kernel_rfl) (by rfl) (by simp [Value.oneCell']) ?_; intro w6 hk6 hF6))
          refine wpList_nil ?_
          refine nx_done rfl trivial ?_
          try simp only [Act.put, List.setIfInBounds_toArray, List.set]
          refine run_tail rfl ?_
          refine wpList_forget (fun w8 => Blk w8 g5 27 #[.slice A5 1 c5, .int .i64 (largeD n).wr, .int .i64 (largeD n).ct, .int .i64 (largeD n).tn, .bool (largeD n).off] ∧ BL w8 (fun k => k ≠ g5) A5 1 c5 (largeD n).areas ∧ Ext w w8) ⟨hk6, BL.fr (BL.ext hb5 (by with_reducible repeat (first | exact Ext.refl _ | refine Ext.alloc ?_ _ | refine Ext.drewN ?_ _ | refine Ext.trans ?_ (by assumption)))) hF6, Ext.over (hEF.trans (by with_reducible repeat (first | exact Ext.refl _ | refine Ext.alloc ?_ _ | refine Ext.drewN ?_ _ | refine Ext.trans ?_ (by assumption)))) hF6 hgF⟩ ?_
          clear hk6 hF6 hb5 hb2 hE2 hE3 hO3 hE5 H2 H5 hkF hbF hEF
          rintro w8 ⟨hkF, hbF, hEF⟩
          rcases hlarge with ⟨hbig, hD, hEr⟩ | ⟨hbig, hD, hEr⟩
          · rw [hD] at hkF hbF
            simp only [hEr]
            obtain ⟨bb, ob, A', n', c', rfl, hcell, hn'⟩ := BL.at0 (l := []) hbF
            simp only [List.length_nil] at hn'
            subst hn'
            obtain ⟨q0, q1, q2, q3, q4⟩ := hkF.c5
            simp only [newS] at q1
            clear hbF hkF hD hEr
            go_wp2
            go_ret
            exact ⟨rfl, hEF⟩
          · rw [hD] at hkF hbF
            simp only [hEr]
            obtain ⟨bb, ob, A', n', c', rfl, hcell, hn'⟩ := BL.at0 (l := List.replicate n 0) hbF
            simp only [List.length_replicate] at hn'
            subst hn'
            obtain ⟨q0, q1, q2, q3, q4⟩ := hkF.c5
            clear hbF hkF hD hEr
            go_wp2
            go_ret
            exact ⟨rfl, hEF⟩
        refine run_free rfl ?_ run_none
        go_wp2_with (first | (go_at_call 22; go_loud (refine (newP_calls' (fun k => k ≠ g5) _ (fun k hk e => (by have h1 := hkF.lt; have h2 := Nat.le_trans (Ext.size (show Ext w7 _ from (by with_reducible repeat (first | exact Ext.refl _ | refine Ext.alloc ?_ _ | refine Ext.drewN ?_ _ | refine Ext.trans ?_ (by assumption))))) hk; omega)) 1 1 rfl).mono ?_; rintro e w2 ⟨A2, c2, d2, rfl, H2, hb2, hE2⟩)) | ((with_reducible (show wpList _ _ _ (⟨_, Op.makeSlice _ _ _, _, _, _, _⟩ :: _) _ _)); go_loud (refine wpList_mkB rfl _ _ _ rfl _ infoB Try.underlying22 _ _ n rfl rfl (by omega) ?_; intro g3 w3 hg3 hO3 hE3)) | (go_at_call 19; go_loud (refine (append_calls (fun k => k ≠ g5) _ (fun k hk e => (by have h1 := hkF.lt; have h2 := Nat.le_trans (Ext.size (show Ext w7 _ from (by with_reducible repeat (first | exact Ext.refl _ | refine Ext.alloc ?_ _ | refine Ext.drewN ?_ _ | refine Ext.trans ?_ (by assumption))))) hk; omega)) A2 1 c2 d2 (by refine BL.ext (by assumption) ?_; (with_reducible repeat (first | exact Ext.refl _ | refine Ext.alloc ?_ _ | refine Ext.drewN ?_ _ | refine Ext.trans ?_ (by assumption)))) (by omega) _ n n (List.replicate n 0) (BV.ext (OB.bv (P := fun _ => True) hO3 (fun _ _ => trivial)) (by with_reducible repeat (first | exact Ext.refl _ | refine Ext.alloc ?_ _ | refine Ext.drewN ?_ _ | refine Ext.trans ?_ (by assumption)))) (by omega) 0 (by rw [H2.out]; decide) (by rw [H2.out]; decide) (by rw [H2.out]; decide)).mono ?_; rintro e w4 ⟨A5, c5, d5, e5, rfl, H5, hb5, hE5⟩; obtain ⟨rfl, rfl⟩ : d5 = largeD n ∧ e5 = largeE n := (by have := H5.out; rw [H2.out, (large_put n).2.1, (large_put n).2.2] at this; exact this))))
        refine nx_done rfl trivial ?_
        try simp only [Act.put, List.setIfInBounds_toArray, List.set]
        refine run_call1 rfl ?_ run_none
        go_wp2_with (first | (go_at_call 22; go_loud (refine (newP_calls' (fun k => k ≠ g5) _ (fun k hk e => (by have h1 := hkF.lt; have h2 := Nat.le_trans (Ext.size (show Ext w7 _ from (by with_reducible repeat (first | exact Ext.refl _ | refine Ext.alloc ?_ _ | refine Ext.drewN ?_ _ | refine Ext.trans ?_ (by assumption))))) hk; omega)) 1 1 rfl).mono ?_; rintro e w2 ⟨A2, c2, d2, rfl, H2, hb2, hE2⟩)) | ((with_reducible (show wpList _ _ _ (⟨_, Op.makeSlice _ _ _, _, _, _, _⟩ :: _) _ _)); go_loud (refine wpList_mkB rfl _ _ _ rfl _ infoB Try.underlying22 _ _ n rfl rfl (by omega) ?_; intro g3 w3 hg3 hO3 hE3)) | (go_at_call 19; go_loud (refine (append_calls (fun k => k ≠ g5) _ (fun k hk e => (by have h1 := hkF.lt; have h2 := Nat.le_trans (Ext.size (show Ext w7 _ from (by with_reducible repeat (first | exact Ext.refl _ | refine Ext.alloc ?_ _ | refine Ext.drewN ?_ _ | refine Ext.trans ?_ (by assumption))))) hk; omega)) A2 1 c2 d2 (by refine BL.ext (by assumption) ?_; (with_reducible repeat (first | exact Ext.refl _ | refine Ext.alloc ?_ _ | refine Ext.drewN ?_ _ | refine Ext.trans ?_ (by assumption)))) (by omega) _ n n (List.replicate n 0) (BV.ext (OB.bv (P := fun _ => True) hO3 (fun _ _ => trivial)) (by with_reducible repeat (first | exact Ext.refl _ | refine Ext.alloc ?_ _ | refine Ext.drewN ?_ _ | refine Ext.trans ?_ (by assumption)))) (by omega) 0 (by rw [H2.out]; decide) (by rw [H2.out]; decide) (by rw [H2.out]; decide)).mono ?_; rintro e w4 ⟨A5, c5, d5, e5, rfl, H5, hb5, hE5⟩; obtain ⟨rfl, rfl⟩ : d5 = largeD n ∧ e5 = largeE n := (by have := H5.out; rw [H2.out, (large_put n).2.1, (large_put n).2.2] at this; exact this))))
        refine nx_done rfl trivial ?_
        try simp only [Act.put, List.setIfInBounds_toArray, List.set]
        refine run_free rfl ?_ run_none
        go_wp2_with (first | (go_at_call 22; go_loud (refine (newP_calls' (fun k => k ≠ g5) _ (fun k hk e => (by have h1 := hkF.lt; have h2 := Nat.le_trans (Ext.size (show Ext w7 _ from (by with_reducible repeat (first | exact Ext.refl _ | refine Ext.alloc ?_ _ | refine Ext.drewN ?_ _ | refine Ext.trans ?_ (by assumption))))) hk; omega)) 1 1 rfl).mono ?_; rintro e w2 ⟨A2, c2, d2, rfl, H2, hb2, hE2⟩)) | ((with_reducible (show wpList _ _ _ (⟨_, Op.makeSlice _ _ _, _, _, _, _⟩ :: _) _ _)); go_loud (refine wpList_mkB rfl _ _ _ rfl _ infoB Try.underlying22 _ _ n rfl rfl (by omega) ?_; intro g3 w3 hg3 hO3 hE3)) | (go_at_call 19; go_loud (refine (append_calls (fun k => k ≠ g5) _ (fun k hk e => (by have h1 := hkF.lt; have h2 := Nat.le_trans (Ext.size (show Ext w7 _ from (by with_reducible repeat (first | exact Ext.refl _ | refine Ext.alloc ?_ _ | refine Ext.drewN ?_ _ | refine Ext.trans ?_ (by assumption))))) hk; omega)) A2 1 c2 d2 (by refine BL.ext (by assumption) ?_; (with_reducible repeat (first | exact Ext.refl _ | refine Ext.alloc ?_ _ | refine Ext.drewN ?_ _ | refine Ext.trans ?_ (by assumption)))) (by omega) _ n n (List.replicate n 0) (BV.ext (OB.bv (P := fun _ => True) hO3 (fun _ _ => trivial)) (by with_reducible repeat (first | exact Ext.refl _ | refine Ext.alloc ?_ _ | refine Ext.drewN ?_ _ | refine Ext.trans ?_ (by assumption)))) (by omega) 0 (by rw [H2.out]; decide) (by rw [H2.out]; decide) (by rw [H2.out]; decide)).mono ?_; rintro e w4 ⟨A5, c5, d5, e5, rfl, H5, hb5, hE5⟩; obtain ⟨rfl, rfl⟩ : d5 = largeD n ∧ e5 = largeE n := (by have := H5.out; rw [H2.out, (large_put n).2.1, (large_put n).2.2] at this; exact this))))
        refine nx_done rfl trivial ?_
        try simp only [Act.put, List.setIfInBounds_toArray, List.set]
        apply run_read rfl
        · intro w1 hS
          go_wp2
          exact rv_done rfl rfl
        try simp only [Act.put, List.setIfInBounds_toArray, List.set]
        apply run_read rfl
        · intro w1 hS
          go_wp2
          exact rv_done rfl rfl
        try simp only [Act.put, List.setIfInBounds_toArray, List.set]
        apply run_read rfl
        · intro w1 hS
          go_wp2
          exact rv_done rfl rfl
        try simp only [Act.put, List.setIfInBounds_toArray, List.set]
        refine run_call1 rfl ?_ run_none
        ((with_reducible (show wpList _ _ _ (⟨_, Op.store _ _ _, _, _, _, _⟩ :: _) _ _)); go_loud (refine wpList_stB rfl _ _ _ rfl _ rfl rfl (by refine Blk.ext (by assumption) ?_; (with_reducible repeat (first | exact Ext.refl _ | refine Ext.alloc ?_ _ | refine Ext.drewN ?_ _ | refine Ext.trans ?_ (by assumption)))) (by kernel_rfl) (by rfl) (by simp [Value.oneCell']) ?_; intro w6 hk6 hF6))
        refine wpList_nil ?_
        refine nx_done rfl trivial ?_
        try simp only [Act.put, List.setIfInBounds_toArray, List.set]
        refine run_tail rfl ?_
        refine wpList_forget (fun w8 => Blk w8 g5 27 #[.slice A5 1 c5, .int .i64 (largeD n).wr, .int .i64 (largeD n).ct, .int .i64 (largeD n).tn, .bool (largeD n).off] ∧ BL w8 (fun k => k ≠ g5) A5 1 c5 (largeD n).areas ∧ Ext w w8) ⟨hk6, BL.fr (BL.ext hb5 (by with_reducible repeat (first | exact Ext.refl _ | refine Ext.alloc ?_ _ | refine Ext.drewN ?_ _ | refine Ext.trans ?_ (by assumption)))) hF6, Ext.over (hEF.trans (by with_reducible repeat (first | exact Ext.refl _ | refine Ext.alloc ?_ _ | refine Ext.drewN ?_ _ | refine Ext.trans ?_ (by assumption)))) hF6 hgF⟩ ?_
        clear hk6 hF6 hb5 hb2 hE2 hE3 hO3 hE5 H2 H5 hkF hbF hEF
        rintro w8 ⟨hkF, hbF, hEF⟩
        rcases hlarge with ⟨hbig, hD, hEr⟩ | ⟨hbig, hD, hEr⟩
        · rw [hD] at hkF hbF
          simp only [hEr]
          obtain ⟨bb, ob, A', n', c', rfl, hcell, hn'⟩ := BL.at0 (l := []) hbF
          simp only [List.length_nil] at hn'
          subst hn'
          obtain ⟨q0, q1, q2, q3, q4⟩ := hkF.c5
          simp only [newS] at q1
          clear hbF hkF hD hEr
          go_wp2
          go_ret
          exact ⟨rfl, hEF⟩
        · rw [hD] at hkF hbF
          simp only [hEr]
          obtain ⟨bb, ob, A', n', c', rfl, hcell, hn'⟩ := BL.at0 (l := List.replicate n 0) hbF
          simp only [List.length_replicate] at hn'
          subst hn'
          obtain ⟨q0, q1, q2, q3, q4⟩ := hkF.c5
          clear hbF hkF hD hEr
          go_wp2
          go_ret
          exact ⟨rfl, hEF⟩
      refine run_call1 rfl ?_ run_none
      ((with_reducible (show wpList _ _ _ (⟨_, Op.alloc _, _, _, _, _⟩ :: _) _ _)); go_loud (refine wpList_alB (.agg #[.slice none 0 0, .int .i64 0, .int .i64 0, .int .i64 0, .bool false]) rfl _ rfl (by kernel_rfl) rfl ?_; intro g5 w5 hg5 hk5 hE5))
      refine wpList_nil ?_
      refine nx_done rfl trivial ?_
      try simp only [Act.put, List.setIfInBounds_toArray, List.set]
      try replace hb2 := BL.off hb2 (g := g5) (Nat.le_trans (Ext.size (by with_reducible repeat (first | exact Ext.refl _ | refine Ext.alloc ?_ _ | refine Ext.drewN ?_ _ | refine Ext.trans ?_ (by assumption)))) hg5)
      try replace hb4 := BL.off hb4 (g := g5) (Nat.le_trans (Ext.size (by with_reducible repeat (first | exact Ext.refl _ | refine Ext.alloc ?_ _ | refine Ext.drewN ?_ _ | refine Ext.trans ?_ (by assumption)))) hg5)
      refine run_call1 rfl ?_ run_none
      go_wp2_with (first | (go_at_call 22; go_loud ((first | refine (newP_calls' (fun k => k ≠ g5) _ (fun k hk e => (by have h1 := hk5.lt; have h2 := Nat.le_trans (Ext.size (show Ext w5 _ from (by with_reducible repeat (first | exact Ext.refl _ | refine Ext.alloc ?_ _ | refine Ext.drewN ?_ _ | refine Ext.trans ?_ (by assumption))))) hk; omega)) 1 1 rfl).mono ?_ | refine (newP_calls' (fun _ => True) _ (Anew.top _) 1 1 rfl).mono ?_); rintro e w2 ⟨A2, c2, d2, rfl, H2, hb2, hE2⟩)) | ((with_reducible (show wpList _ _ _ (⟨_, Op.makeSlice _ _ _, _, _, _, _⟩ :: _) _ _)); go_loud (refine wpList_mkB rfl _ _ _ rfl _ infoB Try.underlying22 _ _ n rfl rfl (by omega) ?_; intro g3 w3 hg3 hO3 hE3)) | (go_at_call 17; go_loud ((first | refine (write_calls (fun k => k ≠ g5) _ (fun k hk e => (by have h1 := hk5.lt; have h2 := Nat.le_trans (Ext.size (show Ext w5 _ from (by with_reducible repeat (first | exact Ext.refl _ | refine Ext.alloc ?_ _ | refine Ext.drewN ?_ _ | refine Ext.trans ?_ (by assumption))))) hk; omega)) A2 1 c2 d2 (by refine BL.ext (by assumption) ?_; (with_reducible repeat (first | exact Ext.refl _ | refine Ext.alloc ?_ _ | refine Ext.drewN ?_ _ | refine Ext.trans ?_ (by assumption)))) (by omega) _ n n (List.replicate n 0) (BV.ext (OB.bv (P := fun _ => True) hO3 (fun _ _ => trivial)) (by with_reducible repeat (first | exact Ext.refl _ | refine Ext.alloc ?_ _ | refine Ext.drewN ?_ _ | refine Ext.trans ?_ (by assumption)))) (by omega) 0 (by rw [H2.out]; decide) (by rw [H2.out]; decide) (by rw [H2.out]; decide)).mono ?_ | refine (write_calls (fun _ => True) _ (Anew.top _) A2 1 c2 d2 (by refine BL.ext (by assumption) ?_; (with_reducible repeat (first | exact Ext.refl _ | refine Ext.alloc ?_ _ | refine Ext.drewN ?_ _ | refine Ext.trans ?_ (by assumption)))) (by omega) _ n n (List.replicate n 0) (BV.ext (OB.bv (P := fun _ => True) hO3 (fun _ _ => trivial)) (by with_reducible repeat (first | exact Ext.refl _ | refine Ext.alloc ?_ _ | refine Ext.drewN ?_ _ | refine Ext.trans ?_ (by assumption)))) (by omega) 0 (by rw [H2.out]; decide) (by rw [H2.out]; decide) (by rw [H2.out]; decide)).mono ?_); rintro e w4 ⟨A4, c4, d4, e4, rfl, H4, hb4, hE4⟩; obtain ⟨rfl, rfl⟩ : d4 = largeD n ∧ e4 = largeE n := (by have := H4.out; rw [H2.out, (large_put n).1, (large_put n).2.2] at this; exact this))))
      refine nx_done rfl trivial ?_
      try simp only [Act.put, List.setIfInBounds_toArray, List.set]
      apply run_read rfl
      · intro w1 hS
        go_wp2
        exact rv_done rfl rfl
      try simp only [Act.put, List.setIfInBounds_toArray, List.set]
      apply run_read rfl
      · intro w1 hS
        go_wp2
        exact rv_done rfl rfl
      try simp only [Act.put, List.setIfInBounds_toArray, List.set]
      apply run_read rfl
      · intro w1 hS
        go_wp2
        exact rv_done rfl rfl
      try simp only [Act.put, List.setIfInBounds_toArray, List.set]
      refine run_call1 rfl ?_ run_none
      ((with_reducible (show wpList _ _ _ (⟨_, Op.store _ _ _, _, _, _, _⟩ :: _) _ _)); go_loud (refine wpList_stB rfl _ _ _ rfl _ rfl rfl (by refine Blk.ext (by assumption) ?_; (with_reducible repeat (first | exact Ext.refl _ | refine Ext.alloc ?_ _ | refine Ext.drewN ?_ _ | refine Ext.trans ?_ (by assumption)))) (by kernel_rfl) (by rfl) (by simp [Value.oneCell']) ?_; intro w6 hk6 hF6))
      refine wpList_nil ?_
      refine nx_done rfl trivial ?_
      try simp only [Act.put, List.setIfInBounds_toArray, List.set]
      refine run_tail rfl ?_
      refine wpList_forget (fun w7 => Blk w7 g5 27 #[.slice A4 1 c4, .int .i64 (largeD n).wr, .int .i64 (largeD n).ct, .int .i64 (largeD n).tn, .bool (largeD n).off] ∧ BL w7 (fun k => k ≠ g5) A4 1 c4 (largeD n).areas ∧ Ext w w7 ∧ w.heap.size ≤ g5) ⟨hk6, BL.fr (BL.ext hb4 (by with_reducible repeat (first | exact Ext.refl _ | refine Ext.alloc ?_ _ | refine Ext.drewN ?_ _ | refine Ext.trans ?_ (by assumption)))) hF6, Ext.over (by with_reducible repeat (first | exact Ext.refl _ | refine Ext.alloc ?_ _ | refine Ext.drewN ?_ _ | refine Ext.trans ?_ (by assumption))) hF6 (Nat.le_trans (Ext.size (by with_reducible repeat (first | exact Ext.refl _ | refine Ext.alloc ?_ _ | refine Ext.drewN ?_ _ | refine Ext.trans ?_ (by assumption)))) hg5), Nat.le_trans (Ext.size (by with_reducible repeat (first | exact Ext.refl _ | refine Ext.alloc ?_ _ | refine Ext.drewN ?_ _ | refine Ext.trans ?_ (by assumption)))) hg5⟩ ?_
      clear hk6 hF6 hb4 hb2 hE1 hE2 hE3 hE4 hE5 hk5 hO3 hg5 H2 H4
      rintro w7 ⟨hkF, hbF, hEF, hgF⟩
      go_upto_region 7 with fail
      refine wp_region_planG (fun _ _ => True) (.read 1 (.call false 0 (.call false 2 (.call true 3 (.read 4 (.read 5 (.read 6 (.call false 7 .tail .none)))) .none) .none) (.call true 2 (.call false 0 (.call true 3 (.read 4 (.read 5 (.read 6 (.call false 7 .tail .none)))) .none) .none) .none))) 8 (by kernel_rfl) (by kernel_rfl) (by kernel_rfl) (fun _ => trivial) (fun _ _ _ _ _ => trivial) Ext (Ext.drew (Ext.refl _)) (fun wR hR => ?_)
      apply run_read rfl
      · intro w1 hS
        go_wp2
        exact rv_done rfl rfl
      try simp only [Act.put, List.setIfInBounds_toArray, List.set]
      refine run_call1 rfl ?_ ?_
      · go_wp2_with (first | (go_at_call 22; go_loud (refine (newP_calls' (fun k => k ≠ g5) _ (fun k hk e => (by have h1 := hkF.lt; have h2 := Nat.le_trans (Ext.size (show Ext w7 _ from (by with_reducible repeat (first | exact Ext.refl _ | refine Ext.alloc ?_ _ | refine Ext.drewN ?_ _ | refine Ext.trans ?_ (by assumption))))) hk; omega)) 1 1 rfl).mono ?_; rintro e w2 ⟨A2, c2, d2, rfl, H2, hb2, hE2⟩)) | ((with_reducible (show wpList _ _ _ (⟨_, Op.makeSlice _ _ _, _, _, _, _⟩ :: _) _ _)); go_loud (refine wpList_mkB rfl _ _ _ rfl _ infoB Try.underlying22 _ _ n rfl rfl (by omega) ?_; intro g3 w3 hg3 hO3 hE3)) | (go_at_call 19; go_loud (refine (append_calls (fun k => k ≠ g5) _ (fun k hk e => (by have h1 := hkF.lt; have h2 := Nat.le_trans (Ext.size (show Ext w7 _ from (by with_reducible repeat (first | exact Ext.refl _ | refine Ext.alloc ?_ _ | refine Ext.drewN ?_ _ | refine Ext.trans ?_ (by assumption))))) hk; omega)) A2 1 c2 d2 (by refine BL.ext (by assumption) ?_; (with_reducible repeat (first | exact Ext.refl _ | refine Ext.alloc ?_ _ | refine Ext.drewN ?_ _ | refine Ext.trans ?_ (by assumption)))) (by omega) _ n n (List.replicate n 0) (BV.ext (OB.bv (P := fun _ => True) hO3 (fun _ _ => trivial)) (by with_reducible repeat (first | exact Ext.refl _ | refine Ext.alloc ?_ _ | refine Ext.drewN ?_ _ | refine Ext.trans ?_ (by assumption)))) (by omega) 0 (by rw [H2.out]; decide) (by rw [H2.out]; decide) (by rw [H2.out]; decide)).mono ?_; rintro e w4 ⟨A5, c5, d5, e5, rfl, H5, hb5, hE5⟩; obtain ⟨rfl, rfl⟩ : d5 = largeD n ∧ e5 = largeE n := (by have := H5.out; rw [H2.out, (large_put n).2.1, (large_put n).2.2] at this; exact this))))
        refine nx_done rfl trivial ?_
        try simp only [Act.put, List.setIfInBounds_toArray, List.set]
        refine run_call1 rfl ?_ run_none
        go_wp2_with (first | (go_at_call 22; go_loud (refine (newP_calls' (fun k => k ≠ g5) _ (fun k hk e => (by have h1 := hkF.lt; have h2 := Nat.le_trans (Ext.size (show Ext w7 _ from (by with_reducible repeat (first | exact Ext.refl _ | refine Ext.alloc ?_ _ | refine Ext.drewN ?_ _ | refine Ext.trans ?_ (by assumption))))) hk; omega)) 1 1 rfl).mono ?_; rintro e w2 ⟨A2, c2, d2, rfl, H2, hb2, hE2⟩)) | ((with_reducible (show wpList _ _ _ (⟨_, Op.makeSlice _ _ _, _, _, _, _⟩ :: _) _ _)); go_loud (refine wpList_mkB rfl _ _ _ rfl _ infoB Try.underlying22 _ _ n rfl rfl (by omega) ?_; intro g3 w3 hg3 hO3 hE3)) | (go_at_call 19; go_loud (refine (append_calls (fun k => k ≠ g5) _ (fun k hk e => (by have h1 := hkF.lt; have h2 := Nat.le_trans (Ext.size (show Ext w7 _ from (by with_reducible repeat (first | exact Ext.refl _ | refine Ext.alloc ?_ _ | refine Ext.drewN ?_ _ | refine Ext.trans ?_ (by assumption))))) hk; omega)) A2 1 c2 d2 (by refine BL.ext (by assumption) ?_; (with_reducible repeat (first | exact Ext.refl _ | refine Ext.alloc ?_ _ | refine Ext.drewN ?_ _ | refine Ext.trans ?_ (by assumption)))) (by omega) _ n n (List.replicate n 0) (BV.ext (OB.bv (P := fun _ => True) hO3 (fun _ _ => trivial)) (by with_reducible repeat (first | exact Ext.refl _ | refine Ext.alloc ?_ _ | refine Ext.drewN ?_ _ | refine Ext.trans ?_ (by assumption)))) (by omega) 0 (by rw [H2.out]; decide) (by rw [H2.out]; decide) (by rw [H2.out]; decide)).mono ?_; rintro e w4 ⟨A5, c5, d5, e5, rfl, H5, hb5, hE5⟩; obtain ⟨rfl, rfl⟩ : d5 = largeD n ∧ e5 = largeE n := (by have := H5.out; rw [H2.out, (large_put n).2.1, (large_put n).2.2] at this; exact this))))
        refine nx_done rfl trivial ?_
        try simp only [Act.put, List.setIfInBounds_toArray, List.set]
        refine run_free rfl ?_ run_none
        go_wp2_with (first | (go_at_call 22; go_loud (refine (newP_calls' (fun k => k ≠ g5) _ (fun k hk e => (by have h1 := hkF.lt; have h2 := Nat.le_trans (Ext.size (show Ext w7 _ from (by with_reducible repeat (first | exact Ext.refl _ | refine Ext.alloc ?_ _ | refine Ext.drewN ?_ _ | refine Ext.trans ?_ (by assumption))))) hk; omega)) 1 1 rfl).mono ?_; rintro e w2 ⟨A2, c2, d2, rfl, H2, hb2, hE2⟩)) | ((with_reducible (show wpList _ _ _ (⟨_, Op.makeSlice _ _ _, _, _, _, _⟩ :: _) _ _)); go_loud (refine wpList_mkB rfl _ _ _ rfl _ infoB Try.underlying22 _ _ n rfl rfl (by omega) ?_; intro g3 w3 hg3 hO3 hE3)) | (go_at_call 19; go_loud (refine (append_calls (fun k => k ≠ g5) _ (fun k hk e => (by have h1 := hkF.lt; have h2 := Nat.le_trans (Ext.size (show Ext w7 _ from (by with_reducible repeat (first | exact Ext.refl _ | refine Ext.alloc ?_ _ | refine Ext.drewN ?_ _ | refine Ext.trans ?_ (by assumption))))) hk; omega)) A2 1 c2 d2 (by refine BL.ext (by assumption) ?_; (with_reducible repeat (first | exact Ext.refl _ | refine Ext.alloc ?_ _ | refine Ext.drewN ?_ _ | refine Ext.trans ?_ (by assumption)))) (by omega) _ n n (List.replicate n 0) (BV.ext (OB.bv (P := fun _ => True) hO3 (fun _ _ => trivial)) (by with_reducible repeat (first | exact Ext.refl _ | refine Ext.alloc ?_ _ | refine Ext.drewN ?_ _ | refine Ext.trans ?_ (by assumption)))) (by omega) 0 (by rw [H2.out]; decide) (by rw [H2.out]; decide) (by rw [H2.out]; decide)).mono ?_; rintro e w4 ⟨A5, c5, d5, e5, rfl, H5, hb5, hE5⟩; obtain ⟨rfl, rfl⟩ : d5 = largeD n ∧ e5 = largeE n := (by have := H5.out; rw [H2.out, (large_put n).2.1, (large_put n).2.2] at this; exact this))))
        refine nx_done rfl trivial ?_
        try simp only [Act.put, List.setIfInBounds_toArray, List.set]
        apply run_read rfl
        · intro w1 hS
          go_wp2
          exact rv_done rfl rfl
        try simp only [Act.put, List.setIfInBounds_toArray, List.set]
        apply run_read rfl
        · intro w1 hS
          go_wp2
          exact rv_done rfl rfl
        try simp only [Act.put, List.setIfInBounds_toArray, List.set]
        apply run_read rfl
        · intro w1 hS
          go_wp2
          exact rv_done rfl rfl
        try simp only [Act.put, List.setIfInBounds_toArray, List.set]
        refine run_call1 rfl ?_ run_none
        ((with_reducible (show wpList _ _ _ (⟨_, Op.store _ _ _, _, _, _, _⟩ :: _) _ _)); go_loud (refine wpList_stB rfl _ _ _ rfl _ rfl rfl (by refine Blk.ext (by assumption) ?_; (with_reducible repeat (first | exact Ext.refl _ | refine Ext.alloc ?_ _ | refine Ext.drewN ?_ _ | refine Ext.trans ?_ (by assumption)))) (by kernel_rfl) (by rfl) (by simp [Value.oneCell']) ?_; intro w6 hk6 hF6))
        refine wpList_nil ?_
        refine nx_done rfl trivial ?_
        try simp only [Act.put, List.setIfInBounds_toArray, List.set]
        refine run_tail rfl ?_
        refine wpList_forget (fun w8 => Blk w8 g5 27 #[.slice A5 1 c5, .int .i64 (largeD n).wr, .int .i64 (largeD n).ct, .int .i64 (largeD n).tn, .bool (largeD n).off] ∧ BL w8 (fun k => k ≠ g5) A5 1 c5 (largeD n).areas ∧ Ext w w8) ⟨hk6, BL.fr (BL.ext hb5 (by with_reducible repeat (first | exact Ext.refl _ | refine Ext.alloc ?_ _ | refine Ext.drewN ?_ _ | refine Ext.trans ?_ (by assumption)))) hF6, Ext.over (hEF.trans (by with_reducible repeat (first | exact Ext.refl _ | refine Ext.alloc ?_ _ | refine Ext.drewN ?_ _ | refine Ext.trans ?_ (by assumption)))) hF6 hgF⟩ ?_
        clear hk6 hF6 hb5 hb2 hE2 hE3 hO3 hE5 H2 H5 hkF hbF hEF
        rintro w8 ⟨hkF, hbF, hEF⟩
        rcases hlarge with ⟨hbig, hD, hEr⟩ | ⟨hbig, hD, hEr⟩
        · rw [hD] at hkF hbF
          simp only [hEr]
          obtain ⟨bb, ob, A', n', c', rfl, hcell, hn'⟩ := BL.at0 (l := []) hbF
          simp only [List.length_nil] at hn'
          subst hn'
          obtain ⟨q0, q1, q2, q3, q4⟩ := hkF.c5
          simp only [newS] at q1
          clear hbF hkF hD hEr
          go_wp2
          go_ret
          exact ⟨rfl, hEF⟩
        · rw [hD] at hkF hbF
          simp only [hEr]
          obtain ⟨bb, ob, A', n', c', rfl, hcell, hn'⟩ := BL.at0 (l := List.replicate n 0) hbF
          simp only [List.length_replicate] at hn'
          subst hn'
          obtain ⟨q0, q1, q2, q3, q4⟩ := hkF.c5
          clear hbF hkF hD hEr
          go_wp2
          go_ret
          exact ⟨rfl, hEF⟩
      refine run_free rfl ?_ run_none
      go_wp2_with (first | (go_at_call 22; go_loud (refine (newP_calls' (fun k => k ≠ g5) _ (fun k hk e => (by have h1 := hkF.lt; have h2 := Nat.le_trans (Ext.size (show Ext w7 _ from (by with_reducible repeat (first | exact Ext.refl _ | refine Ext.alloc ?_ _ | refine Ext.drewN ?_ _ | refine Ext.trans ?_ (by assumption))))) hk; omega)) 1 1 rfl).mono ?_; rintro e w2 ⟨A2, c2, d2, rfl, H2, hb2, hE2⟩)) | ((with_reducible (show wpList _ _ _ (⟨_, Op.makeSlice _ _ _, _, _, _, _⟩ :: _) _ _)); go_loud (refine wpList_mkB rfl _ _ _ rfl _ infoB Try.underlying22 _ _ n rfl rfl (by omega) ?_; intro g3 w3 hg3 hO3 hE3)) | (go_at_call 19; go_loud (refine (append_calls (fun k => k ≠ g5) _ (fun k hk e => (by have h1 := hkF.lt; have h2 := Nat.le_trans (Ext.size (show Ext w7 _ from (by with_reducible repeat (first | exact Ext.refl _ | refine Ext.alloc ?_ _ | refine Ext.drewN ?_ _ | refine Ext.trans ?_ (by assumption))))) hk; omega)) A2 1 c2 d2 (by refine BL.ext (by assumption) ?_; (with_reducible repeat (first | exact Ext.refl _ | refine Ext.alloc ?_ _ | refine Ext.drewN ?_ _ | refine Ext.trans ?_ (by assumption)))) (by omega) _ n n (List.replicate n 0) (BV.ext (OB.bv (P := fun _ => True) hO3 (fun _ _ => trivial)) (by with_reducible repeat (first | exact Ext.refl _ | refine Ext.alloc ?_ _ | refine Ext.drewN ?_ _ | refine Ext.trans ?_ (by assumption)))) (by omega) 0 (by rw [H2.out]; decide) (by rw [H2.out]; decide) (by rw [H2.out]; decide)).mono ?_; rintro e w4 ⟨A5, c5, d5, e5, rfl, H5, hb5, hE5⟩; obtain ⟨rfl, rfl⟩ : d5 = largeD n ∧ e5 = largeE n := (by have := H5.out; rw [H2.out, (large_put n).2.1, (large_put n).2.2] at this; exact this))))
      refine nx_done rfl trivial ?_
      try simp only [Act.put, List.setIfInBounds_toArray, List.set]
      refine run_call1 rfl ?_ run_none
      go_wp2_with (first | (go_at_call 22; go_loud (refine (newP_calls' (fun k => k ≠ g5) _ (fun k hk e => (by have h1 := hkF.lt; have h2 := Nat.le_trans (Ext.size (show Ext w7 _ from (by with_reducible repeat (first | exact Ext.refl _ | refine Ext.alloc ?_ _ | refine Ext.drewN ?_ _ | refine Ext.trans ?_ (by assumption))))) hk; omega)) 1 1 rfl).mono ?_; rintro e w2 ⟨A2, c2, d2, rfl, H2, hb2, hE2⟩)) | ((with_reducible (show wpList _ _ _ (⟨_, Op.makeSlice _ _ _, _, _, _, _⟩ :: _) _ _)); go_loud (refine wpList_mkB rfl _ _ _ rfl _ infoB Try.underlying22 _ _ n rfl rfl (by omega) ?_; intro g3 w3 hg3 hO3 hE3)) | (go_at_call 19; go_loud (refine (append_calls (fun k => k ≠ g5) _ (fun k hk e => (by have h1 := hkF.lt; have h2 := Nat.le_trans (Ext.size (show Ext w7 _ from (by with_reducible repeat (first | exact Ext.refl _ | refine Ext.alloc ?_ _ | refine Ext.drewN ?_ _ | refine Ext.trans ?_ (by assumption))))) hk; omega)) A2 1 c2 d2 (by refine BL.ext (by assumption) ?_; (with_reducible repeat (first | exact Ext.refl _ | refine Ext.alloc ?_ _ | refine Ext.drewN ?_ _ | refine Ext.trans ?_ (by assumption)))) (by omega) _ n n (List.replicate n 0) (BV.ext (OB.bv (P := fun _ => True) hO3 (fun _ _ => trivial)) (by with_reducible repeat (first | exact Ext.refl _ | refine Ext.alloc ?_ _ | refine Ext.drewN ?_ _ | refine Ext.trans ?_ (by assumption)))) (by omega) 0 (by rw [H2.out]; decide) (by rw [H2.out]; decide) (by rw [H2.out]; decide)).mono ?_; rintro e w4 ⟨A5, c5, d5, e5, rfl, H5, hb5, hE5⟩; obtain ⟨rfl, rfl⟩ : d5 = largeD n ∧ e5 = largeE n := (by have := H5.out; rw [H2.out, (large_put n).2.1, (large_put n).2.2] at this; exact this))))
      refine nx_done rfl trivial ?_
      try simp only [Act.put, List.setIfInBounds_toArray, List.set]
      refine run_free rfl ?_ run_none
      go_wp2_with (first | (go_at_call 22; go_loud (refine (newP_calls' (fun k => k ≠ g5) _ (fun k hk e => (by have h1 := hkF.lt; have h2 := Nat.le_trans (Ext.size (show Ext w7 _ from (by with_reducible repeat (first | exact Ext.refl _ | refine Ext.alloc ?_ _ | refine Ext.drewN ?_ _ | refine Ext.trans ?_ (by assumption))))) hk; omega)) 1 1 rfl).mono ?_; rintro e w2 ⟨A2, c2, d2, rfl, H2, hb2, hE2⟩)) | ((with_reducible (show wpList _ _ _ (⟨_, Op.makeSlice _ _ _, _, _, _, _⟩ :: _) _ _)); go_loud (refine wpList_mkB rfl _ _ _ rfl _ infoB Try.underlying22 _ _ n rfl rfl (by omega) ?_; intro g3 w3 hg3 hO3 hE3)) | (go_at_call 19; go_loud (refine (append_calls (fun k => k ≠ g5) _ (fun k hk e => (by have h1 := hkF.lt; have h2 := Nat.le_trans (Ext.size (show Ext w7 _ from (by with_reducible repeat (first | exact Ext.refl _ | refine Ext.alloc ?_ _ | refine Ext.drewN ?_ _ | refine Ext.trans ?_ (by assumption))))) hk; omega)) A2 1 c2 d2 (by refine BL.ext (by assumption) ?_; (with_reducible repeat (first | exact Ext.refl _ | refine Ext.alloc ?_ _ | refine Ext.drewN ?_ _ | refine Ext.trans ?_ (by assumption)))) (by omega) _ n n (List.replicate n 0) (BV.ext (OB.bv (P := fun _ => True) hO3 (fun _ _ => trivial)) (by with_reducible repeat (first | exact Ext.refl _ | refine Ext.alloc ?_ _ | refine Ext.drewN ?_ _ | refine Ext.trans ?_ (by assumption)))) (by omega) 0 (by rw [H2.out]; decide) (by rw [H2.out]; decide) (by rw [H2.out]; decide)).mono ?_; rintro e w4 ⟨A5, c5, d5, e5, rfl, H5, hb5, hE5⟩; obtain ⟨rfl, rfl⟩ : d5 = largeD n ∧ e5 = largeE n := (by have := H5.out; rw [H2.out, (large_put n).2.1, (large_put n).2.2] at this; exact this))))
      refine nx_done rfl trivial ?_
      try simp only [Act.put, List.setIfInBounds_toArray, List.set]
      apply run_read rfl
      · intro w1 hS
        go_wp2
        exact rv_done rfl rfl
      try simp only [Act.put, List.setIfInBounds_toArray, List.set]
      apply run_read rfl
      · intro w1 hS
        go_wp2
        exact rv_done rfl rfl
      try simp only [Act.put, List.setIfInBounds_toArray, List.set]
      apply run_read rfl
      · intro w1 hS
        go_wp2
        exact rv_done rfl rfl
      try simp only [Act.put, List.setIfInBounds_toArray, List.set]
      refine run_call1 rfl ?_ run_none
      ((with_reducible (show wpList _ _ _ (⟨_, Op.store _ _ _, _, _, _, _⟩ :: _) _ _)); go_loud (refine wpList_stB rfl _ _ _ rfl _ rfl rfl (by refine Blk.ext (by assumption) ?_; (with_reducible repeat (first | exact Ext.refl _ | refine Ext.alloc ?_ _ | refine Ext.drewN ?_ _ | refine Ext.trans ?_ (by assumption)))) (by kernel_rfl) (by rfl) (by simp [Value.oneCell']) ?_; intro w6 hk6 hF6))
      refine wpList_nil ?_
      refine nx_done rfl trivial ?_
      try simp only [Act.put, List.setIfInBounds_toArray, List.set]
      refine run_tail rfl ?_
      refine wpList_forget (fun w8 => Blk w8 g5 27 #[.slice A5 1 c5, .int .i64 (largeD n).wr, .int .i64 (largeD n).ct, .int .i64 (largeD n).tn, .bool (largeD n).off] ∧ BL w8 (fun k => k ≠ g5) A5 1 c5 (largeD n).areas ∧ Ext w w8) ⟨hk6, BL.fr (BL.ext hb5 (by with_reducible repeat (first | exact Ext.refl _ | refine Ext.alloc ?_ _ | refine Ext.drewN ?_ _ | refine Ext.trans ?_ (by assumption)))) hF6, Ext.over (hEF.trans (by with_reducible repeat (first | exact Ext.refl _ | refine Ext.alloc ?_ _ | refine Ext.drewN ?_ _ | refine Ext.trans ?_ (by assumption)))) hF6 hgF⟩ ?_
      clear hk6 hF6 hb5 hb2 hE2 hE3 hO3 hE5 H2 H5 hkF hbF hEF
      rintro w8 ⟨hkF, hbF, hEF⟩
      rcases hlarge with ⟨hbig, hD, hEr⟩ | ⟨hbig, hD, hEr⟩
      · rw [hD] at hkF hbF
        simp only [hEr]
        obtain ⟨bb, ob, A', n', c', rfl, hcell, hn'⟩ := BL.at0 (l := []) hbF
        simp only [List.length_nil] at hn'
        subst hn'
        obtain ⟨q0, q1, q2, q3, q4⟩ := hkF.c5
        simp only [newS] at q1
        clear hbF hkF hD hEr
        go_wp2
        go_ret
        exact ⟨rfl, hEF⟩
      · rw [hD] at hkF hbF
        simp only [hEr]
        obtain ⟨bb, ob, A', n', c', rfl, hcell, hn'⟩ := BL.at0 (l := List.replicate n 0) hbF
        simp only [List.length_replicate] at hn'
        subst hn'
        obtain ⟨q0, q1, q2, q3, q4⟩ := hkF.c5
        clear hbF hkF hD hEr
        go_wp2
        go_ret
        exact ⟨rfl, hEF⟩
    refine run_call1 rfl ?_ run_none
    ((with_reducible (show wpList _ _ _ (⟨_, Op.alloc _, _, _, _, _⟩ :: _) _ _)); go_loud (refine wpList_alB (.agg #[.slice none 0 0, .int .i64 0, .int .i64 0, .int .i64 0, .bool false]) rfl _ rfl (by kernel_rfl) rfl ?_; intro g5 w5 hg5 hk5 hE5))
    refine wpList_nil ?_
    refine nx_done rfl trivial ?_
    try simp only [Act.put, List.setIfInBounds_toArray, List.set]
    try replace hb2 := BL.off hb2 (g := g5) (Nat.le_trans (Ext.size (by with_reducible repeat (first | exact Ext.refl _ | refine Ext.alloc ?_ _ | refine Ext.drewN ?_ _ | refine Ext.trans ?_ (by assumption)))) hg5)
    try replace hb4 := BL.off hb4 (g := g5) (Nat.le_trans (Ext.size (by with_reducible repeat (first | exact Ext.refl _ | refine Ext.alloc ?_ _ | refine Ext.drewN ?_ _ | refine Ext.trans ?_ (by assumption)))) hg5)
    refine run_call1 rfl ?_ run_none
    go_wp2_with (first | (go_at_call 22; go_loud ((first | refine (newP_calls' (fun k => k ≠ g5) _ (fun k hk e => (by have h1 := hk5.lt; have h2 := Nat.le_trans (Ext.size (show Ext w5 _ from (by with_reducible repeat (first | exact Ext.refl _ | refine Ext.alloc ?_ _ | refine Ext.drewN ?_ _ | refine Ext.trans ?_ (by assumption))))) hk; omega)) 1 1 rfl).mono ?_ | refine (newP_calls' (fun _ => True) _ (Anew.top _) 1 1 rfl).mono ?_); rintro e w2 ⟨A2, c2, d2, rfl, H2, hb2, hE2⟩)) | ((with_reducible (show wpList _ _ _ (⟨_, Op.makeSlice _ _ _, _, _, _, _⟩ :: _) _ _)); go_loud (refine wpList_mkB rfl _ _ _ rfl _ infoB Try.underlying22 _ _ n rfl rfl (by omega) ?_; intro g3 w3 hg3 hO3 hE3)) | (go_at_call 17; go_loud ((first | refine (write_calls (fun k => k ≠ g5) _ (fun k hk e => (by have h1 := hk5.lt; have h2 := Nat.le_trans (Ext.size (show Ext w5 _ from (by with_reducible repeat (first | exact Ext.refl _ | refine Ext.alloc ?_ _ | refine Ext.drewN ?_ _ | refine Ext.trans ?_ (by assumption))))) hk; omega)) A2 1 c2 d2 (by refine BL.ext (by assumption) ?_; (with_reducible repeat (first | exact Ext.refl _ | refine Ext.alloc ?_ _ | refine Ext.drewN ?_ _ | refine Ext.trans ?_ (by assumption)))) (by omega) _ n n (List.replicate n 0) (BV.ext (OB.bv (P := fun _ => True) hO3 (fun _ _ => trivial)) (by with_reducible repeat (first | exact Ext.refl _ | refine Ext.alloc ?_ _ | refine Ext.drewN ?_ _ | refine Ext.trans ?_ (by assumption)))) (by omega) 0 (by rw [H2.out]; decide) (by rw [H2.out]; decide) (by rw [H2.out]; decide)).mono ?_ | refine (write_calls (fun _ => True) _ (Anew.top _) A2 1 c2 d2 (by refine BL.ext (by assumption) ?_; (with_reducible repeat (first | exact Ext.refl _ | refine Ext.alloc ?_ _ | refine Ext.drewN ?_ _ | refine Ext.trans ?_ (by assumption)))) (by omega) _ n n (List.replicate n 0) (BV.ext (OB.bv (P := fun _ => True) hO3 (fun _ _ => trivial)) (by with_reducible repeat (first | exact Ext.refl _ | refine Ext.alloc ?_ _ | refine Ext.drewN ?_ _ | refine Ext.trans ?_ (by assumption)))) (by omega) 0 (by rw [H2.out]; decide) (by rw [H2.out]; decide) (by rw [H2.out]; decide)).mono ?_); rintro e w4 ⟨A4, c4, d4, e4, rfl, H4, hb4, hE4⟩; obtain ⟨rfl, rfl⟩ : d4 = largeD n ∧ e4 = largeE n := (by have := H4.out; rw [H2.out, (large_put n).1, (large_put n).2.2] at this; exact this))))
    refine nx_done rfl trivial ?_
    try simp only [Act.put, List.setIfInBounds_toArray, List.set]
    refine run_call1 rfl ?_ run_none
    go_wp2_with (first | (go_at_call 22; go_loud ((first | refine (newP_calls' (fun k => k ≠ g5) _ (fun k hk e => (by have h1 := hk5.lt; have h2 := Nat.le_trans (Ext.size (show Ext w5 _ from (by with_reducible repeat (first | exact Ext.refl _ | refine Ext.alloc ?_ _ | refine Ext.drewN ?_ _ | refine Ext.trans ?_ (by assumption))))) hk; omega)) 1 1 rfl).mono ?_ | refine (newP_calls' (fun _ => True) _ (Anew.top _) 1 1 rfl).mono ?_); rintro e w2 ⟨A2, c2, d2, rfl, H2, hb2, hE2⟩)) | ((with_reducible (show wpList _ _ _ (⟨_, Op.makeSlice _ _ _, _, _, _, _⟩ :: _) _ _)); go_loud (refine wpList_mkB rfl _ _ _ rfl _ infoB Try.underlying22 _ _ n rfl rfl (by omega) ?_; intro g3 w3 hg3 hO3 hE3)) | (go_at_call 17; go_loud ((first | refine (write_calls (fun k => k ≠ g5) _ (fun k hk e => (by have h1 := hk5.lt; have h2 := Nat.le_trans (Ext.size (show Ext w5 _ from (by with_reducible repeat (first | exact Ext.refl _ | refine Ext.alloc ?_ _ | refine Ext.drewN ?_ _ | refine Ext.trans ?_ (by assumption))))) hk; omega)) A2 1 c2 d2 (by refine BL.ext (by assumption) ?_; (with_reducible repeat (first | exact Ext.refl _ | refine Ext.alloc ?_ _ | refine Ext.drewN ?_ _ | refine Ext.trans ?_ (by assumption)))) (by omega) _ n n (List.replicate n 0) (BV.ext (OB.bv (P := fun _ => True) hO3 (fun _ _ => trivial)) (by with_reducible repeat (first | exact Ext.refl _ | refine Ext.alloc ?_ _ | refine Ext.drewN ?_ _ | refine Ext.trans ?_ (by assumption)))) (by omega) 0 (by rw [H2.out]; decide) (by rw [H2.out]; decide) (by rw [H2.out]; decide)).mono ?_ | refine (write_calls (fun _ => True) _ (Anew.top _) A2 1 c2 d2 (by refine BL.ext (by assumption) ?_; (with_reducible repeat (first | exact Ext.refl _ | refine Ext.alloc ?_ _ | refine Ext.drewN ?_ _ | refine Ext.trans ?_ (by assumption)))) (by omega) _ n n (List.replicate n 0) (BV.ext (OB.bv (P := fun _ => True) hO3 (fun _ _ => trivial)) (by with_reducible repeat (first | exact Ext.refl _ | refine Ext.alloc ?_ _ | refine Ext.drewN ?_ _ | refine Ext.trans ?_ (by assumption)))) (by omega) 0 (by rw [H2.out]; decide) (by rw [H2.out]; decide) (by rw [H2.out]; decide)).mono ?_); rintro e w4 ⟨A4, c4, d4, e4, rfl, H4, hb4, hE4⟩; obtain ⟨rfl, rfl⟩ : d4 = largeD n ∧ e4 = largeE n := (by have := H4.out; rw [H2.out, (large_put n).1, (large_put n).2.2] at this; exact this))))
    refine nx_done rfl trivial ?_
    try simp only [Act.put, List.setIfInBounds_toArray, List.set]
    apply run_read rfl
    · intro w1 hS
      go_wp2
      exact rv_done rfl rfl
    try simp only [Act.put, List.setIfInBounds_toArray, List.set]
    apply run_read rfl
    · intro w1 hS
      go_wp2
      exact rv_done rfl rfl
    try simp only [Act.put, List.setIfInBounds_toArray, List.set]
    apply run_read rfl
    · intro w1 hS
      go_wp2
      exact rv_done rfl rfl
    try simp only [Act.put, List.setIfInBounds_toArray, List.set]
    refine run_call1 rfl ?_ run_none
    ((with_reducible (show wpList _ _ _ (⟨_, Op.store _ _ _, _, _, _, _⟩ :: _) _ _)); go_loud (refine wpList_stB rfl _ _ _ rfl _ rfl rfl (by refine Blk.ext (by assumption) ?_; (with_reducible repeat (first | exact Ext.refl _ | refine Ext.alloc ?_ _ | refine Ext.drewN ?_ _ | refine Ext.trans ?_ (by assumption)))) (by kernel_rfl) (by rfl) (by simp [Value.oneCell']) ?_; intro w6 hk6 hF6))
    refine wpList_nil ?_
    refine nx_done rfl trivial ?_
    try simp only [Act.put, List.setIfInBounds_toArray, List.set]
    refine run_tail rfl ?_
    refine wpList_forget (fun w7 => Blk w7 g5 27 #[.slice A4 1 c4, .int .i64 (largeD n).wr, .int .i64 (largeD n).ct, .int .i64 (largeD n).tn, .bool (largeD n).off] ∧ BL w7 (fun k => k ≠ g5) A4 1 c4 (largeD n).areas ∧ Ext w w7 ∧ w.heap.size ≤ g5) ⟨hk6, BL.fr (BL.ext hb4 (by with_reducible repeat (first | exact Ext.refl _ | refine Ext.alloc ?_ _ | refine Ext.drewN ?_ _ | refine Ext.trans ?_ (by assumption)))) hF6, Ext.over (by with_reducible repeat (first | exact Ext.refl _ | refine Ext.alloc ?_ _ | refine Ext.drewN ?_ _ | refine Ext.trans ?_ (by assumption))) hF6 (Nat.le_trans (Ext.size (by with_reducible repeat (first | exact Ext.refl _ | refine Ext.alloc ?_ _ | refine Ext.drewN ?_ _ | refine Ext.trans ?_ (by assumption)))) hg5), Nat.le_trans (Ext.size (by with_reducible repeat (first | exact Ext.refl _ | refine Ext.alloc ?_ _ | refine Ext.drewN ?_ _ | refine Ext.trans ?_ (by assumption)))) hg5⟩ ?_
    clear hk6 hF6 hb4 hb2 hE1 hE2 hE3 hE4 hE5 hk5 hO3 hg5 H2 H4
    rintro w7 ⟨hkF, hbF, hEF, hgF⟩
    go_upto_region 7 with fail
    refine wp_region_planG (fun _ _ => True) (.read 1 (.call false 0 (.call false 2 (.call true 3 (.read 4 (.read 5 (.read 6 (.call false 7 .tail .none)))) .none) .none) (.call true 2 (.call false 0 (.call true 3 (.read 4 (.read 5 (.read 6 (.call false 7 .tail .none)))) .none) .none) .none))) 8 (by kernel_rfl) (by kernel_rfl) (by kernel_rfl) (fun _ => trivial) (fun _ _ _ _ _ => trivial) Ext (Ext.drew (Ext.refl _)) (fun wR hR => ?_)
    apply run_read rfl
    · intro w1 hS
      go_wp2
      exact rv_done rfl rfl
    try simp only [Act.put, List.setIfInBounds_toArray, List.set]
    refine run_call1 rfl ?_ ?_
    · go_wp2_with (first | (go_at_call 22; go_loud (refine (newP_calls' (fun k => k ≠ g5) _ (fun k hk e => (by have h1 := hkF.lt; have h2 := Nat.le_trans (Ext.size (show Ext w7 _ from (by with_reducible repeat (first | exact Ext.refl _ | refine Ext.alloc ?_ _ | refine Ext.drewN ?_ _ | refine Ext.trans ?_ (by assumption))))) hk; omega)) 1 1 rfl).mono ?_; rintro e w2 ⟨A2, c2, d2, rfl, H2, hb2, hE2⟩)) | ((with_reducible (show wpList _ _ _ (⟨_, Op.makeSlice _ _ _, _, _, _, _⟩ :: _) _ _)); go_loud (refine wpList_mkB rfl _ _ _ rfl _ infoB Try.underlying22 _ _ n rfl rfl (by omega) ?_; intro g3 w3 hg3 hO3 hE3)) | (go_at_call 19; go_loud (refine (append_calls (fun k => k ≠ g5) _ (fun k hk e => (by have h1 := hkF.lt; have h2 := Nat.le_trans (Ext.size (show Ext w7 _ from (by with_reducible repeat (first | exact Ext.refl _ | refine Ext.alloc ?_ _ | refine Ext.drewN ?_ _ | refine Ext.trans ?_ (by assumption))))) hk; omega)) A2 1 c2 d2 (by refine BL.ext (by assumption) ?_; (with_reducible repeat (first | exact Ext.refl _ | refine Ext.alloc ?_ _ | refine Ext.drewN ?_ _ | refine Ext.trans ?_ (by assumption)))) (by omega) _ n n (List.replicate n 0) (BV.ext (OB.bv (P := fun _ => True) hO3 (fun _ _ => trivial)) (by with_reducible repeat (first | exact Ext.refl _ | refine Ext.alloc ?_ _ | refine Ext.drewN ?_ _ | refine Ext.trans ?_ (by assumption)))) (by omega) 0 (by rw [H2.out]; decide) (by rw [H2.out]; decide) (by rw [H2.out]; decide)).mono ?_; rintro e w4 ⟨A5, c5, d5, e5, rfl, H5, hb5, hE5⟩; obtain ⟨rfl, rfl⟩ : d5 = largeD n ∧ e5 = largeE n := (by have := H5.out; rw [H2.out, (large_put n).2.1, (large_put n).2.2] at this; exact this))))
      refine nx_done rfl trivial ?_
      try simp only [Act.put, List.setIfInBounds_toArray, List.set]
      refine run_call1 rfl ?_ run_none
      go_wp2_with (first | (go_at_call 22; go_loud (refine (newP_calls' (fun k => k ≠ g5) _ (fun k hk e => (by have h1 := hkF.lt; have h2 := Nat.le_trans (Ext.size (show Ext w7 _ from (by with_reducible repeat (first | exact Ext.refl _ | refine Ext.alloc ?_ _ | refine Ext.drewN ?_ _ | refine Ext.trans ?_ (by assumption))))) hk; omega)) 1 1 rfl).mono ?_; rintro e w2 ⟨A2, c2, d2, rfl, H2, hb2, hE2⟩)) | ((with_reducible (show wpList _ _ _ (⟨_, Op.makeSlice _ _ _, _, _, _, _⟩ :: _) _ _)); go_loud (refine wpList_mkB rfl _ _ _ rfl _ infoB Try.underlying22 _ _ n rfl rfl (by omega) ?_; intro g3 w3 hg3 hO3 hE3)) | (go_at_call 19; go_loud (refine (append_calls (fun k => k ≠ g5) _ (fun k hk e => (by have h1 := hkF.lt; have h2 := Nat.le_trans (Ext.size (show Ext w7 _ from (by with_reducible repeat (first | exact Ext.refl _ | refine Ext.alloc ?_ _ | refine Ext.drewN ?_ _ | refine Ext.trans ?_ (by assumption))))) hk; omega)) A2 1 c2 d2 (by refine BL.ext (by assumption) ?_; (with_reducible repeat (first | exact Ext.refl _ | refine Ext.alloc ?_ _ | refine Ext.drewN ?_ _ | refine Ext.trans ?_ (by assumption)))) (by omega) _ n n (List.replicate n 0) (BV.ext (OB.bv (P := fun _ => True) hO3 (fun _ _ => trivial)) (by with_reducible repeat (first | exact Ext.refl _ | refine Ext.alloc ?_ _ | refine Ext.drewN ?_ _ | refine Ext.trans ?_ (by assumption)))) (by omega) 0 (by rw [H2.out]; decide) (by rw [H2.out]; decide) (by rw [H2.out]; decide)).mono ?_; rintro e w4 ⟨A5, c5, d5, e5, rfl, H5, hb5, hE5⟩; obtain ⟨rfl, rfl⟩ : d5 = largeD n ∧ e5 = largeE n := (by have := H5.out; rw [H2.out, (large_put n).2.1, (large_put n).2.2] at this; exact this))))
      refine nx_done rfl trivial ?_
      try simp only [Act.put, List.setIfInBounds_toArray, List.set]
      refine run_free rfl ?_ run_none
      go_wp2_with (first | (go_at_call 22; go_loud (refine (newP_calls' (fun k => k ≠ g5) _ (fun k hk e => (by have h1 := hkF.lt; have h2 := Nat.le_trans (Ext.size (show Ext w7 _ from (by with_reducible repeat (first | exact Ext.refl _ | refine Ext.alloc ?_ _ | refine Ext.drewN ?_ _ | refine Ext.trans ?_ (by assumption))))) hk; omega)) 1 1 rfl).mono ?_; rintro e w2 ⟨A2, c2, d2, rfl, H2, hb2, hE2⟩)) | ((with_reducible (show wpList _ _ _ (⟨_, Op.makeSlice _ _ _, _, _, _, _⟩ :: _) _ _)); go_loud (refine wpList_mkB rfl _ _ _ rfl _ infoB Try.underlying22 _ _ n rfl rfl (by omega) ?_; intro g3 w3 hg3 hO3 hE3)) | (go_at_call 19; go_loud (refine (append_calls (fun k => k ≠ g5) _ (fun k hk e => (by have h1 := hkF.lt; have h2 := Nat.le_trans (Ext.size (show Ext w7 _ from (by with_reducible repeat (first | exact Ext.refl _ | refine Ext.alloc ?_ _ | refine Ext.drewN ?_ _ | refine Ext.trans ?_ (by assumption))))) hk; omega)) A2 1 c2 d2 (by refine BL.ext (by assumption) ?_; (with_reducible repeat (first | exact Ext.refl _ | refine Ext.alloc ?_ _ | refine Ext.drewN ?_ _ | refine Ext.trans ?_ (by assumption)))) (by omega) _ n n (List.replicate n 0) (BV.ext (OB.bv (P := fun _ => True) hO3 (fun _ _ => trivial)) (by with_reducible repeat (first | exact Ext.refl _ | refine Ext.alloc ?_ _ | refine Ext.drewN ?_ _ | refine Ext.trans ?_ (by assumption)))) (by omega) 0 (by rw [H2.out]; decide) (by rw [H2.out]; decide) (by rw [H2.out]; decide)).mono ?_; rintro e w4 ⟨A5, c5, d5, e5, rfl, H5, hb5, hE5⟩; obtain ⟨rfl, rfl⟩ : d5 = largeD n ∧ e5 = largeE n := (by have := H5.out; rw [H2.out, (large_put n).2.1, (large_put n).2.2] at this; exact this))))
      refine nx_done rfl trivial ?_
      try simp only [Act.put, List.setIfInBounds_toArray, List.set]
      apply run_read rfl
      · intro w1 hS
        go_wp2
        exact rv_done rfl rfl
      try simp only [Act.put, List.setIfInBounds_toArray, List.set]
      apply run_read rfl
      · intro w1 hS
        go_wp2
        exact rv_done rfl rfl
      try simp only [Act.put, List.setIfInBounds_toArray, List.set]
      apply run_read rfl
      · intro w1 hS
        go_wp2
        exact rv_done rfl rfl
      try simp only [Act.put, List.setIfInBounds_toArray, List.set]
      refine run_call1 rfl ?_ run_none
      ((with_reducible (show wpList _ _ _ (⟨_, Op.store _ _ _, _, _, _, _⟩ :: _) _ _)); go_loud (refine wpList_stB rfl _ _ _ rfl _ rfl rfl (by refine Blk.ext (by assumption) ?_; (with_reducible repeat (first | exact Ext.refl _ | refine Ext.alloc ?_ _ | refine Ext.drewN ?_ _ | refine Ext.trans ?_ (by assumption)))) (by kernel_rfl) (by rfl) (by simp [Value.oneCell']) ?_; intro w6 hk6 hF6))
      refine wpList_nil ?_
      refine nx_done rfl trivial ?_
      try simp only [Act.put, List.setIfInBounds_toArray, List.set]
      refine run_tail rfl ?_
      refine wpList_forget (fun w8 => Blk w8 g5 27 #[.slice A5 1 c5, .int .i64 (largeD n).wr, .int .i64 (largeD n).ct, .int .i64 (largeD n).tn, .bool (largeD n).off] ∧ BL w8 (fun k => k ≠ g5) A5 1 c5 (largeD n).areas ∧ Ext w w8) ⟨hk6, BL.fr (BL.ext hb5 (by with_reducible repeat (first | exact Ext.refl _ | refine Ext.alloc ?_ _ | refine Ext.drewN ?_ _ | refine Ext.trans ?_ (by assumption)))) hF6, Ext.over (hEF.trans (by with_reducible repeat (first | exact Ext.refl _ | refine Ext.alloc ?_ _ | refine Ext.drewN ?_ _ | refine Ext.trans ?_ (by assumption)))) hF6 hgF⟩ ?_
      clear hk6 hF6 hb5 hb2 hE2 hE3 hO3 hE5 H2 H5 hkF hbF hEF
      rintro w8 ⟨hkF, hbF, hEF⟩
      rcases hlarge with ⟨hbig, hD, hEr⟩ | ⟨hbig, hD, hEr⟩
      · rw [hD] at hkF hbF
        simp only [hEr]
        obtain ⟨bb, ob, A', n', c', rfl, hcell, hn'⟩ := BL.at0 (l := []) hbF
        simp only [List.length_nil] at hn'
        subst hn'
        obtain ⟨q0, q1, q2, q3, q4⟩ := hkF.c5
        simp only [newS] at q1
        clear hbF hkF hD hEr
        go_wp2
        go_ret
        exact ⟨rfl, hEF⟩
      · rw [hD] at hkF hbF
        simp only [hEr]
        obtain ⟨bb, ob, A', n', c', rfl, hcell, hn'⟩ := BL.at0 (l := List.replicate n 0) hbF
        simp only [List.length_replicate] at hn'
        subst hn'
        obtain ⟨q0, q1, q2, q3, q4⟩ := hkF.c5
        clear hbF hkF hD hEr
        go_wp2
        go_ret
        exact ⟨rfl, hEF⟩
    refine run_free rfl ?_ run_none
    go_wp2_with (first | (go_at_call 22; go_loud (refine (newP_calls' (fun k => k ≠ g5) _ (fun k hk e => (by have h1 := hkF.lt; have h2 := Nat.le_trans (Ext.size (show Ext w7 _ from (by with_reducible repeat (first | exact Ext.refl _ | refine Ext.alloc ?_ _ | refine Ext.drewN ?_ _ | refine Ext.trans ?_ (by assumption))))) hk; omega)) 1 1 rfl).mono ?_; rintro e w2 ⟨A2, c2, d2, rfl, H2, hb2, hE2⟩)) | ((with_reducible (show wpList _ _ _ (⟨_, Op.makeSlice _ _ _, _, _, _, _⟩ :: _) _ _)); go_loud (refine wpList_mkB rfl _ _ _ rfl _ infoB Try.underlying22 _ _ n rfl rfl (by omega) ?_; intro g3 w3 hg3 hO3 hE3)) | (go_at_call 19; go_loud (refine (append_calls (fun k => k ≠ g5) _ (fun k hk e => (by have h1 := hkF.lt; have h2 := Nat.le_trans (Ext.size (show Ext w7 _ from (by with_reducible repeat (first | exact Ext.refl _ | refine Ext.alloc ?_ _ | refine Ext.drewN ?_ _ | refine Ext.trans ?_ (by assumption))))) hk; omega)) A2 1 c2 d2 (by refine BL.ext (by assumption) ?_; (with_reducible repeat (first | exact Ext.refl _ | refine Ext.alloc ?_ _ | refine Ext.drewN ?_ _ | refine Ext.trans ?_ (by assumption)))) (by omega) _ n n (List.replicate n 0) (BV.ext (OB.bv (P := fun _ => True) hO3 (fun _ _ => trivial)) (by with_reducible repeat (first | exact Ext.refl _ | refine Ext.alloc ?_ _ | refine Ext.drewN ?_ _ | refine Ext.trans ?_ (by assumption)))) (by omega) 0 (by rw [H2.out]; decide) (by rw [H2.out]; decide) (by rw [H2.out]; decide)).mono ?_; rintro e w4 ⟨A5, c5, d5, e5, rfl, H5, hb5, hE5⟩; obtain ⟨rfl, rfl⟩ : d5 = largeD n ∧ e5 = largeE n := (by have := H5.out; rw [H2.out, (large_put n).2.1, (large_put n).2.2] at this; exact this))))
    refine nx_done rfl trivial ?_
    try simp only [Act.put, List.setIfInBounds_toArray, List.set]
    refine run_call1 rfl ?_ run_none
    go_wp2_with (first | (go_at_call 22; go_loud (refine (newP_calls' (fun k => k ≠ g5) _ (fun k hk e => (by have h1 := hkF.lt; have h2 := Nat.le_trans (Ext.size (show Ext w7 _ from (by with_reducible repeat (first | exact Ext.refl _ | refine Ext.alloc ?_ _ | refine Ext.drewN ?_ _ | refine Ext.trans ?_ (by assumption))))) hk; omega)) 1 1 rfl).mono ?_; rintro e w2 ⟨A2, c2, d2, rfl, H2, hb2, hE2⟩)) | ((with_reducible (show wpList _ _ _ (⟨_, Op.makeSlice _ _ _, _, _, _, _⟩ :: _) _ _)); go_loud (refine wpList_mkB rfl _ _ _ rfl _ infoB Try.underlying22 _ _ n rfl rfl (by omega) ?_; intro g3 w3 hg3 hO3 hE3)) | (go_at_call 19; go_loud (refine (append_calls (fun k => k ≠ g5) _ (fun k hk e => (by have h1 := hkF.lt; have h2 := Nat.le_trans (Ext.size (show Ext w7 _ from (by with_reducible repeat (first | exact Ext.refl _ | refine Ext.alloc ?_ _ | refine Ext.drewN ?_ _ | refine Ext.trans ?_ (by assumption))))) hk; omega)) A2 1 c2 d2 (by refine BL.ext (by assumption) ?_; (with_reducible repeat (first | exact Ext.refl _ | refine Ext.alloc ?_ _ | refine Ext.drewN ?_ _ | refine Ext.trans ?_ (by assumption)))) (by omega) _ n n (List.replicate n 0) (BV.ext (OB.bv (P := fun _ => True) hO3 (fun _ _ => trivial)) (by with_reducible repeat (first | exact Ext.refl _ | refine Ext.alloc ?_ _ | refine Ext.drewN ?_ _ | refine Ext.trans ?_ (by assumption)))) (by omega) 0 (by rw [H2.out]; decide) (by rw [H2.out]; decide) (by rw [H2.out]; decide)).mono ?_; rintro e w4 ⟨A5, c5, d5, e5, rfl, H5, hb5, hE5⟩; obtain ⟨rfl, rfl⟩ : d5 = largeD n ∧ e5 = largeE n := (by have := H5.out; rw [H2.out, (large_put n).2.1, (large_put n).2.2] at this; exact this))))
    refine nx_done rfl trivial ?_
    try simp only [Act.put, List.setIfInBounds_toArray, List.set]
    refine run_free rfl ?_ run_none
    go_wp2_with (first | (go_at_call 22; go_loud (refine (newP_calls' (fun k => k ≠ g5) _ (fun k hk e => (by have h1 := hkF.lt; have h2 := Nat.le_trans (Ext.size (show Ext w7 _ from (by with_reducible repeat (first | exact Ext.refl _ | refine Ext.alloc ?_ _ | refine Ext.drewN ?_ _ | refine Ext.trans ?_ (by assumption))))) hk; omega)) 1 1 rfl).mono ?_; rintro e w2 ⟨A2, c2, d2, rfl, H2, hb2, hE2⟩)) | ((with_reducible (show wpList _ _ _ (⟨_, Op.makeSlice _ _ _, _, _, _, _⟩ :: _) _ _)); go_loud (refine wpList_mkB rfl _ _ _ rfl _ infoB Try.underlying22 _ _ n rfl rfl (by omega) ?_; intro g3 w3 hg3 hO3 hE3)) | (go_at_call 19; go_loud (refine (append_calls (fun k => k ≠ g5) _ (fun k hk e => (by have h1 := hkF.lt; have h2 := Nat.le_trans (Ext.size (show Ext w7 _ from (by with_reducible repeat (first | exact Ext.refl _ | refine Ext.alloc ?_ _ | refine Ext.drewN ?_ _ | refine Ext.trans ?_ (by assumption))))) hk; omega)) A2 1 c2 d2 (by refine BL.ext (by assumption) ?_; (with_reducible repeat (first | exact Ext.refl _ | refine Ext.alloc ?_ _ | refine Ext.drewN ?_ _ | refine Ext.trans ?_ (by assumption)))) (by omega) _ n n (List.replicate n 0) (BV.ext (OB.bv (P := fun _ => True) hO3 (fun _ _ => trivial)) (by with_reducible repeat (first | exact Ext.refl _ | refine Ext.alloc ?_ _ | refine Ext.drewN ?_ _ | refine Ext.trans ?_ (by assumption)))) (by omega) 0 (by rw [H2.out]; decide) (by rw [H2.out]; decide) (by rw [H2.out]; decide)).mono ?_; rintro e w4 ⟨A5, c5, d5, e5, rfl, H5, hb5, hE5⟩; obtain ⟨rfl, rfl⟩ : d5 = largeD n ∧ e5 = largeE n := (by have := H5.out; rw [H2.out, (large_put n).2.1, (large_put n).2.2] at this; exact this))))
    refine nx_done rfl trivial ?_
    try simp only [Act.put, List.setIfInBounds_toArray, List.set]
    apply run_read rfl
    · intro w1 hS
      go_wp2
      exact rv_done rfl rfl
    try simp only [Act.put, List.setIfInBounds_toArray, List.set]
    apply run_read rfl
    · intro w1 hS
      go_wp2
      exact rv_done rfl rfl
    try simp only [Act.put, List.setIfInBounds_toArray, List.set]
    apply run_read rfl
    · intro w1 hS
      go_wp2
      exact rv_done rfl rfl
    try simp only [Act.put, List.setIfInBounds_toArray, List.set]
    refine run_call1 rfl ?_ run_none
    ((with_reducible (show wpList _ _ _ (⟨_, Op.store _ _ _, _, _, _, _⟩ :: _) _ _)); go_loud (refine wpList_stB rfl _ _ _ rfl _ rfl rfl (by refine Blk.ext (by assumption) ?_; (with_reducible repeat (first | exact Ext.refl _ | refine Ext.alloc ?_ _ | refine Ext.drewN ?_ _ | refine Ext.trans ?_ (by assumption)))) (by kernel_rfl) (by rfl) (by simp [Value.oneCell']) ?_; intro w6 hk6 hF6))
    refine wpList_nil ?_
    refine nx_done rfl trivial ?_
    try simp only [Act.put, List.setIfInBounds_toArray, List.set]
    refine run_tail rfl ?_
    refine wpList_forget (fun w8 => Blk w8 g5 27 #[.slice A5 1 c5, .int .i64 (largeD n).wr, .int .i64 (largeD n).ct, .int .i64 (largeD n).tn, .bool (largeD n).off] ∧ BL w8 (fun k => k ≠ g5) A5 1 c5 (largeD n).areas ∧ Ext w w8) ⟨hk6, BL.fr (BL.ext hb5 (by with_reducible repeat (first | exact Ext.refl _ | refine Ext.alloc ?_ _ | refine Ext.drewN ?_ _ | refine Ext.trans ?_ (by assumption)))) hF6, Ext.over (hEF.trans (by with_reducible repeat (first | exact Ext.refl _ | refine Ext.alloc ?_ _ | refine Ext.drewN ?_ _ | refine Ext.trans ?_ (by assumption)))) hF6 hgF⟩ ?_
    clear hk6 hF6 hb5 hb2 hE2 hE3 hO3 hE5 H2 H5 hkF hbF hEF
    rintro w8 ⟨hkF, hbF, hEF⟩
    rcases hlarge with ⟨hbig, hD, hEr⟩ | ⟨hbig, hD, hEr⟩
    · rw [hD] at hkF hbF
      simp only [hEr]
      obtain ⟨bb, ob, A', n', c', rfl, hcell, hn'⟩ := BL.at0 (l := []) hbF
      simp only [List.length_nil] at hn'
      subst hn'
      obtain ⟨q0, q1, q2, q3, q4⟩ := hkF.c5
      simp only [newS] at q1
      clear hbF hkF hD hEr
      go_wp2
      go_ret
      exact ⟨rfl, hEF⟩
    · rw [hD] at hkF hbF
      simp only [hEr]
      obtain ⟨bb, ob, A', n', c', rfl, hcell, hn'⟩ := BL.at0 (l := List.replicate n 0) hbF
      simp only [List.length_replicate] at hn'
      subst hn'
      obtain ⟨q0, q1, q2, q3, q4⟩ := hkF.c5
      clear hbF hkF hD hEr
      go_wp2
      go_ret
      exact ⟨rfl, hEF⟩
  refine run_call1 rfl ?_ run_none
  ((with_reducible (show wpList _ _ _ (⟨_, Op.alloc _, _, _, _, _⟩ :: _) _ _)); go_loud (refine wpList_alB (.agg #[.slice none 0 0, .int .i64 0, .int .i64 0, .int .i64 0, .bool false]) rfl _ rfl (by kernel_rfl) rfl ?_; intro g5 w5 hg5 hk5 hE5))
  refine wpList_nil ?_
  refine nx_done rfl trivial ?_
  try simp only [Act.put, List.setIfInBounds_toArray, List.set]
  try replace hb2 := BL.off hb2 (g := g5) (Nat.le_trans (Ext.size (by with_reducible repeat (first | exact Ext.refl _ | refine Ext.alloc ?_ _ | refine Ext.drewN ?_ _ | refine Ext.trans ?_ (by assumption)))) hg5)
  try replace hb4 := BL.off hb4 (g := g5) (Nat.le_trans (Ext.size (by with_reducible repeat (first | exact Ext.refl _ | refine Ext.alloc ?_ _ | refine Ext.drewN ?_ _ | refine Ext.trans ?_ (by assumption)))) hg5)
  refine run_call1 rfl ?_ ?_
  · go_wp2_with (first | (go_at_call 22; go_loud ((first | refine (newP_calls' (fun k => k ≠ g5) _ (fun k hk e => (by have h1 := hk5.lt; have h2 := Nat.le_trans (Ext.size (show Ext w5 _ from (by with_reducible repeat (first | exact Ext.refl _ | refine Ext.alloc ?_ _ | refine Ext.drewN ?_ _ | refine Ext.trans ?_ (by assumption))))) hk; omega)) 1 1 rfl).mono ?_ | refine (newP_calls' (fun _ => True) _ (Anew.top _) 1 1 rfl).mono ?_); rintro e w2 ⟨A2, c2, d2, rfl, H2, hb2, hE2⟩)) | ((with_reducible (show wpList _ _ _ (⟨_, Op.makeSlice _ _ _, _, _, _, _⟩ :: _) _ _)); go_loud (refine wpList_mkB rfl _ _ _ rfl _ infoB Try.underlying22 _ _ n rfl rfl (by omega) ?_; intro g3 w3 hg3 hO3 hE3)) | (go_at_call 17; go_loud ((first | refine (write_calls (fun k => k ≠ g5) _ (fun k hk e => (by have h1 := hk5.lt; have h2 := Nat.le_trans (Ext.size (show Ext w5 _ from (by with_reducible repeat (first | exact Ext.refl _ | refine Ext.alloc ?_ _ | refine Ext.drewN ?_ _ | refine Ext.trans ?_ (by assumption))))) hk; omega)) A2 1 c2 d2 (by refine BL.ext (by assumption) ?_; (with_reducible repeat (first | exact Ext.refl _ | refine Ext.alloc ?_ _ | refine Ext.drewN ?_ _ | refine Ext.trans ?_ (by assumption)))) (by omega) _ n n (List.replicate n 0) (BV.ext (OB.bv (P := fun _ => True) hO3 (fun _ _ => trivial)) (by with_reducible repeat (first | exact Ext.refl _ | refine Ext.alloc ?_ _ | refine Ext.drewN ?_ _ | refine Ext.trans ?_ (by assumption)))) (by omega) 0 (by rw [H2.out]; decide) (by rw [H2.out]; decide) (by rw [H2.out]; decide)).mono ?_ | refine (write_calls (fun _ => True) _ (Anew.top _) A2 1 c2 d2 (by refine BL.ext (by assumption) ?_; (with_reducible repeat (first | exact Ext.refl _ | refine Ext.alloc ?_ _ | refine Ext.drewN ?_ _ | refine Ext.trans ?_ (by assumption)))) (by omega) _ n n (List.replicate n 0) (BV.ext (OB.bv (P := fun _ => True) hO3 (fun _ _ => trivial)) (by with_reducible repeat (first | exact Ext.refl _ | refine Ext.alloc ?_ _ | refine Ext.drewN ?_ _ | refine Ext.trans ?_ (by assumption)))) (by omega) 0 (by rw [H2.out]; decide) (by rw [H2.out]; decide) (by rw [H2.out]; decide)).mono ?_); rintro e w4 ⟨A4, c4, d4, e4, rfl, H4, hb4, hE4⟩; obtain ⟨rfl, rfl⟩ : d4 = largeD n ∧ e4 = largeE n := (by have := H4.out; rw [H2.out, (large_put n).1, (large_put n).2.2] at this; exact this))))
    refine nx_done rfl trivial ?_
    try simp only [Act.put, List.setIfInBounds_toArray, List.set]
    refine run_call1 rfl ?_ run_none
    go_wp2_with (first | (go_at_call 22; go_loud ((first | refine (newP_calls' (fun k => k ≠ g5) _ (fun k hk e => (by have h1 := hk5.lt; have h2 := Nat.le_trans (Ext.size (show Ext w5 _ from (by with_reducible repeat (first | exact Ext.refl _ | refine Ext.alloc ?_ _ | refine Ext.drewN ?_ _ | refine Ext.trans ?_ (by assumption))))) hk; omega)) 1 1 rfl).mono ?_ | refine (newP_calls' (fun _ => True) _ (Anew.top _) 1 1 rfl).mono ?_); rintro e w2 ⟨A2, c2, d2, rfl, H2, hb2, hE2⟩)) | ((with_reducible (show wpList _ _ _ (⟨_, Op.makeSlice _ _ _, _, _, _, _⟩ :: _) _ _)); go_loud (refine wpList_mkB rfl _ _ _ rfl _ infoB Try.underlying22 _ _ n rfl rfl (by omega) ?_; intro g3 w3 hg3 hO3 hE3)) | (go_at_call 17; go_loud ((first | refine (write_calls (fun k => k ≠ g5) _ (fun k hk e => (by have h1 := hk5.lt; have h2 := Nat.le_trans (Ext.size (show Ext w5 _ from (by with_reducible repeat (first | exact Ext.refl _ | refine Ext.alloc ?_ _ | refine Ext.drewN ?_ _ | refine Ext.trans ?_ (by assumption))))) hk; omega)) A2 1 c2 d2 (by refine BL.ext (by assumption) ?_; (with_reducible repeat (first | exact Ext.refl _ | refine Ext.alloc ?_ _ | refine Ext.drewN ?_ _ | refine Ext.trans ?_ (by assumption)))) (by omega) _ n n (List.replicate n 0) (BV.ext (OB.bv (P := fun _ => True) hO3 (fun _ _ => trivial)) (by with_reducible repeat (first | exact Ext.refl _ | refine Ext.alloc ?_ _ | refine Ext.drewN ?_ _ | refine Ext.trans ?_ (by assumption)))) (by omega) 0 (by rw [H2.out]; decide) (by rw [H2.out]; decide) (by rw [H2.out]; decide)).mono ?_ | refine (write_calls (fun _ => True) _ (Anew.top _) A2 1 c2 d2 (by refine BL.ext (by assumption) ?_; (with_reducible repeat (first | exact Ext.refl _ | refine Ext.alloc ?_ _ | refine Ext.drewN ?_ _ | refine Ext.trans ?_ (by assumption)))) (by omega) _ n n (List.replicate n 0) (BV.ext (OB.bv (P := fun _ => True) hO3 (fun _ _ => trivial)) (by with_reducible repeat (first | exact Ext.refl _ | refine Ext.alloc ?_ _ | refine Ext.drewN ?_ _ | refine Ext.trans ?_ (by assumption)))) (by omega) 0 (by rw [H2.out]; decide) (by rw [H2.out]; decide) (by rw [H2.out]; decide)).mono ?_); rintro e w4 ⟨A4, c4, d4, e4, rfl, H4, hb4, hE4⟩; obtain ⟨rfl, rfl⟩ : d4 = largeD n ∧ e4 = largeE n := (by have := H4.out; rw [H2.out, (large_put n).1, (large_put n).2.2] at this; exact this))))
    refine nx_done rfl trivial ?_
    try simp only [Act.put, List.setIfInBounds_toArray, List.set]
    refine run_call1 rfl ?_ run_none
    go_wp2_with (first | (go_at_call 22; go_loud ((first | refine (newP_calls' (fun k => k ≠ g5) _ (fun k hk e => (by have h1 := hk5.lt; have h2 := Nat.le_trans (Ext.size (show Ext w5 _ from (by with_reducible repeat (first | exact Ext.refl _ | refine Ext.alloc ?_ _ | refine Ext.drewN ?_ _ | refine Ext.trans ?_ (by assumption))))) hk; omega)) 1 1 rfl).mono ?_ | refine (newP_calls' (fun _ => True) _ (Anew.top _) 1 1 rfl).mono ?_); rintro e w2 ⟨A2, c2, d2, rfl, H2, hb2, hE2⟩)) | ((with_reducible (show wpList _ _ _ (⟨_, Op.makeSlice _ _ _, _, _, _, _⟩ :: _) _ _)); go_loud (refine wpList_mkB rfl _ _ _ rfl _ infoB Try.underlying22 _ _ n rfl rfl (by omega) ?_; intro g3 w3 hg3 hO3 hE3)) | (go_at_call 17; go_loud ((first | refine (write_calls (fun k => k ≠ g5) _ (fun k hk e => (by have h1 := hk5.lt; have h2 := Nat.le_trans (Ext.size (show Ext w5 _ from (by with_reducible repeat (first | exact Ext.refl _ | refine Ext.alloc ?_ _ | refine Ext.drewN ?_ _ | refine Ext.trans ?_ (by assumption))))) hk; omega)) A2 1 c2 d2 (by refine BL.ext (by assumption) ?_; (with_reducible repeat (first | exact Ext.refl _ | refine Ext.alloc ?_ _ | refine Ext.drewN ?_ _ | refine Ext.trans ?_ (by assumption)))) (by omega) _ n n (List.replicate n 0) (BV.ext (OB.bv (P := fun _ => True) hO3 (fun _ _ => trivial)) (by with_reducible repeat (first | exact Ext.refl _ | refine Ext.alloc ?_ _ | refine Ext.drewN ?_ _ | refine Ext.trans ?_ (by assumption)))) (by omega) 0 (by rw [H2.out]; decide) (by rw [H2.out]; decide) (by rw [H2.out]; decide)).mono ?_ | refine (write_calls (fun _ => True) _ (Anew.top _) A2 1 c2 d2 (by refine BL.ext (by assumption) ?_; (with_reducible repeat (first | exact Ext.refl _ | refine Ext.alloc ?_ _ | refine Ext.drewN ?_ _ | refine Ext.trans ?_ (by assumption)))) (by omega) _ n n (List.replicate n 0) (BV.ext (OB.bv (P := fun _ => True) hO3 (fun _ _ => trivial)) (by with_reducible repeat (first | exact Ext.refl _ | refine Ext.alloc ?_ _ | refine Ext.drewN ?_ _ | refine Ext.trans ?_ (by assumption)))) (by omega) 0 (by rw [H2.out]; decide) (by rw [H2.out]; decide) (by rw [H2.out]; decide)).mono ?_); rintro e w4 ⟨A4, c4, d4, e4, rfl, H4, hb4, hE4⟩; obtain ⟨rfl, rfl⟩ : d4 = largeD n ∧ e4 = largeE n := (by have := H4.out; rw [H2.out, (large_put n).1, (large_put n).2.2] at this; exact this))))
    refine nx_done rfl trivial ?_
    try simp only [Act.put, List.setIfInBounds_toArray, List.set]
    apply run_read rfl
    · intro w1 hS
      go_wp2
      exact rv_done rfl rfl
    try simp only [Act.put, List.setIfInBounds_toArray, List.set]
    apply run_read rfl
    · intro w1 hS
      go_wp2
      exact rv_done rfl rfl
    try simp only [Act.put, List.setIfInBounds_toArray, List.set]
    apply run_read rfl
    · intro w1 hS
      go_wp2
      exact rv_done rfl rfl
    try simp only [Act.put, List.setIfInBounds_toArray, List.set]
    refine run_call1 rfl ?_ run_none
    ((with_reducible (show wpList _ _ _ (⟨_, Op.store _ _ _, _, _, _, _⟩ :: _) _ _)); go_loud (refine wpList_stB rfl _ _ _ rfl _ rfl rfl (by refine Blk.ext (by assumption) ?_; (with_reducible repeat (first | exact Ext.refl _ | refine Ext.alloc ?_ _ | refine Ext.drewN ?_ _ | refine Ext.trans ?_ (by assumption)))) (by kernel_rfl) (by rfl) (by simp [Value.oneCell']) ?_; intro w6 hk6 hF6))
    refine wpList_nil ?_
    refine nx_done rfl trivial ?_
    try simp only [Act.put, List.setIfInBounds_toArray, List.set]
    refine run_tail rfl ?_
    refine wpList_forget (fun w7 => Blk w7 g5 27 #[.slice A4 1 c4, .int .i64 (largeD n).wr, .int .i64 (largeD n).ct, .int .i64 (largeD n).tn, .bool (largeD n).off] ∧ BL w7 (fun k => k ≠ g5) A4 1 c4 (largeD n).areas ∧ Ext w w7 ∧ w.heap.size ≤ g5) ⟨hk6, BL.fr (BL.ext hb4 (by with_reducible repeat (first | exact Ext.refl _ | refine Ext.alloc ?_ _ | refine Ext.drewN ?_ _ | refine Ext.trans ?_ (by assumption)))) hF6, Ext.over (by with_reducible repeat (first | exact Ext.refl _ | refine Ext.alloc ?_ _ | refine Ext.drewN ?_ _ | refine Ext.trans ?_ (by assumption))) hF6 (Nat.le_trans (Ext.size (by with_reducible repeat (first | exact Ext.refl _ | refine Ext.alloc ?_ _ | refine Ext.drewN ?_ _ | refine Ext.trans ?_ (by assumption)))) hg5), Nat.le_trans (Ext.size (by with_reducible repeat (first | exact Ext.refl _ | refine Ext.alloc ?_ _ | refine Ext.drewN ?_ _ | refine Ext.trans ?_ (by assumption)))) hg5⟩ ?_
    clear hk6 hF6 hb4 hb2 hE1 hE2 hE3 hE4 hE5 hk5 hO3 hg5 H2 H4
    rintro w7 ⟨hkF, hbF, hEF, hgF⟩
    go_upto_region 7 with fail
    refine wp_region_planG (fun _ _ => True) (.read 1 (.call false 0 (.call false 2 (.call true 3 (.read 4 (.read 5 (.read 6 (.call false 7 .tail .none)))) .none) .none) (.call true 2 (.call false 0 (.call true 3 (.read 4 (.read 5 (.read 6 (.call false 7 .tail .none)))) .none) .none) .none))) 8 (by kernel_rfl) (by kernel_rfl) (by kernel_rfl) (fun _ => trivial) (fun _ _ _ _ _ => trivial) Ext (Ext.drew (Ext.refl _)) (fun wR hR => ?_)
    apply run_read rfl
    · intro w1 hS
      go_wp2
      exact rv_done rfl rfl
    try simp only [Act.put, List.setIfInBounds_toArray, List.set]
    refine run_call1 rfl ?_ ?_
    · go_wp2_with (first | (go_at_call 22; go_loud (refine (newP_calls' (fun k => k ≠ g5) _ (fun k hk e => (by have h1 := hkF.lt; have h2 := Nat.le_trans (Ext.size (show Ext w7 _ from (by with_reducible repeat (first | exact Ext.refl _ | refine Ext.alloc ?_ _ | refine Ext.drewN ?_ _ | refine Ext.trans ?_ (by assumption))))) hk; omega)) 1 1 rfl).mono ?_; rintro e w2 ⟨A2, c2, d2, rfl, H2, hb2, hE2⟩)) | ((with_reducible (show wpList _ _ _ (⟨_, Op.makeSlice _ _ _, _, _, _, _⟩ :: _) _ _)); go_loud (refine wpList_mkB rfl _ _ _ rfl _ infoB Try.underlying22 _ _ n rfl rfl (by omega) ?_; intro g3 w3 hg3 hO3 hE3)) | (go_at_call 19; go_loud (refine (append_calls (fun k => k ≠ g5) _ (fun k hk e => (by have h1 := hkF.lt; have h2 := Nat.le_trans (Ext.size (show Ext w7 _ from (by with_reducible repeat (first | exact Ext.refl _ | refine Ext.alloc ?_ _ | refine Ext.drewN ?_ _ | refine Ext.trans ?_ (by assumption))))) hk; omega)) A2 1 c2 d2 (by refine BL.ext (by assumption) ?_; (with_reducible repeat (first | exact Ext.refl _ | refine Ext.alloc ?_ _ | refine Ext.drewN ?_ _ | refine Ext.trans ?_ (by assumption)))) (by omega) _ n n (List.replicate n 0) (BV.ext (OB.bv (P := fun _ => True) hO3 (fun _ _ => trivial)) (by with_reducible repeat (first | exact Ext.refl _ | refine Ext.alloc ?_ _ | refine Ext.drewN ?_ _ | refine Ext.trans ?_ (by assumption)))) (by omega) 0 (by rw [H2.out]; decide) (by rw [H2.out]; decide) (by rw [H2.out]; decide)).mono ?_; rintro e w4 ⟨A5, c5, d5, e5, rfl, H5, hb5, hE5⟩; obtain ⟨rfl, rfl⟩ : d5 = largeD n ∧ e5 = largeE n := (by have := H5.out; rw [H2.out, (large_put n).2.1, (large_put n).2.2] at this; exact this))))
      refine nx_done rfl trivial ?_
      try simp only [Act.put, List.setIfInBounds_toArray, List.set]
      refine run_call1 rfl ?_ run_none
      go_wp2_with (first | (go_at_call 22; go_loud (refine (newP_calls' (fun k => k ≠ g5) _ (fun k hk e => (by have h1 := hkF.lt; have h2 := Nat.le_trans (Ext.size (show Ext w7 _ from (by with_reducible repeat (first | exact Ext.refl _ | refine Ext.alloc ?_ _ | refine Ext.drewN ?_ _ | refine Ext.trans ?_ (by assumption))))) hk; omega)) 1 1 rfl).mono ?_; rintro e w2 ⟨A2, c2, d2, rfl, H2, hb2, hE2⟩)) | ((with_reducible (show wpList _ _ _ (⟨_, Op.makeSlice _ _ _, _, _, _, _⟩ :: _) _ _)); go_loud (refine wpList_mkB rfl _ _ _ rfl _ infoB Try.underlying22 _ _ n rfl rfl (by omega) ?_; intro g3 w3 hg3 hO3 hE3)) | (go_at_call 19; go_loud (refine (append_calls (fun k => k ≠ g5) _ (fun k hk e => (by have h1 := hkF.lt; have h2 := Nat.le_trans (Ext.size (show Ext w7 _ from (by with_reducible repeat (first | exact Ext.refl _ | refine Ext.alloc ?_ _ | refine Ext.drewN ?_ _ | refine Ext.trans ?_ (by assumption))))) hk; omega)) A2 1 c2 d2 (by refine BL.ext (by assumption) ?_; (with_reducible repeat (first | exact Ext.refl _ | refine Ext.alloc ?_ _ | refine Ext.drewN ?_ _ | refine Ext.trans ?_ (by assumption)))) (by omega) _ n n (List.replicate n 0) (BV.ext (OB.bv (P := fun _ => True) hO3 (fun _ _ => trivial)) (by with_reducible repeat (first | exact Ext.refl _ | refine Ext.alloc ?_ _ | refine Ext.drewN ?_ _ | refine Ext.trans ?_ (by assumption)))) (by omega) 0 (by rw [H2.out]; decide) (by rw [H2.out]; decide) (by rw [H2.out]; decide)).mono ?_; rintro e w4 ⟨A5, c5, d5, e5, rfl, H5, hb5, hE5⟩; obtain ⟨rfl, rfl⟩ : d5 = largeD n ∧ e5 = largeE n := (by have := H5.out; rw [H2.out, (large_put n).2.1, (large_put n).2.2] at this; exact this))))
      refine nx_done rfl trivial ?_
      try simp only [Act.put, List.setIfInBounds_toArray, List.set]
      refine run_free rfl ?_ run_none
      go_wp2_with (first | (go_at_call 22; go_loud (refine (newP_calls' (fun k => k ≠ g5) _ (fun k hk e => (by have h1 := hkF.lt; have h2 := Nat.le_trans (Ext.size (show Ext w7 _ from (by with_reducible repeat (first | exact Ext.refl _ | refine Ext.alloc ?_ _ | refine Ext.drewN ?_ _ | refine Ext.trans ?_ (by assumption))))) hk; omega)) 1 1 rfl).mono ?_; rintro e w2 ⟨A2, c2, d2, rfl, H2, hb2, hE2⟩)) | ((with_reducible (show wpList _ _ _ (⟨_, Op.makeSlice _ _ _, _, _, _, _⟩ :: _) _ _)); go_loud (refine wpList_mkB rfl _ _ _ rfl _ infoB Try.underlying22 _ _ n rfl rfl (by omega) ?_; intro g3 w3 hg3 hO3 hE3)) | (go_at_call 19; go_loud (refine (append_calls (fun k => k ≠ g5) _ (fun k hk e => (by have h1 := hkF.lt; have h2 := Nat.le_trans (Ext.size (show Ext w7 _ from (by with_reducible repeat (first | exact Ext.refl _ | refine Ext.alloc ?_ _ | refine Ext.drewN ?_ _ | refine Ext.trans ?_ (by assumption))))) hk; omega)) A2 1 c2 d2 (by refine BL.ext (by assumption) ?_; (with_reducible repeat (first | exact Ext.refl _ | refine Ext.alloc ?_ _ | refine Ext.drewN ?_ _ | refine Ext.trans ?_ (by assumption)))) (by omega) _ n n (List.replicate n 0) (BV.ext (OB.bv (P := fun _ => True) hO3 (fun _ _ => trivial)) (by with_reducible repeat (first | exact Ext.refl _ | refine Ext.alloc ?_ _ | refine Ext.drewN ?_ _ | refine Ext.trans ?_ (by assumption)))) (by omega) 0 (by rw [H2.out]; decide) (by rw [H2.out]; decide) (by rw [H2.out]; decide)).mono ?_; rintro e w4 ⟨A5, c5, d5, e5, rfl, H5, hb5, hE5⟩; obtain ⟨rfl, rfl⟩ : d5 = largeD n ∧ e5 = largeE n := (by have := H5.out; rw [H2.out, (large_put n).2.1, (large_put n).2.2] at this; exact this))))
      refine nx_done rfl trivial ?_
      try simp only [Act.put, List.setIfInBounds_toArray, List.set]
      apply run_read rfl
      · intro w1 hS
        go_wp2
        exact rv_done rfl rfl
      try simp only [Act.put, List.setIfInBounds_toArray, List.set]
      apply run_read rfl
      · intro w1 hS
        go_wp2
        exact rv_done rfl rfl
      try simp only [Act.put, List.setIfInBounds_toArray, List.set]
      apply run_read rfl
      · intro w1 hS
        go_wp2
        exact rv_done rfl rfl
      try simp only [Act.put, List.setIfInBounds_toArray, List.set]
      refine run_call1 rfl ?_ run_none
      ((with_reducible (show wpList _ _ _ (⟨_, Op.store _ _ _, _, _, _, _⟩ :: _) _ _)); go_loud (refine wpList_stB rfl _ _ _ rfl _ rfl rfl (by refine Blk.ext (by assumption) ?_; (with_reducible repeat (first | exact Ext.refl _ | refine Ext.alloc ?_ _ | refine Ext.drewN ?_ _ | refine Ext.trans ?_ (by assumption)))) (by kernel_rfl) (by rfl) (by simp [Value.oneCell']) ?_; intro w6 hk6 hF6))
      refine wpList_nil ?_
      refine nx_done rfl trivial ?_
      try simp only [Act.put, List.setIfInBounds_toArray, List.set]
      refine run_tail rfl ?_
      refine wpList_forget (fun w8 => Blk w8 g5 27 #[.slice A5 1 c5, .int .i64 (largeD n).wr, .int .i64 (largeD n).ct, .int .i64 (largeD n).tn, .bool (largeD n).off] ∧ BL w8 (fun k => k ≠ g5) A5 1 c5 (largeD n).areas ∧ Ext w w8) ⟨hk6, BL.fr (BL.ext hb5 (by with_reducible repeat (first | exact Ext.refl _ | refine Ext.alloc ?_ _ | refine Ext.drewN ?_ _ | refine Ext.trans ?_ (by assumption)))) hF6, Ext.over (hEF.trans (by with_reducible repeat (first | exact Ext.refl _ | refine Ext.alloc ?_ _ | refine Ext.drewN ?_ _ | refine Ext.trans ?_ (by assumption)))) hF6 hgF⟩ ?_
      clear hk6 hF6 hb5 hb2 hE2 hE3 hO3 hE5 H2 H5 hkF hbF hEF
      rintro w8 ⟨hkF, hbF, hEF⟩
      rcases hlarge with ⟨hbig, hD, hEr⟩ | ⟨hbig, hD, hEr⟩
      · rw [hD] at hkF hbF
        simp only [hEr]
        obtain ⟨bb, ob, A', n', c', rfl, hcell, hn'⟩ := BL.at0 (l := []) hbF
        simp only [List.length_nil] at hn'
        subst hn'
        obtain ⟨q0, q1, q2, q3, q4⟩ := hkF.c5
        simp only [newS] at q1
        clear hbF hkF hD hEr
        go_wp2
        go_ret
        exact ⟨rfl, hEF⟩
      · rw [hD] at hkF hbF
        simp only [hEr]
        obtain ⟨bb, ob, A', n', c', rfl, hcell, hn'⟩ := BL.at0 (l := List.replicate n 0) hbF
        simp only [List.length_replicate] at hn'
        subst hn'
        obtain ⟨q0, q1, q2, q3, q4⟩ := hkF.c5
        clear hbF hkF hD hEr
        go_wp2
        go_ret
        exact ⟨rfl, hEF⟩
    refine run_free rfl ?_ run_none
    go_wp2_with (first | (go_at_call 22; go_loud (refine (newP_calls' (fun k => k ≠ g5) _ (fun k hk e => (by have h1 := hkF.lt; have h2 := Nat.le_trans (Ext.size (show Ext w7 _ from (by with_reducible repeat (first | exact Ext.refl _ | refine Ext.alloc ?_ _ | refine Ext.drewN ?_ _ | refine Ext.trans ?_ (by assumption))))) hk; omega)) 1 1 rfl).mono ?_; rintro e w2 ⟨A2, c2, d2, rfl, H2, hb2, hE2⟩)) | ((with_reducible (show wpList _ _ _ (⟨_, Op.makeSlice _ _ _, _, _, _, _⟩ :: _) _ _)); go_loud (refine wpList_mkB rfl _ _ _ rfl _ infoB Try.underlying22 _ _ n rfl rfl (by omega) ?_; intro g3 w3 hg3 hO3 hE3)) | (go_at_call 19; go_loud (refine (append_calls (fun k => k ≠ g5) _ (fun k hk e => (by have h1 := hkF.lt; have h2 := Nat.le_trans (Ext.size (show Ext w7 _ from (by with_reducible repeat (first | exact Ext.refl _ | refine Ext.alloc ?_ _ | refine Ext.drewN ?_ _ | refine Ext.trans ?_ (by assumption))))) hk; omega)) A2 1 c2 d2 (by refine BL.ext (by assumption) ?_; (with_reducible repeat (first | exact Ext.refl _ | refine Ext.alloc ?_ _ | refine Ext.drewN ?_ _ | refine Ext.trans ?_ (by assumption)))) (by omega) _ n n (List.replicate n 0) (BV.ext (OB.bv (P := fun _ => True) hO3 (fun _ _ => trivial)) (by with_reducible repeat (first | exact Ext.refl _ | refine Ext.alloc ?_ _ | refine Ext.drewN ?_ _ | refine Ext.trans ?_ (by assumption)))) (by omega) 0 (by rw [H2.out]; decide) (by rw [H2.out]; decide) (by rw [H2.out]; decide)).mono ?_; rintro e w4 ⟨A5, c5, d5, e5, rfl, H5, hb5, hE5⟩; obtain ⟨rfl, rfl⟩ : d5 = largeD n ∧ e5 = largeE n := (by have := H5.out; rw [H2.out, (large_put n).2.1, (large_put n).2.2] at this; exact this))))
    refine nx_done rfl trivial ?_
    try simp only [Act.put, List.setIfInBounds_toArray, List.set]
    refine run_call1 rfl ?_ run_none
    go_wp2_with (first | (go_at_call 22; go_loud (refine (newP_calls' (fun k => k ≠ g5) _ (fun k hk e => (by have h1 := hkF.lt; have h2 := Nat.le_trans (Ext.size (show Ext w7 _ from (by with_reducible repeat (first | exact Ext.refl _ | refine Ext.alloc ?_ _ | refine Ext.drewN ?_ _ | refine Ext.trans ?_ (by assumption))))) hk; omega)) 1 1 rfl).mono ?_; rintro e w2 ⟨A2, c2, d2, rfl, H2, hb2, hE2⟩)) | ((with_reducible (show wpList _ _ _ (⟨_, Op.makeSlice _ _ _, _, _, _, _⟩ :: _) _ _)); go_loud (refine wpList_mkB rfl _ _ _ rfl _ infoB Try.underlying22 _ _ n rfl rfl (by omega) ?_; intro g3 w3 hg3 hO3 hE3)) | (go_at_call 19; go_loud (refine (append_calls (fun k => k ≠ g5) _ (fun k hk e => (by have h1 := hkF.lt; have h2 := Nat.le_trans (Ext.size (show Ext w7 _ from (by with_reducible repeat (first | exact Ext.refl _ | refine Ext.alloc ?_ _ | refine Ext.drewN ?_ _ | refine Ext.trans ?_ (by assumption))))) hk; omega)) A2 1 c2 d2 (by refine BL.ext (by assumption) ?_; (with_reducible repeat (first | exact Ext.refl _ | refine Ext.alloc ?_ _ | refine Ext.drewN ?_ _ | refine Ext.trans ?_ (by assumption)))) (by omega) _ n n (List.replicate n 0) (BV.ext (OB.bv (P := fun _ => True) hO3 (fun _ _ => trivial)) (by with_reducible repeat (first | exact Ext.refl _ | refine Ext.alloc ?_ _ | refine Ext.drewN ?_ _ | refine Ext.trans ?_ (by assumption)))) (by omega) 0 (by rw [H2.out]; decide) (by rw [H2.out]; decide) (by rw [H2.out]; decide)).mono ?_; rintro e w4 ⟨A5, c5, d5, e5, rfl, H5, hb5, hE5⟩; obtain ⟨rfl, rfl⟩ : d5 = largeD n ∧ e5 = largeE n := (by have := H5.out; rw [H2.out, (large_put n).2.1, (large_put n).2.2] at this; exact this))))
    refine nx_done rfl trivial ?_
    try simp only [Act.put, List.setIfInBounds_toArray, List.set]
    refine run_free rfl ?_ run_none
    go_wp2_with (first | (go_at_call 22; go_loud (refine (newP_calls' (fun k => k ≠ g5) _ (fun k hk e => (by have h1 := hkF.lt; have h2 := Nat.le_trans (Ext.size (show Ext w7 _ from (by with_reducible repeat (first | exact Ext.refl _ | refine Ext.alloc ?_ _ | refine Ext.drewN ?_ _ | refine Ext.trans ?_ (by assumption))))) hk; omega)) 1 1 rfl).mono ?_; rintro e w2 ⟨A2, c2, d2, rfl, H2, hb2, hE2⟩)) | ((with_reducible (show wpList _ _ _ (⟨_, Op.makeSlice _ _ _, _, _, _, _⟩ :: _) _ _)); go_loud (refine wpList_mkB rfl _ _ _ rfl _ infoB Try.underlying22 _ _ n rfl rfl (by omega) ?_; intro g3 w3 hg3 hO3 hE3)) | (go_at_call 19; go_loud (refine (append_calls (fun k => k ≠ g5) _ (fun k hk e => (by have h1 := hkF.lt; have h2 := Nat.le_trans (Ext.size (show Ext w7 _ from (by with_reducible repeat (first | exact Ext.refl _ | refine Ext.alloc ?_ _ | refine Ext.drewN ?_ _ | refine Ext.trans ?_ (by assumption))))) hk; omega)) A2 1 c2 d2 (by refine BL.ext (by assumption) ?_; (with_reducible repeat (first | exact Ext.refl _ | refine Ext.alloc ?_ _ | refine Ext.drewN ?_ _ | refine Ext.trans ?_ (by assumption)))) (by omega) _ n n (List.replicate n 0) (BV.ext (OB.bv (P := fun _ => True) hO3 (fun _ _ => trivial)) (by with_reducible repeat (first | exact Ext.refl _ | refine Ext.alloc ?_ _ | refine Ext.drewN ?_ _ | refine Ext.trans ?_ (by assumption)))) (by omega) 0 (by rw [H2.out]; decide) (by rw [H2.out]; decide) (by rw [H2.out]; decide)).mono ?_; rintro e w4 ⟨A5, c5, d5, e5, rfl, H5, hb5, hE5⟩; obtain ⟨rfl, rfl⟩ : d5 = largeD n ∧ e5 = largeE n := (by have := H5.out; rw [H2.out, (large_put n).2.1, (large_put n).2.2] at this; exact this))))
    refine nx_done rfl trivial ?_
    try simp only [Act.put, List.setIfInBounds_toArray, List.set]
    apply run_read rfl
    · intro w1 hS
      go_wp2
      exact rv_done rfl rfl
    try simp only [Act.put, List.setIfInBounds_toArray, List.set]
    apply run_read rfl
    · intro w1 hS
      go_wp2
      exact rv_done rfl rfl
    try simp only [Act.put, List.setIfInBounds_toArray, List.set]
    apply run_read rfl
    · intro w1 hS
      go_wp2
      exact rv_done rfl rfl
    try simp only [Act.put, List.setIfInBounds_toArray, List.set]
    refine run_call1 rfl ?_ run_none
    ((with_reducible (show wpList _ _ _ (⟨_, Op.store _ _ _, _, _, _, _⟩ :: _) _ _)); go_loud (refine wpList_stB rfl _ _ _ rfl _ rfl rfl (by refine Blk.ext (by assumption) ?_; (with_reducible repeat (first | exact Ext.refl _ | refine Ext.alloc ?_ _ | refine Ext.drewN ?_ _ | refine Ext.trans ?_ (by assumption)))) (by kernel_rfl) (by rfl) (by simp [Value.oneCell']) ?_; intro w6 hk6 hF6))
    refine wpList_nil ?_
    refine nx_done rfl trivial ?_
    try simp only [Act.put, List.setIfInBounds_toArray, List.set]
    refine run_tail rfl ?_
    refine wpList_forget (fun w8 => Blk w8 g5 27 #[.slice A5 1 c5, .int .i64 (largeD n).wr, .int .i64 (largeD n).ct, .int .i64 (largeD n).tn, .bool (largeD n).off] ∧ BL w8 (fun k => k ≠ g5) A5 1 c5 (largeD n).areas ∧ Ext w w8) ⟨hk6, BL.fr (BL.ext hb5 (by with_reducible repeat (first | exact Ext.refl _ | refine Ext.alloc ?_ _ | refine Ext.drewN ?_ _ | refine Ext.trans ?_ (by assumption)))) hF6, Ext.over (hEF.trans (by with_reducible repeat (first | exact Ext.refl _ | refine Ext.alloc ?_ _ | refine Ext.drewN ?_ _ | refine Ext.trans ?_ (by assumption)))) hF6 hgF⟩ ?_
    clear hk6 hF6 hb5 hb2 hE2 hE3 hO3 hE5 H2 H5 hkF hbF hEF
    rintro w8 ⟨hkF, hbF, hEF⟩
    rcases hlarge with ⟨hbig, hD, hEr⟩ | ⟨hbig, hD, hEr⟩
    · rw [hD] at hkF hbF
      simp only [hEr]
      obtain ⟨bb, ob, A', n', c', rfl, hcell, hn'⟩ := BL.at0 (l := []) hbF
      simp only [List.length_nil] at hn'
      subst hn'
      obtain ⟨q0, q1, q2, q3, q4⟩ := hkF.c5
      simp only [newS] at q1
      clear hbF hkF hD hEr
      go_wp2
      go_ret
      exact ⟨rfl, hEF⟩
    · rw [hD] at hkF hbF
      simp only [hEr]
      obtain ⟨bb, ob, A', n', c', rfl, hcell, hn'⟩ := BL.at0 (l := List.replicate n 0) hbF
      simp only [List.length_replicate] at hn'
      subst hn'
      obtain ⟨q0, q1, q2, q3, q4⟩ := hkF.c5
      clear hbF hkF hD hEr
      go_wp2
      go_ret
      exact ⟨rfl, hEF⟩
  refine run_call1 rfl ?_ run_none
  go_wp2_with (first | (go_at_call 22; go_loud ((first | refine (newP_calls' (fun k => k ≠ g5) _ (fun k hk e => (by have h1 := hk5.lt; have h2 := Nat.le_trans (Ext.size (show Ext w5 _ from (by with_reducible repeat (first | exact Ext.refl _ | refine Ext.alloc ?_ _ | refine Ext.drewN ?_ _ | refine Ext.trans ?_ (by assumption))))) hk; omega)) 1 1 rfl).mono ?_ | refine (newP_calls' (fun _ => True) _ (Anew.top _) 1 1 rfl).mono ?_); rintro e w2 ⟨A2, c2, d2, rfl, H2, hb2, hE2⟩)) | ((with_reducible (show wpList _ _ _ (⟨_, Op.makeSlice _ _ _, _, _, _, _⟩ :: _) _ _)); go_loud (refine wpList_mkB rfl _ _ _ rfl _ infoB Try.underlying22 _ _ n rfl rfl (by omega) ?_; intro g3 w3 hg3 hO3 hE3)) | (go_at_call 17; go_loud ((first | refine (write_calls (fun k => k ≠ g5) _ (fun k hk e => (by have h1 := hk5.lt; have h2 := Nat.le_trans (Ext.size (show Ext w5 _ from (by with_reducible repeat (first | exact Ext.refl _ | refine Ext.alloc ?_ _ | refine Ext.drewN ?_ _ | refine Ext.trans ?_ (by assumption))))) hk; omega)) A2 1 c2 d2 (by refine BL.ext (by assumption) ?_; (with_reducible repeat (first | exact Ext.refl _ | refine Ext.alloc ?_ _ | refine Ext.drewN ?_ _ | refine Ext.trans ?_ (by assumption)))) (by omega) _ n n (List.replicate n 0) (BV.ext (OB.bv (P := fun _ => True) hO3 (fun _ _ => trivial)) (by with_reducible repeat (first | exact Ext.refl _ | refine Ext.alloc ?_ _ | refine Ext.drewN ?_ _ | refine Ext.trans ?_ (by assumption)))) (by omega) 0 (by rw [H2.out]; decide) (by rw [H2.out]; decide) (by rw [H2.out]; decide)).mono ?_ | refine (write_calls (fun _ => True) _ (Anew.top _) A2 1 c2 d2 (by refine BL.ext (by assumption) ?_; (with_reducible repeat (first | exact Ext.refl _ | refine Ext.alloc ?_ _ | refine Ext.drewN ?_ _ | refine Ext.trans ?_ (by assumption)))) (by omega) _ n n (List.replicate n 0) (BV.ext (OB.bv (P := fun _ => True) hO3 (fun _ _ => trivial)) (by with_reducible repeat (first | exact Ext.refl _ | refine Ext.alloc ?_ _ | refine Ext.drewN ?_ _ | refine Ext.trans ?_ (by assumption)))) (by omega) 0 (by rw [H2.out]; decide) (by rw [H2.out]; decide) (by rw [H2.out]; decide)).mono ?_); rintro e w4 ⟨A4, c4, d4, e4, rfl, H4, hb4, hE4⟩; obtain ⟨rfl, rfl⟩ : d4 = largeD n ∧ e4 = largeE n := (by have := H4.out; rw [H2.out, (large_put n).1, (large_put n).2.2] at this; exact this))))
  refine nx_done rfl trivial ?_
  try simp only [Act.put, List.setIfInBounds_toArray, List.set]
  refine run_call1 rfl ?_ run_none
  go_wp2_with (first | (go_at_call 22; go_loud ((first | refine (newP_calls' (fun k => k ≠ g5) _ (fun k hk e => (by have h1 := hk5.lt; have h2 := Nat.le_trans (Ext.size (show Ext w5 _ from (by with_reducible repeat (first | exact Ext.refl _ | refine Ext.alloc ?_ _ | refine Ext.drewN ?_ _ | refine Ext.trans ?_ (by assumption))))) hk; omega)) 1 1 rfl).mono ?_ | refine (newP_calls' (fun _ => True) _ (Anew.top _) 1 1 rfl).mono ?_); rintro e w2 ⟨A2, c2, d2, rfl, H2, hb2, hE2⟩)) | ((with_reducible (show wpList _ _ _ (⟨_, Op.makeSlice _ _ _, _, _, _, _⟩ :: _) _ _)); go_loud (refine wpList_mkB rfl _ _ _ rfl _ infoB Try.underlying22 _ _ n rfl rfl (by omega) ?_; intro g3 w3 hg3 hO3 hE3)) | (go_at_call 17; go_loud ((first | refine (write_calls (fun k => k ≠ g5) _ (fun k hk e => (by have h1 := hk5.lt; have h2 := Nat.le_trans (Ext.size (show Ext w5 _ from (by with_reducible repeat (first | exact Ext.refl _ | refine Ext.alloc ?_ _ | refine Ext.drewN ?_ _ | refine Ext.trans ?_ (by assumption))))) hk; omega)) A2 1 c2 d2 (by refine BL.ext (by assumption) ?_; (with_reducible repeat (first | exact Ext.refl _ | refine Ext.alloc ?_ _ | refine Ext.drewN ?_ _ | refine Ext.trans ?_ (by assumption)))) (by omega) _ n n (List.replicate n 0) (BV.ext (OB.bv (P := fun _ => True) hO3 (fun _ _ => trivial)) (by with_reducible repeat (first | exact Ext.refl _ | refine Ext.alloc ?_ _ | refine Ext.drewN ?_ _ | refine Ext.trans ?_ (by assumption)))) (by omega) 0 (by rw [H2.out]; decide) (by rw [H2.out]; decide) (by rw [H2.out]; decide)).mono ?_ | refine (write_calls (fun _ => True) _ (Anew.top _) A2 1 c2 d2 (by refine BL.ext (by assumption) ?_; (with_reducible repeat (first | exact Ext.refl _ | refine Ext.alloc ?_ _ | refine Ext.drewN ?_ _ | refine Ext.trans ?_ (by assumption)))) (by omega) _ n n (List.replicate n 0) (BV.ext (OB.bv (P := fun _ => True) hO3 (fun _ _ => trivial)) (by with_reducible repeat (first | exact Ext.refl _ | refine Ext.alloc ?_ _ | refine Ext.drewN ?_ _ | refine Ext.trans ?_ (by assumption)))) (by omega) 0 (by rw [H2.out]; decide) (by rw [H2.out]; decide) (by rw [H2.out]; decide)).mono ?_); rintro e w4 ⟨A4, c4, d4, e4, rfl, H4, hb4, hE4⟩; obtain ⟨rfl, rfl⟩ : d4 = largeD n ∧ e4 = largeE n := (by have := H4.out; rw [H2.out, (large_put n).1, (large_put n).2.2] at this; exact this))))
  refine nx_done rfl trivial ?_
  try simp only [Act.put, List.setIfInBounds_toArray, List.set]
  refine run_call1 rfl ?_ run_none
  go_wp2_with (first | (go_at_call 22; go_loud ((first | refine (newP_calls' (fun k => k ≠ g5) _ (fun k hk e => (by have h1 := hk5.lt; have h2 := Nat.le_trans (Ext.size (show Ext w5 _ from (by with_reducible repeat (first | exact Ext.refl _ | refine Ext.alloc ?_ _ | refine Ext.drewN ?_ _ | refine Ext.trans ?_ (by assumption))))) hk; omega)) 1 1 rfl).mono ?_ | refine (newP_calls' (fun _ => True) _ (Anew.top _) 1 1 rfl).mono ?_); rintro e w2 ⟨A2, c2, d2, rfl, H2, hb2, hE2⟩)) | ((with_reducible (show wpList _ _ _ (⟨_, Op.makeSlice _ _ _, _, _, _, _⟩ :: _) _ _)); go_loud (refine wpList_mkB rfl _ _ _ rfl _ infoB Try.underlying22 _ _ n rfl rfl (by omega) ?_; intro g3 w3 hg3 hO3 hE3)) | (go_at_call 17; go_loud ((first | refine (write_calls (fun k => k ≠ g5) _ (fun k hk e => (by have h1 := hk5.lt; have h2 := Nat.le_trans (Ext.size (show Ext w5 _ from (by with_reducible repeat (first | exact Ext.refl _ | refine Ext.alloc ?_ _ | refine Ext.drewN ?_ _ | refine Ext.trans ?_ (by assumption))))) hk; omega)) A2 1 c2 d2 (by refine BL.ext (by assumption) ?_; (with_reducible repeat (first | exact Ext.refl _ | refine Ext.alloc ?_ _ | refine Ext.drewN ?_ _ | refine Ext.trans ?_ (by assumption)))) (by omega) _ n n (List.replicate n 0) (BV.ext (OB.bv (P := fun _ => True) hO3 (fun _ _ => trivial)) (by with_reducible repeat (first | exact Ext.refl _ | refine Ext.alloc ?_ _ | refine Ext.drewN ?_ _ | refine Ext.trans ?_ (by assumption)))) (by omega) 0 (by rw [H2.out]; decide) (by rw [H2.out]; decide) (by rw [H2.out]; decide)).mono ?_ | refine (write_calls (fun _ => True) _ (Anew.top _) A2 1 c2 d2 (by refine BL.ext (by assumption) ?_; (with_reducible repeat (first | exact Ext.refl _ | refine Ext.alloc ?_ _ | refine Ext.drewN ?_ _ | refine Ext.trans ?_ (by assumption)))) (by omega) _ n n (List.replicate n 0) (BV.ext (OB.bv (P := fun _ => True) hO3 (fun _ _ => trivial)) (by with_reducible repeat (first | exact Ext.refl _ | refine Ext.alloc ?_ _ | refine Ext.drewN ?_ _ | refine Ext.trans ?_ (by assumption)))) (by omega) 0 (by rw [H2.out]; decide) (by rw [H2.out]; decide) (by rw [H2.out]; decide)).mono ?_); rintro e w4 ⟨A4, c4, d4, e4, rfl, H4, hb4, hE4⟩; obtain ⟨rfl, rfl⟩ : d4 = largeD n ∧ e4 = largeE n := (by have := H4.out; rw [H2.out, (large_put n).1, (large_put n).2.2] at this; exact this))))
  refine nx_done rfl trivial ?_
  try simp only [Act.put, List.setIfInBounds_toArray, List.set]
  apply run_read rfl
  · intro w1 hS
    go_wp2
    exact rv_done rfl rfl
  try simp only [Act.put, List.setIfInBounds_toArray, List.set]
  apply run_read rfl
  · intro w1 hS
    go_wp2
    exact rv_done rfl rfl
  try simp only [Act.put, List.setIfInBounds_toArray, List.set]
  apply run_read rfl
  · intro w1 hS
    go_wp2
    exact rv_done rfl rfl
  try simp only [Act.put, List.setIfInBounds_toArray, List.set]
  refine run_call1 rfl ?_ run_none
  ((with_reducible (show wpList _ _ _ (⟨_, Op.store _ _ _, _, _, _, _⟩ :: _) _ _)); go_loud (refine wpList_stB rfl _ _ _ rfl _ rfl rfl (by refine Blk.ext (by assumption) ?_; (with_reducible repeat (first | exact Ext.refl _ | refine Ext.alloc ?_ _ | refine Ext.drewN ?_ _ | refine Ext.trans ?_ (by assumption)))) (by kernel_rfl) (by rfl) (by simp [Value.oneCell']) ?_; intro w6 hk6 hF6))
  refine wpList_nil ?_
  refine nx_done rfl trivial ?_
  try simp only [Act.put, List.setIfInBounds_toArray, List.set]
  refine run_tail rfl ?_
  refine wpList_forget (fun w7 => Blk w7 g5 27 #[.slice A4 1 c4, .int .i64 (largeD n).wr, .int .i64 (largeD n).ct, .int .i64 (largeD n).tn, .bool (largeD n).off] ∧ BL w7 (fun k => k ≠ g5) A4 1 c4 (largeD n).areas ∧ Ext w w7 ∧ w.heap.size ≤ g5) ⟨hk6, BL.fr (BL.ext hb4 (by with_reducible repeat (first | exact Ext.refl _ | refine Ext.alloc ?_ _ | refine Ext.drewN ?_ _ | refine Ext.trans ?_ (by assumption)))) hF6, Ext.over (by with_reducible repeat (first | exact Ext.refl _ | refine Ext.alloc ?_ _ | refine Ext.drewN ?_ _ | refine Ext.trans ?_ (by assumption))) hF6 (Nat.le_trans (Ext.size (by with_reducible repeat (first | exact Ext.refl _ | refine Ext.alloc ?_ _ | refine Ext.drewN ?_ _ | refine Ext.trans ?_ (by assumption)))) hg5), Nat.le_trans (Ext.size (by with_reducible repeat (first | exact Ext.refl _ | refine Ext.alloc ?_ _ | refine Ext.drewN ?_ _ | refine Ext.trans ?_ (by assumption)))) hg5⟩ ?_
  clear hk6 hF6 hb4 hb2 hE1 hE2 hE3 hE4 hE5 hk5 hO3 hg5 H2 H4
  rintro w7 ⟨hkF, hbF, hEF, hgF⟩
  go_upto_region 7 with fail
  refine wp_region_planG (fun _ _ => True) (.read 1 (.call false 0 (.call false 2 (.call true 3 (.read 4 (.read 5 (.read 6 (.call false 7 .tail .none)))) .none) .none) (.call true 2 (.call false 0 (.call true 3 (.read 4 (.read 5 (.read 6 (.call false 7 .tail .none)))) .none) .none) .none))) 8 (by kernel_rfl) (by kernel_rfl) (by kernel_rfl) (fun _ => trivial) (fun _ _ _ _ _ => trivial) Ext (Ext.drew (Ext.refl _)) (fun wR hR => ?_)
  apply run_read rfl
  · intro w1 hS
    go_wp2
    exact rv_done rfl rfl
  try simp only [Act.put, List.setIfInBounds_toArray, List.set]
  refine run_call1 rfl ?_ ?_
  · go_wp2_with (first | (go_at_call 22; go_loud (refine (newP_calls' (fun k => k ≠ g5) _ (fun k hk e => (by have h1 := hkF.lt; have h2 := Nat.le_trans (Ext.size (show Ext w7 _ from (by with_reducible repeat (first | exact Ext.refl _ | refine Ext.alloc ?_ _ | refine Ext.drewN ?_ _ | refine Ext.trans ?_ (by assumption))))) hk; omega)) 1 1 rfl).mono ?_; rintro e w2 ⟨A2, c2, d2, rfl, H2, hb2, hE2⟩)) | ((with_reducible (show wpList _ _ _ (⟨_, Op.makeSlice _ _ _, _, _, _, _⟩ :: _) _ _)); go_loud (refine wpList_mkB rfl _ _ _ rfl _ infoB Try.underlying22 _ _ n rfl rfl (by omega) ?_; intro g3 w3 hg3 hO3 hE3)) | (go_at_call 19; go_loud (refine (append_calls (fun k => k ≠ g5) _ (fun k hk e => (by have h1 := hkF.lt; have h2 := Nat.le_trans (Ext.size (show Ext w7 _ from (by with_reducible repeat (first | exact Ext.refl _ | refine Ext.alloc ?_ _ | refine Ext.drewN ?_ _ | refine Ext.trans ?_ (by assumption))))) hk; omega)) A2 1 c2 d2 (by refine BL.ext (by assumption) ?_; (with_reducible repeat (first | exact Ext.refl _ | refine Ext.alloc ?_ _ | refine Ext.drewN ?_ _ | refine Ext.trans ?_ (by assumption)))) (by omega) _ n n (List.replicate n 0) (BV.ext (OB.bv (P := fun _ => True) hO3 (fun _ _ => trivial)) (by with_reducible repeat (first | exact Ext.refl _ | refine Ext.alloc ?_ _ | refine Ext.drewN ?_ _ | refine Ext.trans ?_ (by assumption)))) (by omega) 0 (by rw [H2.out]; decide) (by rw [H2.out]; decide) (by rw [H2.out]; decide)).mono ?_; rintro e w4 ⟨A5, c5, d5, e5, rfl, H5, hb5, hE5⟩; obtain ⟨rfl, rfl⟩ : d5 = largeD n ∧ e5 = largeE n := (by have := H5.out; rw [H2.out, (large_put n).2.1, (large_put n).2.2] at this; exact this))))
    refine nx_done rfl trivial ?_
    try simp only [Act.put, List.setIfInBounds_toArray, List.set]
    refine run_call1 rfl ?_ run_none
    go_wp2_with (first | (go_at_call 22; go_loud (refine (newP_calls' (fun k => k ≠ g5) _ (fun k hk e => (by have h1 := hkF.lt; have h2 := Nat.le_trans (Ext.size (show Ext w7 _ from (by with_reducible repeat (first | exact Ext.refl _ | refine Ext.alloc ?_ _ | refine Ext.drewN ?_ _ | refine Ext.trans ?_ (by assumption))))) hk; omega)) 1 1 rfl).mono ?_; rintro e w2 ⟨A2, c2, d2, rfl, H2, hb2, hE2⟩)) | ((with_reducible (show wpList _ _ _ (⟨_, Op.makeSlice _ _ _, _, _, _, _⟩ :: _) _ _)); go_loud (refine wpList_mkB rfl _ _ _ rfl _ infoB Try.underlying22 _ _ n rfl rfl (by omega) ?_; intro g3 w3 hg3 hO3 hE3)) | (go_at_call 19; go_loud (refine (append_calls (fun k => k ≠ g5) _ (fun k hk e => (by have h1 := hkF.lt; have h2 := Nat.le_trans (Ext.size (show Ext w7 _ from (by with_reducible repeat (first | exact Ext.refl _ | refine Ext.alloc ?_ _ | refine Ext.drewN ?_ _ | refine Ext.trans ?_ (by assumption))))) hk; omega)) A2 1 c2 d2 (by refine BL.ext (by assumption) ?_; (with_reducible repeat (first | exact Ext.refl _ | refine Ext.alloc ?_ _ | refine Ext.drewN ?_ _ | refine Ext.trans ?_ (by assumption)))) (by omega) _ n n (List.replicate n 0) (BV.ext (OB.bv (P := fun _ => True) hO3 (fun _ _ => trivial)) (by with_reducible repeat (first | exact Ext.refl _ | refine Ext.alloc ?_ _ | refine Ext.drewN ?_ _ | refine Ext.trans ?_ (by assumption)))) (by omega) 0 (by rw [H2.out]; decide) (by rw [H2.out]; decide) (by rw [H2.out]; decide)).mono ?_; rintro e w4 ⟨A5, c5, d5, e5, rfl, H5, hb5, hE5⟩; obtain ⟨rfl, rfl⟩ : d5 = largeD n ∧ e5 = largeE n := (by have := H5.out; rw [H2.out, (large_put n).2.1, (large_put n).2.2] at this; exact this))))
    refine nx_done rfl trivial ?_
    try simp only [Act.put, List.setIfInBounds_toArray, List.set]
    refine run_free rfl ?_ run_none
    go_wp2_with (first | (go_at_call 22; go_loud (refine (newP_calls' (fun k => k ≠ g5) _ (fun k hk e => (by have h1 := hkF.lt; have h2 := Nat.le_trans (Ext.size (show Ext w7 _ from (by with_reducible repeat (first | exact Ext.refl _ | refine Ext.alloc ?_ _ | refine Ext.drewN ?_ _ | refine Ext.trans ?_ (by assumption))))) hk; omega)) 1 1 rfl).mono ?_; rintro e w2 ⟨A2, c2, d2, rfl, H2, hb2, hE2⟩)) | ((with_reducible (show wpList _ _ _ (⟨_, Op.makeSlice _ _ _, _, _, _, _⟩ :: _) _ _)); go_loud (refine wpList_mkB rfl _ _ _ rfl _ infoB Try.underlying22 _ _ n rfl rfl (by omega) ?_; intro g3 w3 hg3 hO3 hE3)) | (go_at_call 19; go_loud (refine (append_calls (fun k => k ≠ g5) _ (fun k hk e => (by have h1 := hkF.lt; have h2 := Nat.le_trans (Ext.size (show Ext w7 _ from (by with_reducible repeat (first | exact Ext.refl _ | refine Ext.alloc ?_ _ | refine Ext.drewN ?_ _ | refine Ext.trans ?_ (by assumption))))) hk; omega)) A2 1 c2 d2 (by refine BL.ext (by assumption) ?_; (with_reducible repeat (first | exact Ext.refl _ | refine Ext.alloc ?_ _ | refine Ext.drewN ?_ _ | refine Ext.trans ?_ (by assumption)))) (by omega) _ n n (List.replicate n 0) (BV.ext (OB.bv (P := fun _ => True) hO3 (fun _ _ => trivial)) (by with_reducible repeat (first | exact Ext.refl _ | refine Ext.alloc ?_ _ | refine Ext.drewN ?_ _ | refine Ext.trans ?_ (by assumption)))) (by omega) 0 (by rw [H2.out]; decide) (by rw [H2.out]; decide) (by rw [H2.out]; decide)).mono ?_; rintro e w4 ⟨A5, c5, d5, e5, rfl, H5, hb5, hE5⟩; obtain ⟨rfl, rfl⟩ : d5 = largeD n ∧ e5 = largeE n := (by have := H5.out; rw [H2.out, (large_put n).2.1, (large_put n).2.2] at this; exact this))))
    refine nx_done rfl trivial ?_
    try simp only [Act.put, List.setIfInBounds_toArray, List.set]
    apply run_read rfl
    · intro w1 hS
      go_wp2
      exact rv_done rfl rfl
    try simp only [Act.put, List.setIfInBounds_toArray, List.set]
    apply run_read rfl
    · intro w1 hS
      go_wp2
      exact rv_done rfl rfl
    try simp only [Act.put, List.setIfInBounds_toArray, List.set]
    apply run_read rfl
    · intro w1 hS
      go_wp2
      exact rv_done rfl rfl
    try simp only [Act.put, List.setIfInBounds_toArray, List.set]
    refine run_call1 rfl ?_ run_none
    ((with_reducible (show wpList _ _ _ (⟨_, Op.store _ _ _, _, _, _, _⟩ :: _) _ _)); go_loud (refine wpList_stB rfl _ _ _ rfl _ rfl rfl (by refine Blk.ext (by assumption) ?_; (with_reducible repeat (first | exact Ext.refl _ | refine Ext.alloc ?_ _ | refine Ext.drewN ?_ _ | refine Ext.trans ?_ (by assumption)))) (by kernel_rfl) (by rfl) (by simp [Value.oneCell']) ?_; intro w6 hk6 hF6))
    refine wpList_nil ?_
    refine nx_done rfl trivial ?_
    try simp only [Act.put, List.setIfInBounds_toArray, List.set]
    refine run_tail rfl ?_
    refine wpList_forget (fun w8 => Blk w8 g5 27 #[.slice A5 1 c5, .int .i64 (largeD n).wr, .int .i64 (largeD n).ct, .int .i64 (largeD n).tn, .bool (largeD n).off] ∧ BL w8 (fun k => k ≠ g5) A5 1 c5 (largeD n).areas ∧ Ext w w8) ⟨hk6, BL.fr (BL.ext hb5 (by with_reducible repeat (first | exact Ext.refl _ | refine Ext.alloc ?_ _ | refine Ext.drewN ?_ _ | refine Ext.trans ?_ (by assumption)))) hF6, Ext.over (hEF.trans (by with_reducible repeat (first | exact Ext.refl _ | refine Ext.alloc ?_ _ | refine Ext.drewN ?_ _ | refine Ext.trans ?_ (by assumption)))) hF6 hgF⟩ ?_
    clear hk6 hF6 hb5 hb2 hE2 hE3 hO3 hE5 H2 H5 hkF hbF hEF
    rintro w8 ⟨hkF, hbF, hEF⟩
    rcases hlarge with ⟨hbig, hD, hEr⟩ | ⟨hbig, hD, hEr⟩
    · rw [hD] at hkF hbF
      simp only [hEr]
      obtain ⟨bb, ob, A', n', c', rfl, hcell, hn'⟩ := BL.at0 (l := []) hbF
      simp only [List.length_nil] at hn'
      subst hn'
      obtain ⟨q0, q1, q2, q3, q4⟩ := hkF.c5
      simp only [newS] at q1
      clear hbF hkF hD hEr
      go_wp2
      go_ret
      exact ⟨rfl, hEF⟩
    · rw [hD] at hkF hbF
      simp only [hEr]
      obtain ⟨bb, ob, A', n', c', rfl, hcell, hn'⟩ := BL.at0 (l := List.replicate n 0) hbF
      simp only [List.length_replicate] at hn'
      subst hn'
      obtain ⟨q0, q1, q2, q3, q4⟩ := hkF.c5
      clear hbF hkF hD hEr
      go_wp2
      go_ret
      exact ⟨rfl, hEF⟩
  refine run_free rfl ?_ run_none
  go_wp2_with (first | (go_at_call 22; go_loud (refine (newP_calls' (fun k => k ≠ g5) _ (fun k hk e => (by have h1 := hkF.lt; have h2 := Nat.le_trans (Ext.size (show Ext w7 _ from (by with_reducible repeat (first | exact Ext.refl _ | refine Ext.alloc ?_ _ | refine Ext.drewN ?_ _ | refine Ext.trans ?_ (by assumption))))) hk; omega)) 1 1 rfl).mono ?_; rintro e w2 ⟨A2, c2, d2, rfl, H2, hb2, hE2⟩)) | ((with_reducible (show wpList _ _ _ (⟨_, Op.makeSlice _ _ _, _, _, _, _⟩ :: _) _ _)); go_loud (refine wpList_mkB rfl _ _ _ rfl _ infoB Try.underlying22 _ _ n rfl rfl (by omega) ?_; intro g3 w3 hg3 hO3 hE3)) | (go_at_call 19; go_loud (refine (append_calls (fun k => k ≠ g5) _ (fun k hk e => (by have h1 := hkF.lt; have h2 := Nat.le_trans (Ext.size (show Ext w7 _ from (by with_reducible repeat (first | exact Ext.refl _ | refine Ext.alloc ?_ _ | refine Ext.drewN ?_ _ | refine Ext.trans ?_ (by assumption))))) hk; omega)) A2 1 c2 d2 (by refine BL.ext (by assumption) ?_; (with_reducible repeat (first | exact Ext.refl _ | refine Ext.alloc ?_ _ | refine Ext.drewN ?_ _ | refine Ext.trans ?_ (by assumption)))) (by omega) _ n n (List.replicate n 0) (BV.ext (OB.bv (P := fun _ => True) hO3 (fun _ _ => trivial)) (by with_reducible repeat (first | exact Ext.refl _ | refine Ext.alloc ?_ _ | refine Ext.drewN ?_ _ | refine Ext.trans ?_ (by assumption)))) (by omega) 0 (by rw [H2.out]; decide) (by rw [H2.out]; decide) (by rw [H2.out]; decide)).mono ?_; rintro e w4 ⟨A5, c5, d5, e5, rfl, H5, hb5, hE5⟩; obtain ⟨rfl, rfl⟩ : d5 = largeD n ∧ e5 = largeE n := (by have := H5.out; rw [H2.out, (large_put n).2.1, (large_put n).2.2] at this; exact this))))
  refine nx_done rfl trivial ?_
  try simp only [Act.put, List.setIfInBounds_toArray, List.set]
  refine run_call1 rfl ?_ run_none
  go_wp2_with (first | (go_at_call 22; go_loud (refine (newP_calls' (fun k => k ≠ g5) _ (fun k hk e => (by have h1 := hkF.lt; have h2 := Nat.le_trans (Ext.size (show Ext w7 _ from (by with_reducible repeat (first | exact Ext.refl _ | refine Ext.alloc ?_ _ | refine Ext.drewN ?_ _ | refine Ext.trans ?_ (by assumption))))) hk; omega)) 1 1 rfl).mono ?_; rintro e w2 ⟨A2, c2, d2, rfl, H2, hb2, hE2⟩)) | ((with_reducible (show wpList _ _ _ (⟨_, Op.makeSlice _ _ _, _, _, _, _⟩ :: _) _ _)); go_loud (refine wpList_mkB rfl _ _ _ rfl _ infoB Try.underlying22 _ _ n rfl rfl (by omega) ?_; intro g3 w3 hg3 hO3 hE3)) | (go_at_call 19; go_loud (refine (append_calls (fun k => k ≠ g5) _ (fun k hk e => (by have h1 := hkF.lt; have h2 := Nat.le_trans (Ext.size (show Ext w7 _ from (by with_reducible repeat (first | exact Ext.refl _ | refine Ext.alloc ?_ _ | refine Ext.drewN ?_ _ | refine Ext.trans ?_ (by assumption))))) hk; omega)) A2 1 c2 d2 (by refine BL.ext (by assumption) ?_; (with_reducible repeat (first | exact Ext.refl _ | refine Ext.alloc ?_ _ | refine Ext.drewN ?_ _ | refine Ext.trans ?_ (by assumption)))) (by omega) _ n n (List.replicate n 0) (BV.ext (OB.bv (P := fun _ => True) hO3 (fun _ _ => trivial)) (by with_reducible repeat (first | exact Ext.refl _ | refine Ext.alloc ?_ _ | refine Ext.drewN ?_ _ | refine Ext.trans ?_ (by assumption)))) (by omega) 0 (by rw [H2.out]; decide) (by rw [H2.out]; decide) (by rw [H2.out]; decide)).mono ?_; rintro e w4 ⟨A5, c5, d5, e5, rfl, H5, hb5, hE5⟩; obtain ⟨rfl, rfl⟩ : d5 = largeD n ∧ e5 = largeE n := (by have := H5.out; rw [H2.out, (large_put n).2.1, (large_put n).2.2] at this; exact this))))
  refine nx_done rfl trivial ?_
  try simp only [Act.put, List.setIfInBounds_toArray, List.set]
  refine run_free rfl ?_ run_none
  go_wp2_with (first | (go_at_call 22; go_loud (refine (newP_calls' (fun k => k ≠ g5) _ (fun k hk e => (by have h1 := hkF.lt; have h2 := Nat.le_trans (Ext.size (show Ext w7 _ from (by with_reducible repeat (first | exact Ext.refl _ | refine Ext.alloc ?_ _ | refine Ext.drewN ?_ _ | refine Ext.trans ?_ (by assumption))))) hk; omega)) 1 1 rfl).mono ?_; rintro e w2 ⟨A2, c2, d2, rfl, H2, hb2, hE2⟩)) | ((with_reducible (show wpList _ _ _ (⟨_, Op.makeSlice _ _ _, _, _, _, _⟩ :: _) _ _)); go_loud (refine wpList_mkB rfl _ _ _ rfl _ infoB Try.underlying22 _ _ n rfl rfl (by omega) ?_; intro g3 w3 hg3 hO3 hE3)) | (go_at_call 19; go_loud (refine (append_calls (fun k => k ≠ g5) _ (fun k hk e => (by have h1 := hkF.lt; have h2 := Nat.le_trans (Ext.size (show Ext w7 _ from (by with_reducible repeat (first | exact Ext.refl _ | refine Ext.alloc ?_ _ | refine Ext.drewN ?_ _ | refine Ext.trans ?_ (by assumption))))) hk; omega)) A2 1 c2 d2 (by refine BL.ext (by assumption) ?_; (with_reducible repeat (first | exact Ext.refl _ | refine Ext.alloc ?_ _ | refine Ext.drewN ?_ _ | refine Ext.trans ?_ (by assumption)))) (by omega) _ n n (List.replicate n 0) (BV.ext (OB.bv (P := fun _ => True) hO3 (fun _ _ => trivial)) (by with_reducible repeat (first | exact Ext.refl _ | refine Ext.alloc ?_ _ | refine Ext.drewN ?_ _ | refine Ext.trans ?_ (by assumption)))) (by omega) 0 (by rw [H2.out]; decide) (by rw [H2.out]; decide) (by rw [H2.out]; decide)).mono ?_; rintro e w4 ⟨A5, c5, d5, e5, rfl, H5, hb5, hE5⟩; obtain ⟨rfl, rfl⟩ : d5 = largeD n ∧ e5 = largeE n := (by have := H5.out; rw [H2.out, (large_put n).2.1, (large_put n).2.2] at this; exact this))))
  refine nx_done rfl trivial ?_
  try simp only [Act.put, List.setIfInBounds_toArray, List.set]
  apply run_read rfl
  · intro w1 hS
    go_wp2
    exact rv_done rfl rfl
  try simp only [Act.put, List.setIfInBounds_toArray, List.set]
  apply run_read rfl
  · intro w1 hS
    go_wp2
    exact rv_done rfl rfl
  try simp only [Act.put, List.setIfInBounds_toArray, List.set]
  apply run_read rfl
  · intro w1 hS
    go_wp2
    exact rv_done rfl rfl
  try simp only [Act.put, List.setIfInBounds_toArray, List.set]
  refine run_call1 rfl ?_ run_none
  ((with_reducible (show wpList _ _ _ (⟨_, Op.store _ _ _, _, _, _, _⟩ :: _) _ _)); go_loud (refine wpList_stB rfl _ _ _ rfl _ rfl rfl (by refine Blk.ext (by assumption) ?_; (with_reducible repeat (first | exact Ext.refl _ | refine Ext.alloc ?_ _ | refine Ext.drewN ?_ _ | refine Ext.trans ?_ (by assumption)))) (by kernel_rfl) (by rfl) (by simp [Value.oneCell']) ?_; intro w6 hk6 hF6))
  refine wpList_nil ?_
  refine nx_done rfl trivial ?_
  try simp only [Act.put, List.setIfInBounds_toArray, List.set]
  refine run_tail rfl ?_
  refine wpList_forget (fun w8 => Blk w8 g5 27 #[.slice A5 1 c5, .int .i64 (largeD n).wr, .int .i64 (largeD n).ct, .int .i64 (largeD n).tn, .bool (largeD n).off] ∧ BL w8 (fun k => k ≠ g5) A5 1 c5 (largeD n).areas ∧ Ext w w8) ⟨hk6, BL.fr (BL.ext hb5 (by with_reducible repeat (first | exact Ext.refl _ | refine Ext.alloc ?_ _ | refine Ext.drewN ?_ _ | refine Ext.trans ?_ (by assumption)))) hF6, Ext.over (hEF.trans (by with_reducible repeat (first | exact Ext.refl _ | refine Ext.alloc ?_ _ | refine Ext.drewN ?_ _ | refine Ext.trans ?_ (by assumption)))) hF6 hgF⟩ ?_
  clear hk6 hF6 hb5 hb2 hE2 hE3 hO3 hE5 H2 H5 hkF hbF hEF
  rintro w8 ⟨hkF, hbF, hEF⟩
  rcases hlarge with ⟨hbig, hD, hEr⟩ | ⟨hbig, hD, hEr⟩
  · rw [hD] at hkF hbF
    simp only [hEr]
    obtain ⟨bb, ob, A', n', c', rfl, hcell, hn'⟩ := BL.at0 (l := []) hbF
    simp only [List.length_nil] at hn'
    subst hn'
    obtain ⟨q0, q1, q2, q3, q4⟩ := hkF.c5
    simp only [newS] at q1
    clear hbF hkF hD hEr
    go_wp2
    go_ret
    exact ⟨rfl, hEF⟩
  · rw [hD] at hkF hbF
    simp only [hEr]
    obtain ⟨bb, ob, A', n', c', rfl, hcell, hn'⟩ := BL.at0 (l := List.replicate n 0) hbF
    simp only [List.length_replicate] at hn'
    subst hn'
    obtain ⟨q0, q1, q2, q3, q4⟩ := hkF.c5
    clear hbF hkF hD hEr
    go_wp2
    go_ret
    exact ⟨rfl, hEF⟩
theorem diskLarge_walk (w : World) (n0 : Int) (add : Bool) :
    Calls Try.prog 5 #[.int .i64 n0, .bool add] w fun e w' => e = .returned (.bool true) ∧ Ext w w' := by
  by_cases hlo : n0 < 65530
  · go_enter Try.func5, Try.ntmps5
    go_wp2_with (go_at_call 9; go_loud (refine (awake_calls w).mono ?_; rintro e w1 ⟨rfl, hE1⟩))
    go_ret
    exact ⟨rfl, hE1⟩
  by_cases hhi : 65545 < n0
  · go_enter Try.func5, Try.ntmps5
    go_wp2_with (go_at_call 9; go_loud (refine (awake_calls w).mono ?_; rintro e w1 ⟨rfl, hE1⟩))
    go_ret
    exact ⟨rfl, hE1⟩
  obtain ⟨n, rfl⟩ := Int.eq_ofNat_of_zero_le (show 0 ≤ n0 by omega)
  cases add with
  | false => exact large_false w n (by omega) (by omega)
  | true => exact large_true w n (by omega) (by omega)
end Go.Proofs.Ythbpddblejnjjaa
