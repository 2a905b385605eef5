/- WireSticky: the walk. -/
import Derived.Test.YtbdiodibeiohlaaWireF
namespace Go.Proofs.Ytbdiodibeiohlaa
set_option linter.all false
open Go.RowKit
theorem stk_uint (l : List UInt8) (p : Nat) (er : Int) (h : er ≠ 0) (k : Int) : rdUint ⟨l, p, er⟩ k = (⟨l, p, er⟩, 0) := by unfold rdUint; rw [if_pos h]
theorem stk_raw (l : List UInt8) (p : Nat) (er : Int) (h : er ≠ 0) (k : Int) : rdRaw ⟨l, p, er⟩ k = (⟨l, p, er⟩, []) := by unfold rdRaw; rw [if_pos h]
theorem stk_blob (l : List UInt8) (p : Nat) (er : Int) (h : er ≠ 0) (k : Int) : rdBlob ⟨l, p, er⟩ k = (⟨l, p, er⟩, []) := by unfold rdBlob; rw [if_pos h]
theorem err_raw_long (l : List UInt8) (k : Int) (h : k = (l.length : Int) + 1) : rdRaw ⟨l, 0, 0⟩ k = (⟨l, 0, 2⟩, []) := by unfold rdRaw; rw [if_neg (by simp), if_neg (by omega), if_pos (by simp only [Nat.sub_zero]; omega)]
theorem err_raw_neg (l : List UInt8) : rdRaw ⟨l, 0, 0⟩ (-1) = (⟨l, 0, 1⟩, []) := by unfold rdRaw; rw [if_neg (by simp), if_pos (by omega)]
theorem err_uint9 (l : List UInt8) : rdUint ⟨l, 0, 0⟩ 9 = (⟨l, 0, 1⟩, 0) := by unfold rdUint; rw [if_neg (by simp), if_pos (by omega)]
theorem err_blob (l : List UInt8) : rdBlob ⟨0 :: 9 :: l, 0, 0⟩ 8 = (⟨0 :: 9 :: l, 0, 4⟩, []) := by
  unfold rdBlob; rw [if_neg (by simp), if_neg (by simp), if_pos (by simp [beV])]
theorem OB.lit2 {base : Nat} (w : World) (t : TypeId) (x y : UInt8) (a b : Int) (ha : a = (x.toNat : Int)) (hb : b = (y.toNat : Int)) (h : base ≤ w.heap.size) : OB (w.alloc (.cells #[.int .u8 a, .int .u8 b] t)) base t (some ⟨w.heap.size, 0, none⟩) 2 2 [x, y] := by
  subst ha hb
  have h := World.ownsRow_lit (e := t) (size := 1) (base := base) w #[.int .u8 (x.toNat : Int), .int .u8 (y.toNat : Int)] 2 h (by simp [maxLen]) (by simp)
  simpa [OB, u8s] using h
set_option maxHeartbeats 1000000 in
theorem wireSticky_walk {P P2 : Nat → Prop} (w : World) (A : Option Addr) (n c : Nat) (l : List UInt8) (ha : BV w P A n c l) (kd : UInt8) (K : Option Addr) (kn kc : Nat) (ks : List UInt8) (hk : BV w P2 K kn kc ks) :
    Calls Try.prog 8 #[.slice A n c, .int .u8 (kd.toNat : Int), .slice K kn kc] w fun e w' => e = .returned (.bool true) ∧ Ext w w' := by
  by_cases h4 : (n : Int) < 4
  · go_enter Try.func8, Try.ntmps8
    go_wp2_with (go_at_call 9; go_loud (refine (awake_calls w).mono ?_; rintro e w1 ⟨rfl, hE1⟩))
    go_ret
    exact ⟨rfl, hE1⟩
  by_cases h8 : (100 : Int) < n
  · go_enter Try.func8, Try.ntmps8
    go_wp2_with (go_at_call 9; go_loud (refine (awake_calls w).mono ?_; rintro e w1 ⟨rfl, hE1⟩))
    go_ret
    exact ⟨rfl, hE1⟩
  by_cases h60 : (10 : Int) < kn
  · go_enter Try.func8, Try.ntmps8
    go_wp2_with (go_at_call 9; go_loud (refine (awake_calls w).mono ?_; rintro e w1 ⟨rfl, hE1⟩))
    go_ret
    exact ⟨rfl, hE1⟩
  have hl := Lib.hid ha.len
  have hk0 := kd.toNat_lt
  generalize kd.toNat = q at *
  by_cases h0 : q % 4 = 0
  · have h0' : ((q : Int) % 4 == 0) = true := by simp; omega
    clear h0
    go_enter Try.func8, Try.ntmps8
    go_upto_region 11 with (first | (go_at_call 9; go_loud (refine (awake_calls w).mono ?_; rintro e w1 ⟨rfl, hE1⟩)) | (go_at_call 13; go_loud (refine (newP_rd _ A n c l (by refine BV.ext (by assumption) ?_; (with_reducible repeat (first | exact Ext.refl _ | refine Ext.alloc ?_ _ | refine Ext.drewN ?_ _ | refine Ext.trans ?_ (by assumption)))) (by omega)).mono ?_; rintro e w2 ⟨g, A2, n2, c2, rfl, hg2, hR2, hE2⟩)))
    go_upto_region 19 with (go_at_call 26; go_loud (refine (rRaw_calls w2 g A2 n2 c2 l 0 0 _ hR2).mono ?_; rintro e w4 ⟨S4, m4, k4, x4, r4, rfl, H4, hR4, hO4, hF4⟩; obtain ⟨rfl, rfl⟩ : x4 = [] ∧ r4 = ⟨l, 0, 2⟩ := (by have := H4.out; rwa [err_raw_long _ _ (by have := hl.out; omega)] at this)))
    have hgw : w.heap.size ≤ g := by have := hE1.size; omega
    have hE4 := Ext.past (hE1.trans hE2) hF4 hgw
    have hn2 := Lib.hid hR4.2.1.len
    clear hR2 hE1 hE2 hF4
    go_wp2_with (go_at_call 21; go_loud (refine (rLeft_calls w4 g A2 n2 c2 (l) 0 2 hR4).mono ?_; rintro e w5 ⟨rfl, q5, rfl⟩))
    obtain ⟨LL, hLL⟩ : ∃ z : Int, z = ((l).length : Int) := ⟨_, rfl⟩
    have hleft : rdLeft ⟨l, 0, 2⟩ = LL := by rw [hLL]; simp [rdLeft]
    rw [hleft]
    have HLL := Lib.hid hLL
    have HLE := Lib.hid hleft
    clear hleft hLL
    have hR5 := hR4.fr (Ext.drewN (Ext.refl _) q5)
    have hE5 := Ext.drewN hE4 q5
    clear hR4 hE4
    generalize w4.drewN q5 = w5 at *
    go_loopw [10] (fun i wr => ∃ j : Nat, j ≤ kn ∧ i = .int .i64 j ∧ RD 50 wr g A2 n2 c2 ⟨l, 0, 2⟩ ∧ Ext w wr) (fun i _ => kn - (intOf i).toNat)
    case atStart => exact ⟨0, Nat.zero_le _, rfl, hR5, hE5⟩
    case round =>
      obtain ⟨j, hj, rfl, hR, hEw⟩ := hrel
      clear hR5 hE5
      by_cases hlt : j < kn
      · obtain ⟨bk, ok, kd, rfl, hkx, hkb, hcell0⟩ := hk.at' hlt
        go_upto_region 23 with fail
        go_wp2_with (first | (go_at_call 15; go_loud (refine (rUint_calls wr g A2 n2 c2 (l) 0 2 _ hR).mono ?_; rintro e w6 ⟨v6, r6, rfl, H6, hR6, hF6⟩; obtain ⟨rfl, rfl⟩ : v6 = 0 ∧ r6 = ⟨l, 0, 2⟩ := (by have := H6.out; rwa [stk_uint _ _ _ (by decide)] at this); have hE6 := Ext.past hEw hF6 hgw; have hcell6 : w6.cell? _ = _ := (hE6.cells.1 _ _ hkb).trans hcell0)) | (go_at_call 26; go_loud (refine (rRaw_calls w6 g A2 n2 c2 (l) 0 2 _ hR6).mono ?_; rintro e w7 ⟨S7, m7, k7, x7, r7, rfl, H7, hR7, hO7, hF7⟩; obtain ⟨rfl, rfl⟩ : x7 = [] ∧ r7 = ⟨l, 0, 2⟩ := (by have := H7.out; rwa [stk_raw _ _ _ (by decide)] at this); obtain rfl : m7 = 0 := (by have := hO7.len; simpa using this.symm); have hE7 := Ext.past hE6 hF7 hgw)) | (go_at_call 20; go_loud (refine (rBlob_calls w7 g A2 n2 c2 (l) 0 2 _ hR7).mono ?_; rintro e w8 ⟨S8, m8, k8, x8, r8, rfl, H8, hR8, hO8, hF8⟩; obtain ⟨rfl, rfl⟩ : x8 = [] ∧ r8 = ⟨l, 0, 2⟩ := (by have := H8.out; rwa [stk_blob _ _ _ (by decide)] at this); obtain rfl : m8 = 0 := (by have := hO8.len; simpa using this.symm); have hE8 := Ext.past hE7 hF8 hgw)))
        go_roundw
        case rel => exact ⟨j + 1, by omega, by go_num, hR8, hE8⟩
        case measure => simp [intOf]; omega
      · have hend : rdEnd ⟨l, 0, 2⟩ = 2 := rfl
        have hleft := HLE.out
        have hL' : (n : Int) ≤ LL := by have := hl.out; rw [HLL.out]; simp; omega
        go_wp2_with (first | (go_at_call 21; go_loud (refine (rLeft_calls _ g A2 n2 c2 (l) 0 2 (hR.fr (by with_reducible repeat (first | exact Ext.refl _ | refine Ext.alloc ?_ _ | refine Ext.drewN ?_ _ | refine Ext.trans ?_ (by assumption))))).mono ?_; rintro e w5 ⟨he, q7, rfl⟩; rw [hleft] at he; subst he)) | (go_at_call 17; go_loud (refine (rErr_calls _ g A2 n2 c2 (l) 0 2 (hR.fr (by with_reducible repeat (first | exact Ext.refl _ | refine Ext.alloc ?_ _ | refine Ext.drewN ?_ _ | refine Ext.trans ?_ (by assumption))))).mono ?_; rintro e w6 ⟨rfl, rfl⟩)) | (go_at_call 22; go_loud (refine (rEnd_calls _ g A2 n2 c2 (l) 0 2 (hR.fr (by with_reducible repeat (first | exact Ext.refl _ | refine Ext.alloc ?_ _ | refine Ext.drewN ?_ _ | refine Ext.trans ?_ (by assumption))))).mono ?_; rintro e w3 ⟨he, q5, rfl⟩; rw [hend] at he; subst he)))
        go_ret
        exact ⟨rfl, (by with_reducible repeat (first | exact Ext.refl _ | refine Ext.alloc ?_ _ | refine Ext.drewN ?_ _ | refine Ext.trans ?_ (by assumption)))⟩
  by_cases h1 : q % 4 = 1
  · have h0' : ((q : Int) % 4 == 0) = false := by simp; omega
    have h1' : ((q : Int) % 4 == 1) = true := by simp; omega
    clear h0 h1
    go_enter Try.func8, Try.ntmps8
    go_upto_region 11 with (first | (go_at_call 9; go_loud (refine (awake_calls w).mono ?_; rintro e w1 ⟨rfl, hE1⟩)) | (go_at_call 13; go_loud (refine (newP_rd _ A n c l (by refine BV.ext (by assumption) ?_; (with_reducible repeat (first | exact Ext.refl _ | refine Ext.alloc ?_ _ | refine Ext.drewN ?_ _ | refine Ext.trans ?_ (by assumption)))) (by omega)).mono ?_; rintro e w2 ⟨g, A2, n2, c2, rfl, hg2, hR2, hE2⟩)))
    go_upto_region 19 with (go_at_call 26; go_loud (refine (rRaw_calls w2 g A2 n2 c2 l 0 0 _ hR2).mono ?_; rintro e w4 ⟨S4, m4, k4, x4, r4, rfl, H4, hR4, hO4, hF4⟩; obtain ⟨rfl, rfl⟩ : x4 = [] ∧ r4 = ⟨l, 0, 1⟩ := (by have := H4.out; rwa [err_raw_neg] at this)))
    have hgw : w.heap.size ≤ g := by have := hE1.size; omega
    have hE4 := Ext.past (hE1.trans hE2) hF4 hgw
    have hn2 := Lib.hid hR4.2.1.len
    clear hR2 hE1 hE2 hF4
    go_wp2_with (go_at_call 21; go_loud (refine (rLeft_calls w4 g A2 n2 c2 (l) 0 1 hR4).mono ?_; rintro e w5 ⟨rfl, q5, rfl⟩))
    obtain ⟨LL, hLL⟩ : ∃ z : Int, z = ((l).length : Int) := ⟨_, rfl⟩
    have hleft : rdLeft ⟨l, 0, 1⟩ = LL := by rw [hLL]; simp [rdLeft]
    rw [hleft]
    have HLL := Lib.hid hLL
    have HLE := Lib.hid hleft
    clear hleft hLL
    have hR5 := hR4.fr (Ext.drewN (Ext.refl _) q5)
    have hE5 := Ext.drewN hE4 q5
    clear hR4 hE4
    generalize w4.drewN q5 = w5 at *
    go_loopw [10] (fun i wr => ∃ j : Nat, j ≤ kn ∧ i = .int .i64 j ∧ RD 50 wr g A2 n2 c2 ⟨l, 0, 1⟩ ∧ Ext w wr) (fun i _ => kn - (intOf i).toNat)
    case atStart => exact ⟨0, Nat.zero_le _, rfl, hR5, hE5⟩
    case round =>
      obtain ⟨j, hj, rfl, hR, hEw⟩ := hrel
      clear hR5 hE5
      by_cases hlt : j < kn
      · obtain ⟨bk, ok, kd, rfl, hkx, hkb, hcell0⟩ := hk.at' hlt
        go_upto_region 23 with fail
        go_wp2_with (first | (go_at_call 15; go_loud (refine (rUint_calls wr g A2 n2 c2 (l) 0 1 _ hR).mono ?_; rintro e w6 ⟨v6, r6, rfl, H6, hR6, hF6⟩; obtain ⟨rfl, rfl⟩ : v6 = 0 ∧ r6 = ⟨l, 0, 1⟩ := (by have := H6.out; rwa [stk_uint _ _ _ (by decide)] at this); have hE6 := Ext.past hEw hF6 hgw; have hcell6 : w6.cell? _ = _ := (hE6.cells.1 _ _ hkb).trans hcell0)) | (go_at_call 26; go_loud (refine (rRaw_calls w6 g A2 n2 c2 (l) 0 1 _ hR6).mono ?_; rintro e w7 ⟨S7, m7, k7, x7, r7, rfl, H7, hR7, hO7, hF7⟩; obtain ⟨rfl, rfl⟩ : x7 = [] ∧ r7 = ⟨l, 0, 1⟩ := (by have := H7.out; rwa [stk_raw _ _ _ (by decide)] at this); obtain rfl : m7 = 0 := (by have := hO7.len; simpa using this.symm); have hE7 := Ext.past hE6 hF7 hgw)) | (go_at_call 20; go_loud (refine (rBlob_calls w7 g A2 n2 c2 (l) 0 1 _ hR7).mono ?_; rintro e w8 ⟨S8, m8, k8, x8, r8, rfl, H8, hR8, hO8, hF8⟩; obtain ⟨rfl, rfl⟩ : x8 = [] ∧ r8 = ⟨l, 0, 1⟩ := (by have := H8.out; rwa [stk_blob _ _ _ (by decide)] at this); obtain rfl : m8 = 0 := (by have := hO8.len; simpa using this.symm); have hE8 := Ext.past hE7 hF8 hgw)))
        go_roundw
        case rel => exact ⟨j + 1, by omega, by go_num, hR8, hE8⟩
        case measure => simp [intOf]; omega
      · have hend : rdEnd ⟨l, 0, 1⟩ = 1 := rfl
        have hleft := HLE.out
        have hL' : (n : Int) ≤ LL := by have := hl.out; rw [HLL.out]; simp; omega
        go_wp2_with (first | (go_at_call 21; go_loud (refine (rLeft_calls _ g A2 n2 c2 (l) 0 1 (hR.fr (by with_reducible repeat (first | exact Ext.refl _ | refine Ext.alloc ?_ _ | refine Ext.drewN ?_ _ | refine Ext.trans ?_ (by assumption))))).mono ?_; rintro e w5 ⟨he, q7, rfl⟩; rw [hleft] at he; subst he)) | (go_at_call 17; go_loud (refine (rErr_calls _ g A2 n2 c2 (l) 0 1 (hR.fr (by with_reducible repeat (first | exact Ext.refl _ | refine Ext.alloc ?_ _ | refine Ext.drewN ?_ _ | refine Ext.trans ?_ (by assumption))))).mono ?_; rintro e w6 ⟨rfl, rfl⟩)) | (go_at_call 22; go_loud (refine (rEnd_calls _ g A2 n2 c2 (l) 0 1 (hR.fr (by with_reducible repeat (first | exact Ext.refl _ | refine Ext.alloc ?_ _ | refine Ext.drewN ?_ _ | refine Ext.trans ?_ (by assumption))))).mono ?_; rintro e w3 ⟨he, q5, rfl⟩; rw [hend] at he; subst he)))
        go_ret
        exact ⟨rfl, (by with_reducible repeat (first | exact Ext.refl _ | refine Ext.alloc ?_ _ | refine Ext.drewN ?_ _ | refine Ext.trans ?_ (by assumption)))⟩
  by_cases h2 : q % 4 = 2
  · have h0' : ((q : Int) % 4 == 0) = false := by simp; omega
    have h1' : ((q : Int) % 4 == 1) = false := by simp; omega
    have h2' : ((q : Int) % 4 == 2) = true := by simp; omega
    clear h0 h1 h2
    go_enter Try.func8, Try.ntmps8
    go_upto_region 11 with (first | (go_at_call 9; go_loud (refine (awake_calls w).mono ?_; rintro e w1 ⟨rfl, hE1⟩)) | (go_at_call 13; go_loud (refine (newP_rd _ A n c l (by refine BV.ext (by assumption) ?_; (with_reducible repeat (first | exact Ext.refl _ | refine Ext.alloc ?_ _ | refine Ext.drewN ?_ _ | refine Ext.trans ?_ (by assumption)))) (by omega)).mono ?_; rintro e w2 ⟨g, A2, n2, c2, rfl, hg2, hR2, hE2⟩)))
    go_upto_region 19 with (go_at_call 15; go_loud (refine (rUint_calls w2 g A2 n2 c2 l 0 0 _ hR2).mono ?_; rintro e w4 ⟨v4, r4, rfl, H4, hR4, hF4⟩; obtain ⟨rfl, rfl⟩ : v4 = 0 ∧ r4 = ⟨l, 0, 1⟩ := (by have := H4.out; rwa [err_uint9] at this)))
    have hgw : w.heap.size ≤ g := by have := hE1.size; omega
    have hE4 := Ext.past (hE1.trans hE2) hF4 hgw
    have hn2 := Lib.hid hR4.2.1.len
    clear hR2 hE1 hE2 hF4
    go_wp2_with (go_at_call 21; go_loud (refine (rLeft_calls w4 g A2 n2 c2 (l) 0 1 hR4).mono ?_; rintro e w5 ⟨rfl, q5, rfl⟩))
    obtain ⟨LL, hLL⟩ : ∃ z : Int, z = ((l).length : Int) := ⟨_, rfl⟩
    have hleft : rdLeft ⟨l, 0, 1⟩ = LL := by rw [hLL]; simp [rdLeft]
    rw [hleft]
    have HLL := Lib.hid hLL
    have HLE := Lib.hid hleft
    clear hleft hLL
    have hR5 := hR4.fr (Ext.drewN (Ext.refl _) q5)
    have hE5 := Ext.drewN hE4 q5
    clear hR4 hE4
    generalize w4.drewN q5 = w5 at *
    go_loopw [10] (fun i wr => ∃ j : Nat, j ≤ kn ∧ i = .int .i64 j ∧ RD 50 wr g A2 n2 c2 ⟨l, 0, 1⟩ ∧ Ext w wr) (fun i _ => kn - (intOf i).toNat)
    case atStart => exact ⟨0, Nat.zero_le _, rfl, hR5, hE5⟩
    case round =>
      obtain ⟨j, hj, rfl, hR, hEw⟩ := hrel
      clear hR5 hE5
      by_cases hlt : j < kn
      · obtain ⟨bk, ok, kd, rfl, hkx, hkb, hcell0⟩ := hk.at' hlt
        go_upto_region 23 with fail
        go_wp2_with (first | (go_at_call 15; go_loud (refine (rUint_calls wr g A2 n2 c2 (l) 0 1 _ hR).mono ?_; rintro e w6 ⟨v6, r6, rfl, H6, hR6, hF6⟩; obtain ⟨rfl, rfl⟩ : v6 = 0 ∧ r6 = ⟨l, 0, 1⟩ := (by have := H6.out; rwa [stk_uint _ _ _ (by decide)] at this); have hE6 := Ext.past hEw hF6 hgw; have hcell6 : w6.cell? _ = _ := (hE6.cells.1 _ _ hkb).trans hcell0)) | (go_at_call 26; go_loud (refine (rRaw_calls w6 g A2 n2 c2 (l) 0 1 _ hR6).mono ?_; rintro e w7 ⟨S7, m7, k7, x7, r7, rfl, H7, hR7, hO7, hF7⟩; obtain ⟨rfl, rfl⟩ : x7 = [] ∧ r7 = ⟨l, 0, 1⟩ := (by have := H7.out; rwa [stk_raw _ _ _ (by decide)] at this); obtain rfl : m7 = 0 := (by have := hO7.len; simpa using this.symm); have hE7 := Ext.past hE6 hF7 hgw)) | (go_at_call 20; go_loud (refine (rBlob_calls w7 g A2 n2 c2 (l) 0 1 _ hR7).mono ?_; rintro e w8 ⟨S8, m8, k8, x8, r8, rfl, H8, hR8, hO8, hF8⟩; obtain ⟨rfl, rfl⟩ : x8 = [] ∧ r8 = ⟨l, 0, 1⟩ := (by have := H8.out; rwa [stk_blob _ _ _ (by decide)] at this); obtain rfl : m8 = 0 := (by have := hO8.len; simpa using this.symm); have hE8 := Ext.past hE7 hF8 hgw)))
        go_roundw
        case rel => exact ⟨j + 1, by omega, by go_num, hR8, hE8⟩
        case measure => simp [intOf]; omega
      · have hend : rdEnd ⟨l, 0, 1⟩ = 1 := rfl
        have hleft := HLE.out
        have hL' : (n : Int) ≤ LL := by have := hl.out; rw [HLL.out]; simp; omega
        go_wp2_with (first | (go_at_call 21; go_loud (refine (rLeft_calls _ g A2 n2 c2 (l) 0 1 (hR.fr (by with_reducible repeat (first | exact Ext.refl _ | refine Ext.alloc ?_ _ | refine Ext.drewN ?_ _ | refine Ext.trans ?_ (by assumption))))).mono ?_; rintro e w5 ⟨he, q7, rfl⟩; rw [hleft] at he; subst he)) | (go_at_call 17; go_loud (refine (rErr_calls _ g A2 n2 c2 (l) 0 1 (hR.fr (by with_reducible repeat (first | exact Ext.refl _ | refine Ext.alloc ?_ _ | refine Ext.drewN ?_ _ | refine Ext.trans ?_ (by assumption))))).mono ?_; rintro e w6 ⟨rfl, rfl⟩)) | (go_at_call 22; go_loud (refine (rEnd_calls _ g A2 n2 c2 (l) 0 1 (hR.fr (by with_reducible repeat (first | exact Ext.refl _ | refine Ext.alloc ?_ _ | refine Ext.drewN ?_ _ | refine Ext.trans ?_ (by assumption))))).mono ?_; rintro e w3 ⟨he, q5, rfl⟩; rw [hend] at he; subst he)))
        go_ret
        exact ⟨rfl, (by with_reducible repeat (first | exact Ext.refl _ | refine Ext.alloc ?_ _ | refine Ext.drewN ?_ _ | refine Ext.trans ?_ (by assumption)))⟩
  · have h0' : ((q : Int) % 4 == 0) = false := by simp; omega
    have h1' : ((q : Int) % 4 == 1) = false := by simp; omega
    have h2' : ((q : Int) % 4 == 2) = false := by simp; omega
    clear h0 h1 h2
    go_enter Try.func8, Try.ntmps8
    go_upto_region 11 with (first | (go_at_call 9; go_loud (refine (awake_calls w).mono ?_; rintro e w1 ⟨rfl, hE1⟩)) | (go_at_call 13; go_loud (refine (newP_rd _ A n c l (by refine BV.ext (by assumption) ?_; (with_reducible repeat (first | exact Ext.refl _ | refine Ext.alloc ?_ _ | refine Ext.drewN ?_ _ | refine Ext.trans ?_ (by assumption)))) (by omega)).mono ?_; rintro e w2 ⟨g, A2, n2, c2, rfl, hg2, hR2, hE2⟩)))
    clear hR2
    go_upto_region 8 with fail
    go_upto_region 19 with (first | (at_builtin; go_loud (refine wpList_appO rfl _ _ _ rfl _ infoB Try.underlying22 w2.heap.size _ _ _ [0, 9] rfl (OB.lit2 w2 _ 0 9 _ _ rfl rfl (Nat.le_refl _)) A n c l rfl (by refine BV.ext (by assumption) ?_; (with_reducible repeat (first | exact Ext.refl _ | refine Ext.alloc ?_ _ | refine Ext.drewN ?_ _ | refine Ext.trans ?_ (by assumption)))) (by omega) (by simp) ?_; intro S5 k5 w5 hO5 hB5)) | (go_at_call 13; go_loud (refine (newP_rd _ S5 (2 + n) k5 (0 :: 9 :: l) (OB.bv (P := fun _ => True) hO5 (fun _ _ => trivial)) (by omega)).mono ?_; rintro e w3 ⟨g', A3, n3, c3, rfl, hg3, hR3, hE3⟩)) | (go_at_call 20; go_loud (refine (rBlob_calls w3 g' A3 n3 c3 (0 :: 9 :: l) 0 0 _ hR3).mono ?_; rintro e w4 ⟨S8, m8, k8, x8, r8, rfl, H8, hR4, hO8, hF4⟩; obtain ⟨rfl, rfl⟩ : x8 = [] ∧ r8 = ⟨0 :: 9 :: l, 0, 4⟩ := (by have := H8.out; rwa [err_blob] at this))))
    have hE5 : Ext w2 w5 := Ext.step ((Ext.refl _).alloc _) hB5 (Nat.le_refl _)
    have hgw : w.heap.size ≤ g' := by have := hE1.size; have := hE2.size; have := hE5.size; omega
    have hE4 := Ext.past (hE1.trans (hE2.trans (hE5.trans hE3))) hF4 hgw
    clear hE5 hB5 hO5 hE3
    have hR2 := hR3
    have hE2 := hE2
    clear hR3
    have hn2 := Lib.hid hR4.2.1.len
    clear hR2 hE1 hE2 hF4
    go_wp2_with (go_at_call 21; go_loud (refine (rLeft_calls w4 g' A3 n3 c3 (0 :: 9 :: l) 0 4 hR4).mono ?_; rintro e w5 ⟨rfl, q5, rfl⟩))
    obtain ⟨LL, hLL⟩ : ∃ z : Int, z = ((0 :: 9 :: l).length : Int) := ⟨_, rfl⟩
    have hleft : rdLeft ⟨0 :: 9 :: l, 0, 4⟩ = LL := by rw [hLL]; simp [rdLeft]
    rw [hleft]
    have HLL := Lib.hid hLL
    have HLE := Lib.hid hleft
    clear hleft hLL
    have hR5 := hR4.fr (Ext.drewN (Ext.refl _) q5)
    have hE5 := Ext.drewN hE4 q5
    clear hR4 hE4
    generalize w4.drewN q5 = w5 at *
    go_loopw [10] (fun i wr => ∃ j : Nat, j ≤ kn ∧ i = .int .i64 j ∧ RD 50 wr g' A3 n3 c3 ⟨0 :: 9 :: l, 0, 4⟩ ∧ Ext w wr) (fun i _ => kn - (intOf i).toNat)
    case atStart => exact ⟨0, Nat.zero_le _, rfl, hR5, hE5⟩
    case round =>
      obtain ⟨j, hj, rfl, hR, hEw⟩ := hrel
      clear hR5 hE5
      by_cases hlt : j < kn
      · obtain ⟨bk, ok, kd, rfl, hkx, hkb, hcell0⟩ := hk.at' hlt
        go_upto_region 23 with fail
        go_wp2_with (first | (go_at_call 15; go_loud (refine (rUint_calls wr g' A3 n3 c3 (0 :: 9 :: l) 0 4 _ hR).mono ?_; rintro e w6 ⟨v6, r6, rfl, H6, hR6, hF6⟩; obtain ⟨rfl, rfl⟩ : v6 = 0 ∧ r6 = ⟨0 :: 9 :: l, 0, 4⟩ := (by have := H6.out; rwa [stk_uint _ _ _ (by decide)] at this); have hE6 := Ext.past hEw hF6 hgw; have hcell6 : w6.cell? _ = _ := (hE6.cells.1 _ _ hkb).trans hcell0)) | (go_at_call 26; go_loud (refine (rRaw_calls w6 g' A3 n3 c3 (0 :: 9 :: l) 0 4 _ hR6).mono ?_; rintro e w7 ⟨S7, m7, k7, x7, r7, rfl, H7, hR7, hO7, hF7⟩; obtain ⟨rfl, rfl⟩ : x7 = [] ∧ r7 = ⟨0 :: 9 :: l, 0, 4⟩ := (by have := H7.out; rwa [stk_raw _ _ _ (by decide)] at this); obtain rfl : m7 = 0 := (by have := hO7.len; simpa using this.symm); have hE7 := Ext.past hE6 hF7 hgw)) | (go_at_call 20; go_loud (refine (rBlob_calls w7 g' A3 n3 c3 (0 :: 9 :: l) 0 4 _ hR7).mono ?_; rintro e w8 ⟨S8, m8, k8, x8, r8, rfl, H8, hR8, hO8, hF8⟩; obtain ⟨rfl, rfl⟩ : x8 = [] ∧ r8 = ⟨0 :: 9 :: l, 0, 4⟩ := (by have := H8.out; rwa [stk_blob _ _ _ (by decide)] at this); obtain rfl : m8 = 0 := (by have := hO8.len; simpa using this.symm); have hE8 := Ext.past hE7 hF8 hgw)))
        go_roundw
        case rel => exact ⟨j + 1, by omega, by go_num, hR8, hE8⟩
        case measure => simp [intOf]; omega
      · have hend : rdEnd ⟨0 :: 9 :: l, 0, 4⟩ = 4 := rfl
        have hleft := HLE.out
        have hL' : (n : Int) ≤ LL := by have := hl.out; rw [HLL.out]; simp; omega
        go_wp2_with (first | (go_at_call 21; go_loud (refine (rLeft_calls _ g' A3 n3 c3 (0 :: 9 :: l) 0 4 (hR.fr (by with_reducible repeat (first | exact Ext.refl _ | refine Ext.alloc ?_ _ | refine Ext.drewN ?_ _ | refine Ext.trans ?_ (by assumption))))).mono ?_; rintro e w5 ⟨he, q7, rfl⟩; rw [hleft] at he; subst he)) | (go_at_call 17; go_loud (refine (rErr_calls _ g' A3 n3 c3 (0 :: 9 :: l) 0 4 (hR.fr (by with_reducible repeat (first | exact Ext.refl _ | refine Ext.alloc ?_ _ | refine Ext.drewN ?_ _ | refine Ext.trans ?_ (by assumption))))).mono ?_; rintro e w6 ⟨rfl, rfl⟩)) | (go_at_call 22; go_loud (refine (rEnd_calls _ g' A3 n3 c3 (0 :: 9 :: l) 0 4 (hR.fr (by with_reducible repeat (first | exact Ext.refl _ | refine Ext.alloc ?_ _ | refine Ext.drewN ?_ _ | refine Ext.trans ?_ (by assumption))))).mono ?_; rintro e w3 ⟨he, q5, rfl⟩; rw [hend] at he; subst he)))
        go_ret
        exact ⟨rfl, (by with_reducible repeat (first | exact Ext.refl _ | refine Ext.alloc ?_ _ | refine Ext.drewN ?_ _ | refine Ext.trans ?_ (by assumption)))⟩
end Go.Proofs.Ytbdiodibeiohlaa
