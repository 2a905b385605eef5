/- IndexNew: the walk. -/
import Derived.Test.YtdekjkcnfebfnaaIdxA
import Derived.Test.YtdekjkcnfebfnaaIdxN2
namespace Go.Proofs.Ytdekjkcnfebfnaa
set_option linter.all false
open Go.RowKit
set_option maxRecDepth 20000 in
set_option maxHeartbeats 4000000 in
theorem indexNew_walk {P1 P2 : Nat → Prop} (w : World) (n kind attr size : Int) (A : Option Addr) (an ac : Nat) (auth : List UInt8) (ha : BV w P1 A an ac auth) (B : Option Addr) (pn pc : Nat) (pol : List UInt8) (hp : BV w P2 B pn pc pol) (how : UInt8) :
    Calls Try.prog 3 #[.int .i64 n, .int .i64 kind, .int .i64 attr, .int .i64 size, .slice A an ac, .slice B pn pc, .int .u8 (how.toNat : Int)] w fun e w' => e = .returned (.bool true) ∧ Ext w w' := by
  by_cases h8 : (60 : Int) < an
  · go_enter Try.func3, Try.ntmps3
    go_wp2_with (go_at_call 9; go_loud (refine (awake_calls w).mono ?_; rintro e w1 ⟨rfl, hE1⟩))
    go_ret
    exact ⟨rfl, hE1⟩
  by_cases h60 : (60 : Int) < pn
  · go_enter Try.func3, Try.ntmps3
    go_wp2_with (go_at_call 9; go_loud (refine (awake_calls w).mono ?_; rintro e w1 ⟨rfl, hE1⟩))
    go_ret
    exact ⟨rfl, hE1⟩
  go_enter Try.func3, Try.ntmps3
  go_upto_if 31 with (go_at_call 9; go_loud (refine (awake_calls w).mono ?_; rintro e w1 ⟨rfl, hEc⟩))
  go_cut [1] (fun s wx => ∃ k : Int, s = .int .i64 k ∧ Ext w wx)
  case first =>
    go_wp2_with (go_at_call 10; go_loud (refine (mod_calls _ _ 4 (by omega) (by omega)).mono ?_; rintro e w3 ⟨rfl, rfl⟩))
    all_goals (go_meet; exact ⟨_, rfl, hEc⟩)
  case rest =>
  clear hEc
  obtain ⟨k1, rfl, hEc⟩ := hcut
  go_upto_if 37 with fail
  go_cut [0] (fun s wx => ∃ k : Int, s = .int .i64 k ∧ Ext w wx)
  case first =>
    go_wp2_with (go_at_call 10; go_loud (refine (mod_calls _ _ 256 (by omega) (by omega)).mono ?_; rintro e w3 ⟨rfl, rfl⟩))
    all_goals (go_meet; exact ⟨_, rfl, hEc⟩)
  case rest =>
  clear hEc
  obtain ⟨k0, rfl, hEc⟩ := hcut
  go_upto_if 42 with fail
  go_cut [2] (fun s wx => ∃ k : Int, s = .int .i64 k ∧ Ext w wx)
  case first =>
    go_wp2_with (go_at_call 10; go_loud (refine (mod_calls _ _ 128 (by omega) (by omega)).mono ?_; rintro e w3 ⟨rfl, rfl⟩))
    all_goals (go_meet; exact ⟨_, rfl, hEc⟩)
  case rest =>
  clear hEc
  obtain ⟨k2, rfl, hEc⟩ := hcut
  go_upto_if 47 with fail
  go_cut [3] (fun s wx => ∃ k : Int, s = .int .i64 k ∧ Ext w wx)
  case first =>
    have hq0 := Int.emod_nonneg (wrap64 (k1 - 1)) (show (4 : Int) ≠ 0 by omega)
    have hq4 := Int.emod_lt_of_pos (wrap64 (k1 - 1)) (show (0 : Int) < 4 by omega)
    generalize hq : wrap64 (k1 - 1) % 4 = q at *
    have HQ := Lib.hid hq
    clear hq
    obtain ⟨q', rfl⟩ := Int.eq_ofNat_of_zero_le hq0
    have hq3 : q' = 0 ∨ q' = 1 ∨ q' = 2 ∨ q' = 3 := by omega
    rcases hq3 with rfl | rfl | rfl | rfl
    all_goals
      go_wp2_with (go_at_call 10; go_loud (refine (mod_calls _ _ _ (by omega) (by omega)).mono ?_; rintro e w3 ⟨he, rfl⟩; (try rw [HQ.out] at he); subst he))
      all_goals (go_meet; exact ⟨_, rfl, (by with_reducible repeat (first | exact Ext.refl _ | refine Ext.alloc ?_ _ | refine Ext.drewN ?_ _ | refine Ext.trans ?_ (by assumption)))⟩)
  case rest =>
  clear hEc
  obtain ⟨k3, rfl, hEc⟩ := hcut
  go_upto_if 59 with fail
  go_cut [5] (fun s wx => ∃ (B : Option Addr) (pn pc : Nat) (pol : List UInt8), s = .slice B pn pc ∧ BV wx (fun _ => True) B pn pc pol ∧ Ext w wx)
  case first =>
    go_wp2_with (go_at_call 11; go_loud (refine (seed_calls _ B pn pc pol (by refine BV.ext (by assumption) ?_; (with_reducible repeat (first | exact Ext.refl _ | refine Ext.alloc ?_ _ | refine Ext.drewN ?_ _ | refine Ext.trans ?_ (by assumption))))).mono ?_; rintro e w3 ⟨g3, rfl, hg3, hM3, hE3⟩))
    · go_meet
      exact ⟨_, _, _, _, rfl, hM3.bv (P := fun _ => True) trivial (seedS_len _) (Nat.le_refl _) (by omega), (by with_reducible repeat (first | exact Ext.refl _ | refine Ext.alloc ?_ _ | refine Ext.drewN ?_ _ | refine Ext.trans ?_ (by assumption)))⟩
    · go_meet
      exact ⟨_, _, _, pol, rfl, (hp.ext hEc).mono (fun _ _ => trivial), hEc⟩
  case rest =>
  clear hEc hp h60
  obtain ⟨B, pn, pc, pol, rfl, hp, hEc⟩ := hcut
  rename_i wc
  go_wp2_with fail
  go_loud (refine (newP_calls _ k0 k1 k2 k3 A an ac auth (ha.ext hEc) B pn pc pol hp).mono ?_)
  rintro e w3 ⟨x3, e3, pA3, pn3, pc3, aA3, an3, ac3, dA3, dn3, dc3, rfl, H3, hI3, hE3⟩
  go_upto_region 16 with fail
  refine wp_forget (fun w9 => Blk w9 w3.heap.size 28 #[.int .i64 x3.n, .int .i64 x3.kind, .int .i64 x3.attr, .int .i64 x3.size, .slice pA3 pn3 pc3, .slice aA3 an3 ac3, .bool x3.wr, .slice dA3 dn3 dc3] ∧ Ext w3 w9) ⟨Blk.new _ _ _, (by with_reducible repeat (first | exact Ext.refl _ | refine Ext.alloc ?_ _ | refine Ext.drewN ?_ _ | refine Ext.trans ?_ (by assumption)))⟩ ?_
  rintro w9 ⟨hk9, hE9⟩
  go_wp2_with fail
  go_loud (refine (newR_calls w9 k0 k1 k2 k3 A an ac auth (by refine BV.ext (by assumption) ?_; (with_reducible repeat (first | exact Ext.refl _ | refine Ext.alloc ?_ _ | refine Ext.drewN ?_ _ | refine Ext.trans ?_ (by assumption)))) B pn pc pol (by refine BV.ext (by assumption) ?_; (with_reducible repeat (first | exact Ext.refl _ | refine Ext.alloc ?_ _ | refine Ext.drewN ?_ _ | refine Ext.trans ?_ (by assumption))))).mono ?_)
  rintro e w4 ⟨x4, e4, pA4, pn4, pc4, aA4, an4, ac4, dA4, dn4, dc4, rfl, H4, hI4, hE4⟩
  obtain rfl : e4 = e3 := H4.out.2.trans H3.out.2.symm
  have hxx := Lib.hid (H4.out.1.trans H3.out.1.symm)
  clear H3 H4
  go_upto_region 17 with fail
  refine wp_forget (fun w8 => Blk w8 w4.heap.size 28 #[.int .i64 x4.n, .int .i64 x4.kind, .int .i64 x4.attr, .int .i64 x4.size, .slice pA4 pn4 pc4, .slice aA4 an4 ac4, .bool x4.wr, .slice dA4 dn4 dc4] ∧ Ext w4 w8) ⟨Blk.new _ _ _, (by with_reducible repeat (first | exact Ext.refl _ | refine Ext.alloc ?_ _ | refine Ext.drewN ?_ _ | refine Ext.trans ?_ (by assumption)))⟩ ?_
  rintro w8 ⟨hk8, hE8⟩
  go_wp2_with (first | ((with_reducible (show wpList _ _ _ (⟨_, Op.load _ _, _, _, _, _⟩ :: _) _ _)); refine wpList_ldB rfl _ _ rfl _ rfl (by refine Blk.ext (by assumption) ?_; (with_reducible repeat (first | exact Ext.refl _ | refine Ext.alloc ?_ _ | refine Ext.drewN ?_ _ | refine Ext.trans ?_ (by assumption)))) (by kernel_rfl) (by kernel_rfl) ?_) | (go_at_call 14; go_loud (refine (sameI_eq w8 x3 x4 hxx.out.symm pA3 pn3 pc3 aA3 an3 ac3 dA3 dn3 dc3 (hI3.ext (by with_reducible repeat (first | exact Ext.refl _ | refine Ext.alloc ?_ _ | refine Ext.drewN ?_ _ | refine Ext.trans ?_ (by assumption)))) pA4 pn4 pc4 aA4 an4 ac4 dA4 dn4 dc4 (hI4.ext (by with_reducible repeat (first | exact Ext.refl _ | refine Ext.alloc ?_ _ | refine Ext.drewN ?_ _ | refine Ext.trans ?_ (by assumption))))).mono ?_; rintro e w7 ⟨rfl, hE7⟩)))
  go_ret
  exact ⟨rfl, (by with_reducible repeat (first | exact Ext.refl _ | refine Ext.alloc ?_ _ | refine Ext.drewN ?_ _ | refine Ext.trans ?_ (by assumption)))⟩
end Go.Proofs.Ytdekjkcnfebfnaa
