/- WireReads: the walk. -/
import Derived.Test.YtbdiodibeiohlaaWireF
namespace Go.Proofs.Ytbdiodibeiohlaa
set_option linter.all false
open Go.RowKit
set_option maxHeartbeats 1000000 in
theorem wireReads_walk {P P2 P3 : Nat → Prop} (w : World) (A : Option Addr) (n c : Nat) (l : List UInt8) (ha : BV w P A n c l) (K : Option Addr) (kn kc : Nat) (ks : List UInt8) (hk : BV w P2 K kn kc ks) (Z : Option Addr) (zn zc : Nat) (zs : List Int) (hz : IV w P3 Z zn zc zs) :
    Calls Try.prog 7 #[.slice A n c, .slice K kn kc, .slice Z zn zc] w fun e w' => e = .returned (.bool true) ∧ Ext w w' := by
  by_cases h8 : (200 : Int) < n
  · go_enter Try.func7, Try.ntmps7
    go_wp2_with (go_at_call 9; go_loud (refine (awake_calls w).mono ?_; rintro e w1 ⟨rfl, hE1⟩))
    go_ret
    exact ⟨rfl, hE1⟩
  · by_cases h60 : (20 : Int) < kn
    · go_enter Try.func7, Try.ntmps7
      go_wp2_with (go_at_call 9; go_loud (refine (awake_calls w).mono ?_; rintro e w1 ⟨rfl, hE1⟩))
      go_ret
      exact ⟨rfl, hE1⟩
    · have hl := Lib.hid ha.len
      have hzl := hz.le
      go_enter Try.func7, Try.ntmps7
      go_upto_region 6 with (first | (go_at_call 9; go_loud (refine (awake_calls w).mono ?_; rintro e w1 ⟨rfl, hE1⟩)) | (go_at_call 13; go_loud (refine (newP_rd _ A n c l (by refine BV.ext (by assumption) ?_; (with_reducible repeat (first | exact Ext.refl _ | refine Ext.alloc ?_ _ | refine Ext.drewN ?_ _ | refine Ext.trans ?_ (by assumption)))) (by omega)).mono ?_; rintro e w2 ⟨g, A2, n2, c2, rfl, hg2, hR2, hE2⟩)) | (go_at_call 14; go_loud (refine (newR2 (P := fun k => k ≠ g) w2 A n c l ((ha.offs _ (fun k _ hk => by have := hE1.size; omega)).ext (hE1.trans hE2)) (by omega)).mono ?_; rintro e w3 ⟨g', rfl, hg3, hR3, hB3, hE3⟩)))
      have hT0 : TR w3 g g' A2 n2 c2 A n c ⟨l, 0, 0⟩ ⟨l, 0, 0⟩ := TR.new hR2 hE3 hg3 hR3 (hB3.offs _ (fun k hk _ => hk))
      have hE := hE1.trans (hE2.trans hE3)
      have hgw : w.heap.size ≤ g := by have := hE1.size; omega
      have hgw' : w.heap.size ≤ g' := by have := hE1.size; have := hE2.size; omega
      clear hE1 hE2 hE3 hR2 hR3 hB3
      go_wp2_with fail
      go_loopw [9] (fun i wr => ∃ (j : Nat) (y : Rd), j ≤ kn ∧ i = .int .i64 j ∧ TR wr g g' A2 n2 c2 A n c y y ∧ Ext w wr) (fun i _ => kn - (intOf i).toNat)
      case atStart => exact ⟨0, _, Nat.zero_le _, rfl, hT0, hE⟩
      case round =>
        obtain ⟨j, ⟨l, p, er⟩, hj, rfl, hT, hEw⟩ := hrel
        by_cases hlt : j < kn
        · obtain ⟨bk, ok, kd, rfl, hkx, hkb, hcell⟩ := (hk.ext hEw).at' hlt
          by_cases hjz : j < zn
          · obtain ⟨bz, oz, z, rfl, hzx, hzb, hzc⟩ := (hz.ext hEw).at' hjz
            go_upto_region 12 with fail
            refine wp_region_planG Quiet (.read 0 (.read 1 (.read 2 (.read 3 (.read 4 (.read 5 (.read 6 (.call true 7 (.read 8 (.read 9 (.read 10 (.read 12 (.call false 11 (.call true 13 (.read 14 (.read 15 (.read 16 (.read 17 (.read 19 (.read 20 (.read 21 (.read 22 (.call false 18 (.read 23 (.read 24 (.read 25 (.read 26 (.read 28 (.call false 27 .tail .none)))))) .none))))))))) .none) .none))))) .none)))))))) 29 (by kernel_rfl) (by kernel_rfl) (by kernel_rfl) Quiet.refl (fun _ _ _ => Quiet.trans) Quiet quiet_drew (fun wR hR => ?_)
            apply run_read rfl
            · intro w1 hS
              go_wp2
              exact rv_done rfl rfl
            try simp only [Act.put, List.setIfInBounds_toArray, List.set]
            apply run_read rfl
            · intro w1 hS
              go_wp2
              exact rv_done rfl rfl
            try simp only [Act.put, List.setIfInBounds_toArray, List.set]
            apply run_read rfl
            · intro w1 hS
              go_wp2
              exact rv_done rfl rfl
            try simp only [Act.put, List.setIfInBounds_toArray, List.set]
            apply run_read rfl
            · intro w1 hS
              go_wp2
              exact rv_done rfl rfl
            try simp only [Act.put, List.setIfInBounds_toArray, List.set]
            apply run_read rfl
            · intro w1 hS
              go_wp2
              exact rv_done rfl rfl
            try simp only [Act.put, List.setIfInBounds_toArray, List.set]
            apply run_read rfl
            · intro w1 hS
              have hSe := hS.ext
              have hcell2 : w1.cell? _ = _ := ((hR.ext.trans hSe).cells.1 _ _ hkb).trans hcell
              go_wp2_with (first | ((with_reducible (show wpList _ _ _ (⟨_, Op.load _ _, _, _, _, _⟩ :: _) _ _)); refine wpList_ldC rfl _ _ rfl _ rfl _ (by refine Eq.trans (Blk.cell (Blk.ext (by assumption) (by (with_reducible repeat (first | exact Ext.refl _ | refine Ext.alloc ?_ _ | refine Ext.drewN ?_ _ | refine Ext.trans ?_ (by assumption))))) _) ?_; rfl) (by kernel_rfl) ?_) | ((with_reducible (show wpList _ _ _ (⟨_, Op.load _ _, _, _, _, _⟩ :: _) _ _)); refine wpList_ldB rfl _ _ rfl _ rfl (by refine Blk.ext (by assumption) ?_; (with_reducible repeat (first | exact Ext.refl _ | refine Ext.alloc ?_ _ | refine Ext.drewN ?_ _ | refine Ext.trans ?_ (by assumption)))) (by kernel_rfl) (by kernel_rfl) ?_))
              exact rv_done rfl rfl
            try simp only [Act.put, List.setIfInBounds_toArray, List.set]
            apply run_read rfl
            · intro w1 hS
              go_wp2
              exact rv_done rfl rfl
            try simp only [Act.put, List.setIfInBounds_toArray, List.set]
            refine run_free rfl ?_ run_none
            go_wp2_with (first | (go_at_call 23; go_loud (refine (read_calls wR g g' A2 n2 c2 A n c l p er (hT.ext hR.ext) kd _).mono ?_; rintro e w2 ⟨y, rfl, hT2, hF2⟩)) | (go_at_call 21; go_loud (refine (rLeft_calls _ g A2 n2 c2 y.b y.at_ y.e (hT2.ext (by with_reducible repeat (first | exact Ext.refl _ | refine Ext.alloc ?_ _ | refine Ext.drewN ?_ _ | refine Ext.trans ?_ (by assumption)))).left).mono ?_; rintro e w3 ⟨rfl, q3, rfl⟩)) | (go_at_call 24; go_loud (refine (sLeft_calls _ g' A n c y.b y.at_ y.e (hT2.ext (by with_reducible repeat (first | exact Ext.refl _ | refine Ext.alloc ?_ _ | refine Ext.drewN ?_ _ | refine Ext.trans ?_ (by assumption)))).right).mono ?_; rintro e w3 ⟨rfl, q4, rfl⟩)) | (go_at_call 17; go_loud (refine (rErr_calls _ g A2 n2 c2 y.b y.at_ y.e (hT2.ext (by with_reducible repeat (first | exact Ext.refl _ | refine Ext.alloc ?_ _ | refine Ext.drewN ?_ _ | refine Ext.trans ?_ (by assumption)))).left).mono ?_; rintro e w6 ⟨rfl, rfl⟩)) | (go_at_call 22; go_loud (refine (rEnd_calls _ g A2 n2 c2 y.b y.at_ y.e (hT2.ext (by with_reducible repeat (first | exact Ext.refl _ | refine Ext.alloc ?_ _ | refine Ext.drewN ?_ _ | refine Ext.trans ?_ (by assumption)))).left).mono ?_; rintro e w3 ⟨rfl, q5, rfl⟩)))
            refine nx_done rfl trivial ?_
            try simp only [Act.put, List.setIfInBounds_toArray, List.set]
            apply run_read rfl
            · intro w1 hS
              go_wp2
              exact rv_done rfl rfl
            try simp only [Act.put, List.setIfInBounds_toArray, List.set]
            apply run_read rfl
            · intro w1 hS
              go_wp2
              exact rv_done rfl rfl
            try simp only [Act.put, List.setIfInBounds_toArray, List.set]
            apply run_read rfl
            · intro w1 hS
              go_wp2
              exact rv_done rfl rfl
            try simp only [Act.put, List.setIfInBounds_toArray, List.set]
            apply run_read rfl
            · intro w1 hS
              go_wp2
              exact rv_done rfl rfl
            try simp only [Act.put, List.setIfInBounds_toArray, List.set]
            refine run_call1 rfl ?_ run_none
            go_wp2_with (first | (go_at_call 23; go_loud (refine (read_calls wR g g' A2 n2 c2 A n c l p er (hT.ext hR.ext) kd _).mono ?_; rintro e w2 ⟨y, rfl, hT2, hF2⟩)) | (go_at_call 21; go_loud (refine (rLeft_calls _ g A2 n2 c2 y.b y.at_ y.e (hT2.ext (by with_reducible repeat (first | exact Ext.refl _ | refine Ext.alloc ?_ _ | refine Ext.drewN ?_ _ | refine Ext.trans ?_ (by assumption)))).left).mono ?_; rintro e w3 ⟨rfl, q3, rfl⟩)) | (go_at_call 24; go_loud (refine (sLeft_calls _ g' A n c y.b y.at_ y.e (hT2.ext (by with_reducible repeat (first | exact Ext.refl _ | refine Ext.alloc ?_ _ | refine Ext.drewN ?_ _ | refine Ext.trans ?_ (by assumption)))).right).mono ?_; rintro e w3 ⟨rfl, q4, rfl⟩)) | (go_at_call 17; go_loud (refine (rErr_calls _ g A2 n2 c2 y.b y.at_ y.e (hT2.ext (by with_reducible repeat (first | exact Ext.refl _ | refine Ext.alloc ?_ _ | refine Ext.drewN ?_ _ | refine Ext.trans ?_ (by assumption)))).left).mono ?_; rintro e w6 ⟨rfl, rfl⟩)) | (go_at_call 22; go_loud (refine (rEnd_calls _ g A2 n2 c2 y.b y.at_ y.e (hT2.ext (by with_reducible repeat (first | exact Ext.refl _ | refine Ext.alloc ?_ _ | refine Ext.drewN ?_ _ | refine Ext.trans ?_ (by assumption)))).left).mono ?_; rintro e w3 ⟨rfl, q5, rfl⟩)))
            refine nx_done rfl (by first | exact Quiet.refl _ | exact ⟨_, rfl⟩ | exact quiet_more _ _ | assumption) ?_
            try simp only [Act.put, List.setIfInBounds_toArray, List.set]
            refine run_free rfl ?_ run_none
            go_wp2_with (first | (go_at_call 23; go_loud (refine (read_calls wR g g' A2 n2 c2 A n c l p er (hT.ext hR.ext) kd _).mono ?_; rintro e w2 ⟨y, rfl, hT2, hF2⟩)) | (go_at_call 21; go_loud (refine (rLeft_calls _ g A2 n2 c2 y.b y.at_ y.e (hT2.ext (by with_reducible repeat (first | exact Ext.refl _ | refine Ext.alloc ?_ _ | refine Ext.drewN ?_ _ | refine Ext.trans ?_ (by assumption)))).left).mono ?_; rintro e w3 ⟨rfl, q3, rfl⟩)) | (go_at_call 24; go_loud (refine (sLeft_calls _ g' A n c y.b y.at_ y.e (hT2.ext (by with_reducible repeat (first | exact Ext.refl _ | refine Ext.alloc ?_ _ | refine Ext.drewN ?_ _ | refine Ext.trans ?_ (by assumption)))).right).mono ?_; rintro e w3 ⟨rfl, q4, rfl⟩)) | (go_at_call 17; go_loud (refine (rErr_calls _ g A2 n2 c2 y.b y.at_ y.e (hT2.ext (by with_reducible repeat (first | exact Ext.refl _ | refine Ext.alloc ?_ _ | refine Ext.drewN ?_ _ | refine Ext.trans ?_ (by assumption)))).left).mono ?_; rintro e w6 ⟨rfl, rfl⟩)) | (go_at_call 22; go_loud (refine (rEnd_calls _ g A2 n2 c2 y.b y.at_ y.e (hT2.ext (by with_reducible repeat (first | exact Ext.refl _ | refine Ext.alloc ?_ _ | refine Ext.drewN ?_ _ | refine Ext.trans ?_ (by assumption)))).left).mono ?_; rintro e w3 ⟨rfl, q5, rfl⟩)))
            refine nx_done rfl trivial ?_
            try simp only [Act.put, List.setIfInBounds_toArray, List.set]
            apply run_read rfl
            · intro w1 hS
              go_wp2
              exact rv_done rfl rfl
            try simp only [Act.put, List.setIfInBounds_toArray, List.set]
            apply run_read rfl
            · intro w1 hS
              go_wp2
              exact rv_done rfl rfl
            try simp only [Act.put, List.setIfInBounds_toArray, List.set]
            apply run_read rfl
            · intro w1 hS
              go_wp2
              exact rv_done rfl rfl
            try simp only [Act.put, List.setIfInBounds_toArray, List.set]
            apply run_read rfl
            · intro w1 hS
              go_wp2
              exact rv_done rfl rfl
            try simp only [Act.put, List.setIfInBounds_toArray, List.set]
            apply run_read rfl
            · intro w1 hS
              go_wp2
              exact rv_done rfl rfl
            try simp only [Act.put, List.setIfInBounds_toArray, List.set]
            apply run_read rfl
            · intro w1 hS
              go_wp2
              exact rv_done rfl rfl
            try simp only [Act.put, List.setIfInBounds_toArray, List.set]
            apply run_read rfl
            · intro w1 hS
              go_wp2
              exact rv_done rfl rfl
            try simp only [Act.put, List.setIfInBounds_toArray, List.set]
            apply run_read rfl
            · intro w1 hS
              have hSe := hS.ext
              have hB3 := (hT2.ext (Ext.trans (by with_reducible repeat (first | exact Ext.refl _ | refine Ext.alloc ?_ _ | refine Ext.drewN ?_ _ | refine Ext.trans ?_ (by assumption))) hSe)).b'
              go_wp2_with (first | ((with_reducible (show wpList _ _ _ (⟨_, Op.load _ _, _, _, _, _⟩ :: _) _ _)); refine wpList_ldC rfl _ _ rfl _ rfl _ (by refine Eq.trans (Blk.cell (Blk.ext (by assumption) (by (with_reducible repeat (first | exact Ext.refl _ | refine Ext.alloc ?_ _ | refine Ext.drewN ?_ _ | refine Ext.trans ?_ (by assumption))))) _) ?_; rfl) (by kernel_rfl) ?_) | ((with_reducible (show wpList _ _ _ (⟨_, Op.load _ _, _, _, _, _⟩ :: _) _ _)); refine wpList_ldB rfl _ _ rfl _ rfl (by refine Blk.ext (by assumption) ?_; (with_reducible repeat (first | exact Ext.refl _ | refine Ext.alloc ?_ _ | refine Ext.drewN ?_ _ | refine Ext.trans ?_ (by assumption)))) (by kernel_rfl) (by kernel_rfl) ?_))
              exact rv_done rfl rfl
            try simp only [Act.put, List.setIfInBounds_toArray, List.set]
            refine run_call1 rfl ?_ run_none
            go_wp2_with (first | (go_at_call 23; go_loud (refine (read_calls wR g g' A2 n2 c2 A n c l p er (hT.ext hR.ext) kd _).mono ?_; rintro e w2 ⟨y, rfl, hT2, hF2⟩)) | (go_at_call 21; go_loud (refine (rLeft_calls _ g A2 n2 c2 y.b y.at_ y.e (hT2.ext (by with_reducible repeat (first | exact Ext.refl _ | refine Ext.alloc ?_ _ | refine Ext.drewN ?_ _ | refine Ext.trans ?_ (by assumption)))).left).mono ?_; rintro e w3 ⟨rfl, q3, rfl⟩)) | (go_at_call 24; go_loud (refine (sLeft_calls _ g' A n c y.b y.at_ y.e (hT2.ext (by with_reducible repeat (first | exact Ext.refl _ | refine Ext.alloc ?_ _ | refine Ext.drewN ?_ _ | refine Ext.trans ?_ (by assumption)))).right).mono ?_; rintro e w3 ⟨rfl, q4, rfl⟩)) | (go_at_call 17; go_loud (refine (rErr_calls _ g A2 n2 c2 y.b y.at_ y.e (hT2.ext (by with_reducible repeat (first | exact Ext.refl _ | refine Ext.alloc ?_ _ | refine Ext.drewN ?_ _ | refine Ext.trans ?_ (by assumption)))).left).mono ?_; rintro e w6 ⟨rfl, rfl⟩)) | (go_at_call 22; go_loud (refine (rEnd_calls _ g A2 n2 c2 y.b y.at_ y.e (hT2.ext (by with_reducible repeat (first | exact Ext.refl _ | refine Ext.alloc ?_ _ | refine Ext.drewN ?_ _ | refine Ext.trans ?_ (by assumption)))).left).mono ?_; rintro e w3 ⟨rfl, q5, rfl⟩)))
            refine nx_done rfl (by first | exact Quiet.refl _ | exact ⟨_, rfl⟩ | exact quiet_more _ _ | assumption) ?_
            try simp only [Act.put, List.setIfInBounds_toArray, List.set]
            apply run_read rfl
            · intro w1 hS
              go_wp2
              exact rv_done rfl rfl
            try simp only [Act.put, List.setIfInBounds_toArray, List.set]
            apply run_read rfl
            · intro w1 hS
              go_wp2
              exact rv_done rfl rfl
            try simp only [Act.put, List.setIfInBounds_toArray, List.set]
            apply run_read rfl
            · intro w1 hS
              go_wp2
              exact rv_done rfl rfl
            try simp only [Act.put, List.setIfInBounds_toArray, List.set]
            apply run_read rfl
            · intro w1 hS
              go_wp2
              exact rv_done rfl rfl
            try simp only [Act.put, List.setIfInBounds_toArray, List.set]
            apply run_read rfl
            · intro w1 hS
              go_wp2
              exact rv_done rfl rfl
            try simp only [Act.put, List.setIfInBounds_toArray, List.set]
            refine run_call1 rfl ?_ run_none
            go_wp2_with (first | (go_at_call 23; go_loud (refine (read_calls wR g g' A2 n2 c2 A n c l p er (hT.ext hR.ext) kd _).mono ?_; rintro e w2 ⟨y, rfl, hT2, hF2⟩)) | (go_at_call 21; go_loud (refine (rLeft_calls _ g A2 n2 c2 y.b y.at_ y.e (hT2.ext (by with_reducible repeat (first | exact Ext.refl _ | refine Ext.alloc ?_ _ | refine Ext.drewN ?_ _ | refine Ext.trans ?_ (by assumption)))).left).mono ?_; rintro e w3 ⟨rfl, q3, rfl⟩)) | (go_at_call 24; go_loud (refine (sLeft_calls _ g' A n c y.b y.at_ y.e (hT2.ext (by with_reducible repeat (first | exact Ext.refl _ | refine Ext.alloc ?_ _ | refine Ext.drewN ?_ _ | refine Ext.trans ?_ (by assumption)))).right).mono ?_; rintro e w3 ⟨rfl, q4, rfl⟩)) | (go_at_call 17; go_loud (refine (rErr_calls _ g A2 n2 c2 y.b y.at_ y.e (hT2.ext (by with_reducible repeat (first | exact Ext.refl _ | refine Ext.alloc ?_ _ | refine Ext.drewN ?_ _ | refine Ext.trans ?_ (by assumption)))).left).mono ?_; rintro e w6 ⟨rfl, rfl⟩)) | (go_at_call 22; go_loud (refine (rEnd_calls _ g A2 n2 c2 y.b y.at_ y.e (hT2.ext (by with_reducible repeat (first | exact Ext.refl _ | refine Ext.alloc ?_ _ | refine Ext.drewN ?_ _ | refine Ext.trans ?_ (by assumption)))).left).mono ?_; rintro e w3 ⟨rfl, q5, rfl⟩)))
            refine nx_done rfl (by first | exact Quiet.refl _ | exact ⟨_, rfl⟩ | exact quiet_more _ _ | assumption) ?_
            try simp only [Act.put, List.setIfInBounds_toArray, List.set]
            refine run_tail rfl ?_
            go_wp2_with (go_at_call 25; go_loud (refine (sEnd_calls _ g' A n c y.b y.at_ y.e (hT2.ext (by with_reducible repeat (first | exact Ext.refl _ | refine Ext.alloc ?_ _ | refine Ext.drewN ?_ _ | refine Ext.trans ?_ (by assumption)))).right).mono ?_; rintro e w3 ⟨rfl, q6, rfl⟩))
            go_roundw
            case rel => exact ⟨j + 1, y, by omega, by go_num, hT2.ext (by with_reducible repeat (first | exact Ext.refl _ | refine Ext.alloc ?_ _ | refine Ext.drewN ?_ _ | refine Ext.trans ?_ (by assumption))), (Ext.past2 (hEw.trans hR.ext) hF2 hgw hgw').trans (by with_reducible repeat (first | exact Ext.refl _ | refine Ext.alloc ?_ _ | refine Ext.drewN ?_ _ | refine Ext.trans ?_ (by assumption)))⟩
            case measure => simp [intOf]; omega
          · go_upto_region 12 with fail
            refine wp_region_planG Quiet (.read 0 (.read 1 (.read 2 (.read 3 (.read 4 (.read 5 (.read 6 (.call true 7 (.read 8 (.read 9 (.read 10 (.read 12 (.call false 11 (.call true 13 (.read 14 (.read 15 (.read 16 (.read 17 (.read 19 (.read 20 (.read 21 (.read 22 (.call false 18 (.read 23 (.read 24 (.read 25 (.read 26 (.read 28 (.call false 27 .tail .none)))))) .none))))))))) .none) .none))))) .none)))))))) 29 (by kernel_rfl) (by kernel_rfl) (by kernel_rfl) Quiet.refl (fun _ _ _ => Quiet.trans) Quiet quiet_drew (fun wR hR => ?_)
            apply run_read rfl
            · intro w1 hS
              go_wp2
              exact rv_done rfl rfl
            try simp only [Act.put, List.setIfInBounds_toArray, List.set]
            apply run_read rfl
            · intro w1 hS
              go_wp2
              exact rv_done rfl rfl
            try simp only [Act.put, List.setIfInBounds_toArray, List.set]
            apply run_read rfl
            · intro w1 hS
              go_wp2
              exact rv_done rfl rfl
            try simp only [Act.put, List.setIfInBounds_toArray, List.set]
            apply run_read rfl
            · intro w1 hS
              go_wp2
              exact rv_done rfl rfl
            try simp only [Act.put, List.setIfInBounds_toArray, List.set]
            apply run_read rfl
            · intro w1 hS
              go_wp2
              exact rv_done rfl rfl
            try simp only [Act.put, List.setIfInBounds_toArray, List.set]
            apply run_read rfl
            · intro w1 hS
              have hSe := hS.ext
              have hcell2 : w1.cell? _ = _ := ((hR.ext.trans hSe).cells.1 _ _ hkb).trans hcell
              go_wp2_with (first | ((with_reducible (show wpList _ _ _ (⟨_, Op.load _ _, _, _, _, _⟩ :: _) _ _)); refine wpList_ldC rfl _ _ rfl _ rfl _ (by refine Eq.trans (Blk.cell (Blk.ext (by assumption) (by (with_reducible repeat (first | exact Ext.refl _ | refine Ext.alloc ?_ _ | refine Ext.drewN ?_ _ | refine Ext.trans ?_ (by assumption))))) _) ?_; rfl) (by kernel_rfl) ?_) | ((with_reducible (show wpList _ _ _ (⟨_, Op.load _ _, _, _, _, _⟩ :: _) _ _)); refine wpList_ldB rfl _ _ rfl _ rfl (by refine Blk.ext (by assumption) ?_; (with_reducible repeat (first | exact Ext.refl _ | refine Ext.alloc ?_ _ | refine Ext.drewN ?_ _ | refine Ext.trans ?_ (by assumption)))) (by kernel_rfl) (by kernel_rfl) ?_))
              exact rv_done rfl rfl
            try simp only [Act.put, List.setIfInBounds_toArray, List.set]
            apply run_read rfl
            · intro w1 hS
              go_wp2
              exact rv_done rfl rfl
            try simp only [Act.put, List.setIfInBounds_toArray, List.set]
            refine run_free rfl ?_ run_none
            go_wp2_with (first | (go_at_call 23; go_loud (refine (read_calls wR g g' A2 n2 c2 A n c l p er (hT.ext hR.ext) kd _).mono ?_; rintro e w2 ⟨y, rfl, hT2, hF2⟩)) | (go_at_call 21; go_loud (refine (rLeft_calls _ g A2 n2 c2 y.b y.at_ y.e (hT2.ext (by with_reducible repeat (first | exact Ext.refl _ | refine Ext.alloc ?_ _ | refine Ext.drewN ?_ _ | refine Ext.trans ?_ (by assumption)))).left).mono ?_; rintro e w3 ⟨rfl, q3, rfl⟩)) | (go_at_call 24; go_loud (refine (sLeft_calls _ g' A n c y.b y.at_ y.e (hT2.ext (by with_reducible repeat (first | exact Ext.refl _ | refine Ext.alloc ?_ _ | refine Ext.drewN ?_ _ | refine Ext.trans ?_ (by assumption)))).right).mono ?_; rintro e w3 ⟨rfl, q4, rfl⟩)) | (go_at_call 17; go_loud (refine (rErr_calls _ g A2 n2 c2 y.b y.at_ y.e (hT2.ext (by with_reducible repeat (first | exact Ext.refl _ | refine Ext.alloc ?_ _ | refine Ext.drewN ?_ _ | refine Ext.trans ?_ (by assumption)))).left).mono ?_; rintro e w6 ⟨rfl, rfl⟩)) | (go_at_call 22; go_loud (refine (rEnd_calls _ g A2 n2 c2 y.b y.at_ y.e (hT2.ext (by with_reducible repeat (first | exact Ext.refl _ | refine Ext.alloc ?_ _ | refine Ext.drewN ?_ _ | refine Ext.trans ?_ (by assumption)))).left).mono ?_; rintro e w3 ⟨rfl, q5, rfl⟩)))
            refine nx_done rfl trivial ?_
            try simp only [Act.put, List.setIfInBounds_toArray, List.set]
            apply run_read rfl
            · intro w1 hS
              go_wp2
              exact rv_done rfl rfl
            try simp only [Act.put, List.setIfInBounds_toArray, List.set]
            apply run_read rfl
            · intro w1 hS
              go_wp2
              exact rv_done rfl rfl
            try simp only [Act.put, List.setIfInBounds_toArray, List.set]
            apply run_read rfl
            · intro w1 hS
              go_wp2
              exact rv_done rfl rfl
            try simp only [Act.put, List.setIfInBounds_toArray, List.set]
            apply run_read rfl
            · intro w1 hS
              go_wp2
              exact rv_done rfl rfl
            try simp only [Act.put, List.setIfInBounds_toArray, List.set]
            refine run_call1 rfl ?_ run_none
            go_wp2_with (first | (go_at_call 23; go_loud (refine (read_calls wR g g' A2 n2 c2 A n c l p er (hT.ext hR.ext) kd _).mono ?_; rintro e w2 ⟨y, rfl, hT2, hF2⟩)) | (go_at_call 21; go_loud (refine (rLeft_calls _ g A2 n2 c2 y.b y.at_ y.e (hT2.ext (by with_reducible repeat (first | exact Ext.refl _ | refine Ext.alloc ?_ _ | refine Ext.drewN ?_ _ | refine Ext.trans ?_ (by assumption)))).left).mono ?_; rintro e w3 ⟨rfl, q3, rfl⟩)) | (go_at_call 24; go_loud (refine (sLeft_calls _ g' A n c y.b y.at_ y.e (hT2.ext (by with_reducible repeat (first | exact Ext.refl _ | refine Ext.alloc ?_ _ | refine Ext.drewN ?_ _ | refine Ext.trans ?_ (by assumption)))).right).mono ?_; rintro e w3 ⟨rfl, q4, rfl⟩)) | (go_at_call 17; go_loud (refine (rErr_calls _ g A2 n2 c2 y.b y.at_ y.e (hT2.ext (by with_reducible repeat (first | exact Ext.refl _ | refine Ext.alloc ?_ _ | refine Ext.drewN ?_ _ | refine Ext.trans ?_ (by assumption)))).left).mono ?_; rintro e w6 ⟨rfl, rfl⟩)) | (go_at_call 22; go_loud (refine (rEnd_calls _ g A2 n2 c2 y.b y.at_ y.e (hT2.ext (by with_reducible repeat (first | exact Ext.refl _ | refine Ext.alloc ?_ _ | refine Ext.drewN ?_ _ | refine Ext.trans ?_ (by assumption)))).left).mono ?_; rintro e w3 ⟨rfl, q5, rfl⟩)))
            refine nx_done rfl (by first | exact Quiet.refl _ | exact ⟨_, rfl⟩ | exact quiet_more _ _ | assumption) ?_
            try simp only [Act.put, List.setIfInBounds_toArray, List.set]
            refine run_free rfl ?_ run_none
            go_wp2_with (first | (go_at_call 23; go_loud (refine (read_calls wR g g' A2 n2 c2 A n c l p er (hT.ext hR.ext) kd _).mono ?_; rintro e w2 ⟨y, rfl, hT2, hF2⟩)) | (go_at_call 21; go_loud (refine (rLeft_calls _ g A2 n2 c2 y.b y.at_ y.e (hT2.ext (by with_reducible repeat (first | exact Ext.refl _ | refine Ext.alloc ?_ _ | refine Ext.drewN ?_ _ | refine Ext.trans ?_ (by assumption)))).left).mono ?_; rintro e w3 ⟨rfl, q3, rfl⟩)) | (go_at_call 24; go_loud (refine (sLeft_calls _ g' A n c y.b y.at_ y.e (hT2.ext (by with_reducible repeat (first | exact Ext.refl _ | refine Ext.alloc ?_ _ | refine Ext.drewN ?_ _ | refine Ext.trans ?_ (by assumption)))).right).mono ?_; rintro e w3 ⟨rfl, q4, rfl⟩)) | (go_at_call 17; go_loud (refine (rErr_calls _ g A2 n2 c2 y.b y.at_ y.e (hT2.ext (by with_reducible repeat (first | exact Ext.refl _ | refine Ext.alloc ?_ _ | refine Ext.drewN ?_ _ | refine Ext.trans ?_ (by assumption)))).left).mono ?_; rintro e w6 ⟨rfl, rfl⟩)) | (go_at_call 22; go_loud (refine (rEnd_calls _ g A2 n2 c2 y.b y.at_ y.e (hT2.ext (by with_reducible repeat (first | exact Ext.refl _ | refine Ext.alloc ?_ _ | refine Ext.drewN ?_ _ | refine Ext.trans ?_ (by assumption)))).left).mono ?_; rintro e w3 ⟨rfl, q5, rfl⟩)))
            refine nx_done rfl trivial ?_
            try simp only [Act.put, List.setIfInBounds_toArray, List.set]
            apply run_read rfl
            · intro w1 hS
              go_wp2
              exact rv_done rfl rfl
            try simp only [Act.put, List.setIfInBounds_toArray, List.set]
            apply run_read rfl
            · intro w1 hS
              go_wp2
              exact rv_done rfl rfl
            try simp only [Act.put, List.setIfInBounds_toArray, List.set]
            apply run_read rfl
            · intro w1 hS
              go_wp2
              exact rv_done rfl rfl
            try simp only [Act.put, List.setIfInBounds_toArray, List.set]
            apply run_read rfl
            · intro w1 hS
              go_wp2
              exact rv_done rfl rfl
            try simp only [Act.put, List.setIfInBounds_toArray, List.set]
            apply run_read rfl
            · intro w1 hS
              go_wp2
              exact rv_done rfl rfl
            try simp only [Act.put, List.setIfInBounds_toArray, List.set]
            apply run_read rfl
            · intro w1 hS
              go_wp2
              exact rv_done rfl rfl
            try simp only [Act.put, List.setIfInBounds_toArray, List.set]
            apply run_read rfl
            · intro w1 hS
              go_wp2
              exact rv_done rfl rfl
            try simp only [Act.put, List.setIfInBounds_toArray, List.set]
            apply run_read rfl
            · intro w1 hS
              have hSe := hS.ext
              have hB3 := (hT2.ext (Ext.trans (by with_reducible repeat (first | exact Ext.refl _ | refine Ext.alloc ?_ _ | refine Ext.drewN ?_ _ | refine Ext.trans ?_ (by assumption))) hSe)).b'
              go_wp2_with (first | ((with_reducible (show wpList _ _ _ (⟨_, Op.load _ _, _, _, _, _⟩ :: _) _ _)); refine wpList_ldC rfl _ _ rfl _ rfl _ (by refine Eq.trans (Blk.cell (Blk.ext (by assumption) (by (with_reducible repeat (first | exact Ext.refl _ | refine Ext.alloc ?_ _ | refine Ext.drewN ?_ _ | refine Ext.trans ?_ (by assumption))))) _) ?_; rfl) (by kernel_rfl) ?_) | ((with_reducible (show wpList _ _ _ (⟨_, Op.load _ _, _, _, _, _⟩ :: _) _ _)); refine wpList_ldB rfl _ _ rfl _ rfl (by refine Blk.ext (by assumption) ?_; (with_reducible repeat (first | exact Ext.refl _ | refine Ext.alloc ?_ _ | refine Ext.drewN ?_ _ | refine Ext.trans ?_ (by assumption)))) (by kernel_rfl) (by kernel_rfl) ?_))
              exact rv_done rfl rfl
            try simp only [Act.put, List.setIfInBounds_toArray, List.set]
            refine run_call1 rfl ?_ run_none
            go_wp2_with (first | (go_at_call 23; go_loud (refine (read_calls wR g g' A2 n2 c2 A n c l p er (hT.ext hR.ext) kd _).mono ?_; rintro e w2 ⟨y, rfl, hT2, hF2⟩)) | (go_at_call 21; go_loud (refine (rLeft_calls _ g A2 n2 c2 y.b y.at_ y.e (hT2.ext (by with_reducible repeat (first | exact Ext.refl _ | refine Ext.alloc ?_ _ | refine Ext.drewN ?_ _ | refine Ext.trans ?_ (by assumption)))).left).mono ?_; rintro e w3 ⟨rfl, q3, rfl⟩)) | (go_at_call 24; go_loud (refine (sLeft_calls _ g' A n c y.b y.at_ y.e (hT2.ext (by with_reducible repeat (first | exact Ext.refl _ | refine Ext.alloc ?_ _ | refine Ext.drewN ?_ _ | refine Ext.trans ?_ (by assumption)))).right).mono ?_; rintro e w3 ⟨rfl, q4, rfl⟩)) | (go_at_call 17; go_loud (refine (rErr_calls _ g A2 n2 c2 y.b y.at_ y.e (hT2.ext (by with_reducible repeat (first | exact Ext.refl _ | refine Ext.alloc ?_ _ | refine Ext.drewN ?_ _ | refine Ext.trans ?_ (by assumption)))).left).mono ?_; rintro e w6 ⟨rfl, rfl⟩)) | (go_at_call 22; go_loud (refine (rEnd_calls _ g A2 n2 c2 y.b y.at_ y.e (hT2.ext (by with_reducible repeat (first | exact Ext.refl _ | refine Ext.alloc ?_ _ | refine Ext.drewN ?_ _ | refine Ext.trans ?_ (by assumption)))).left).mono ?_; rintro e w3 ⟨rfl, q5, rfl⟩)))
            refine nx_done rfl (by first | exact Quiet.refl _ | exact ⟨_, rfl⟩ | exact quiet_more _ _ | assumption) ?_
            try simp only [Act.put, List.setIfInBounds_toArray, List.set]
            apply run_read rfl
            · intro w1 hS
              go_wp2
              exact rv_done rfl rfl
            try simp only [Act.put, List.setIfInBounds_toArray, List.set]
            apply run_read rfl
            · intro w1 hS
              go_wp2
              exact rv_done rfl rfl
            try simp only [Act.put, List.setIfInBounds_toArray, List.set]
            apply run_read rfl
            · intro w1 hS
              go_wp2
              exact rv_done rfl rfl
            try simp only [Act.put, List.setIfInBounds_toArray, List.set]
            apply run_read rfl
            · intro w1 hS
              go_wp2
              exact rv_done rfl rfl
            try simp only [Act.put, List.setIfInBounds_toArray, List.set]
            apply run_read rfl
            · intro w1 hS
              go_wp2
              exact rv_done rfl rfl
            try simp only [Act.put, List.setIfInBounds_toArray, List.set]
            refine run_call1 rfl ?_ run_none
            go_wp2_with (first | (go_at_call 23; go_loud (refine (read_calls wR g g' A2 n2 c2 A n c l p er (hT.ext hR.ext) kd _).mono ?_; rintro e w2 ⟨y, rfl, hT2, hF2⟩)) | (go_at_call 21; go_loud (refine (rLeft_calls _ g A2 n2 c2 y.b y.at_ y.e (hT2.ext (by with_reducible repeat (first | exact Ext.refl _ | refine Ext.alloc ?_ _ | refine Ext.drewN ?_ _ | refine Ext.trans ?_ (by assumption)))).left).mono ?_; rintro e w3 ⟨rfl, q3, rfl⟩)) | (go_at_call 24; go_loud (refine (sLeft_calls _ g' A n c y.b y.at_ y.e (hT2.ext (by with_reducible repeat (first | exact Ext.refl _ | refine Ext.alloc ?_ _ | refine Ext.drewN ?_ _ | refine Ext.trans ?_ (by assumption)))).right).mono ?_; rintro e w3 ⟨rfl, q4, rfl⟩)) | (go_at_call 17; go_loud (refine (rErr_calls _ g A2 n2 c2 y.b y.at_ y.e (hT2.ext (by with_reducible repeat (first | exact Ext.refl _ | refine Ext.alloc ?_ _ | refine Ext.drewN ?_ _ | refine Ext.trans ?_ (by assumption)))).left).mono ?_; rintro e w6 ⟨rfl, rfl⟩)) | (go_at_call 22; go_loud (refine (rEnd_calls _ g A2 n2 c2 y.b y.at_ y.e (hT2.ext (by with_reducible repeat (first | exact Ext.refl _ | refine Ext.alloc ?_ _ | refine Ext.drewN ?_ _ | refine Ext.trans ?_ (by assumption)))).left).mono ?_; rintro e w3 ⟨rfl, q5, rfl⟩)))
            refine nx_done rfl (by first | exact Quiet.refl _ | exact ⟨_, rfl⟩ | exact quiet_more _ _ | assumption) ?_
            try simp only [Act.put, List.setIfInBounds_toArray, List.set]
            refine run_tail rfl ?_
            go_wp2_with (go_at_call 25; go_loud (refine (sEnd_calls _ g' A n c y.b y.at_ y.e (hT2.ext (by with_reducible repeat (first | exact Ext.refl _ | refine Ext.alloc ?_ _ | refine Ext.drewN ?_ _ | refine Ext.trans ?_ (by assumption)))).right).mono ?_; rintro e w3 ⟨rfl, q6, rfl⟩))
            go_roundw
            case rel => exact ⟨j + 1, y, by omega, by go_num, hT2.ext (by with_reducible repeat (first | exact Ext.refl _ | refine Ext.alloc ?_ _ | refine Ext.drewN ?_ _ | refine Ext.trans ?_ (by assumption))), (Ext.past2 (hEw.trans hR.ext) hF2 hgw hgw').trans (by with_reducible repeat (first | exact Ext.refl _ | refine Ext.alloc ?_ _ | refine Ext.drewN ?_ _ | refine Ext.trans ?_ (by assumption)))⟩
            case measure => simp [intOf]; omega
        · go_wp2
          go_ret
          exact ⟨rfl, hEw⟩
end Go.Proofs.Ytbdiodibeiohlaa
