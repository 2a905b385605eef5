/- DiskNew: the walk. -/
import Derived.Test.YthbpddblejnjjaaLawWrite
namespace Go.Proofs.Ythbpddblejnjjaa
set_option linter.all false
open Go.RowKit

theorem newPx (w : World) (k : Int) : Calls Try.prog 22 #[.int .i64 k] w (DOne (fun _ => True) w (min k.toNat 64) (newS k)) := newP_calls _ w (Anew.top _) k
theorem newRx (w : World) (k : Int) : Calls Try.prog 23 #[.int .i64 k] w (DOne (fun _ => True) w (min k.toNat 64) (newS k)) := newR_calls _ w (Anew.top _) k
/-- The value is a disk. -/
def IsD (n : Nat) (d1 : Dk) (v : Value) (w' : World) : Prop := ∃ A c d, v = .agg #[.slice A n c, .int .i64 d.wr, .int .i64 d.ct, .int .i64 d.tn, .bool d.off] ∧ Hid (d = d1) ∧ BL w' (fun _ => True) A n c d.areas


set_option maxRecDepth 20000 in
set_option maxHeartbeats 4000000 in
theorem diskNew_walk {P : Nat → Prop} (w : World) (k0 at' torn : Int) (O : Option Addr) (on oc : Nat) (ol : List UInt8) (ho : BV w P O on oc ol) :
    Calls Try.prog 7 #[.int .i64 k0, .int .i64 at', .int .i64 torn, .slice O on oc] w fun e w' => e = .returned (.bool true) ∧ Ext w w' := by
  go_enter Try.func7, Try.ntmps7
  go_upto_region 4 with (first | (go_at_call 9; go_loud (refine (awake_calls w).mono ?_; rintro e w1 ⟨rfl, hE1⟩)) | (go_at_call 11; go_loud (refine (play_calls (fun _ => True) w1 (Anew.top _) k0 O on oc ol ((ho.ext hE1).mono (fun _ _ => trivial)) none 0 0 [] (BL.nil_ _ _) (by simp) at' torn).mono ?_; rintro e w3 ⟨A, n, c, d, rfl, hn64, HS, hb3, hE3⟩; have HD := Lib.hid (DBox.start hb3 HS.out (hE1.trans hE3)))))
  refine wp_forget (fun wl => Hid (DBox w wl w3.heap.size A n c d)) HD ?_
  clear hE1 hE3 hb3 HD HS ho
  rintro wl HB
  have hBk := HB.out.1
  have hbl := HB.out.2.1
  have hEl := Lib.hid HB.out.2.2.2.1
  clear HB
  go_wp2_with fail
  go_loopw [10] (fun i wr => ∃ a : Int, -1 ≤ a ∧ a ≤ 70 ∧ i = .int .i64 a ∧ Ext wl wr) (fun i _ => (70 - intOf i).toNat)
  case atStart => exact ⟨-1, by omega, by omega, rfl, Ext.refl _⟩
  case round =>
    obtain ⟨a, ha1, ha2, rfl, hE⟩ := hrel
    by_cases hlt : a < 67
    · go_wp2_with (first | (go_at_call 22; go_loud (refine (newPx _ _).mono ?_; rintro e w5 ⟨A5, c5, d5, rfl, H5, hb5, hE5⟩)) | (go_at_call 23; go_loud (refine (newRx _ _).mono ?_; rintro e w6 ⟨A6, c6, d6, rfl, H6, hb6, hE6⟩)) | (go_at_call 21; go_loud (refine (sameD_eq _ _ _ _ _ _ _ _ _ (H6.out.trans H5.out.symm) (by refine BL.ext (by assumption) ?_; (with_reducible repeat (first | exact Ext.refl _ | refine Ext.alloc ?_ _ | refine Ext.drewN ?_ _ | refine Ext.trans ?_ (by assumption)))) (by refine BL.ext (by assumption) ?_; (with_reducible repeat (first | exact Ext.refl _ | refine Ext.alloc ?_ _ | refine Ext.drewN ?_ _ | refine Ext.trans ?_ (by assumption))))).mono ?_; rintro e w7 ⟨rfl, hE7⟩)))
      go_roundw
      case rel => exact ⟨a + 4, by omega, by omega, by go_num, (by with_reducible repeat (first | exact Ext.refl _ | refine Ext.alloc ?_ _ | refine Ext.drewN ?_ _ | refine Ext.trans ?_ (by assumption)))⟩
      case measure => simp [intOf]; omega
    · go_wp2_with fail
      clear hlt
      refine wp_region_f (fun i v w' => match i with | 0 => v = .int .i64 k0 | 1 => IsD (min k0.toNat 64) (newS k0) v w' | 2 => v = .int .i64 k0 | 3 => IsD (min k0.toNat 64) (newS k0) v w' | 4 => v = .bool true | 5 => v = .bool true | 6 => v = .agg #[.slice A n c, .int .i64 d.wr, .int .i64 d.ct, .int .i64 d.tn, .bool d.off] | 7 => v = .int .i64 at' | 8 => v = .int .i64 torn | 9 => IsD n (cutDS d at' torn) v w' | 10 => v = .agg #[.slice A n c, .int .i64 d.wr, .int .i64 d.ct, .int .i64 d.tn, .bool d.off] | 11 => v = .int .i64 at' | 12 => v = .int .i64 torn | 13 => IsD n (cutDS d at' torn) v w' | 14 => v = .bool true | 15 => v = .bool true | 16 => v = .bool true | 17 => v = .agg #[.slice A n c, .int .i64 d.wr, .int .i64 d.ct, .int .i64 d.tn, .bool d.off] | 18 => IsD n (stopS d) v w' | 19 => v = .agg #[.slice A n c, .int .i64 d.wr, .int .i64 d.ct, .int .i64 d.tn, .bool d.off] | 20 => IsD n (stopS d) v w' | 21 => v = .bool true | 22 => v = .bool true | 23 => v = .bool true | 24 => v = .agg #[.slice A n c, .int .i64 d.wr, .int .i64 d.ct, .int .i64 d.tn, .bool d.off] | 25 => IsD n (restartS d) v w' | 26 => v = .agg #[.slice A n c, .int .i64 d.wr, .int .i64 d.ct, .int .i64 d.tn, .bool d.off] | 27 => IsD n (restartS d) v w' | 28 => v = .bool true | 29 => v = .bool true | _ => True) 30 (by kernel_rfl) (by kernel_rfl) ?_ ?_
      · simp only [List.take_succ_cons, List.take_zero]
        refine steps_cons (fun vs w1 hS0 hF => ?_) ?_
        · clear hF
          have hS := Ext.drewL hS0
          clear hS0
          simp only [fillA, List.take, List.drop, Act.put, List.setIfInBounds_toArray, List.set, Nat.zero_add, Nat.reduceAdd]
          refine ⟨?_⟩
          go_wp2
          exact ⟨rfl, (by with_reducible repeat (first | exact Ext.refl _ | refine Ext.alloc ?_ _ | refine Ext.drewN ?_ _ | refine Ext.trans ?_ (by assumption))), Keep.mk_ (rfl)⟩
        refine steps_cons (fun vs w1 hS0 hF => ?_) ?_
        · obtain ⟨u0, p0, x0⟩ := (hF.at_ 0 (by kernel_rfl)).ex
          have h0 : vs 0 = .int .i64 k0 := p0
          clear x0 p0
          clear hF
          have hS := Ext.drewL hS0
          clear hS0
          simp only [fillA, List.take, List.drop, Act.put, List.setIfInBounds_toArray, List.set, Nat.zero_add, Nat.reduceAdd, h0]
          refine ⟨?_⟩
          go_wp2_with ((go_at_call 22; go_loud (refine (newPx _ _).mono ?_; rintro e w5 ⟨A5, c5, d5, rfl, H5, hb5, hE5⟩)))
          exact ⟨rfl, (by with_reducible repeat (first | exact Ext.refl _ | refine Ext.alloc ?_ _ | refine Ext.drewN ?_ _ | refine Ext.trans ?_ (by assumption))), Keep.mk_ (⟨A5, c5, d5, rfl, H5, hb5⟩)⟩
        refine steps_cons (fun vs w1 hS0 hF => ?_) ?_
        · clear hF
          have hS := Ext.drewL hS0
          clear hS0
          simp only [fillA, List.take, List.drop, Act.put, List.setIfInBounds_toArray, List.set, Nat.zero_add, Nat.reduceAdd]
          refine ⟨?_⟩
          go_wp2
          exact ⟨rfl, (by with_reducible repeat (first | exact Ext.refl _ | refine Ext.alloc ?_ _ | refine Ext.drewN ?_ _ | refine Ext.trans ?_ (by assumption))), Keep.mk_ (rfl)⟩
        refine steps_cons (fun vs w1 hS0 hF => ?_) ?_
        · obtain ⟨u2, p2, x2⟩ := (hF.at_ 2 (by kernel_rfl)).ex
          have h2 : vs 2 = .int .i64 k0 := p2
          clear x2 p2
          clear hF
          have hS := Ext.drewL hS0
          clear hS0
          simp only [fillA, List.take, List.drop, Act.put, List.setIfInBounds_toArray, List.set, Nat.zero_add, Nat.reduceAdd, h2]
          refine ⟨?_⟩
          go_wp2_with ((go_at_call 23; go_loud (refine (newRx _ _).mono ?_; rintro e w5 ⟨A5, c5, d5, rfl, H5, hb5, hE5⟩)))
          exact ⟨rfl, (by with_reducible repeat (first | exact Ext.refl _ | refine Ext.alloc ?_ _ | refine Ext.drewN ?_ _ | refine Ext.trans ?_ (by assumption))), Keep.mk_ (⟨A5, c5, d5, rfl, H5, hb5⟩)⟩
        refine steps_cons (fun vs w1 hS0 hF => ?_) ?_
        · obtain ⟨u1, p1, x1⟩ := (hF.at_ 1 (by kernel_rfl)).ex
          obtain ⟨A1, c1, d1, h1, e1, b1⟩ := p1
          replace b1 := b1.ext x1
          clear x1
          obtain ⟨u3, p3, x3⟩ := (hF.at_ 3 (by kernel_rfl)).ex
          obtain ⟨A3, c3, d3, h3, e3, b3⟩ := p3
          replace b3 := b3.ext x3
          clear x3
          clear hF
          have hS := Ext.drewL hS0
          clear hS0
          simp only [fillA, List.take, List.drop, Act.put, List.setIfInBounds_toArray, List.set, Nat.zero_add, Nat.reduceAdd, h1, h3]
          refine ⟨?_⟩
          go_wp2_with ((go_at_call 21; go_loud (refine (sameD_eq _ _ _ _ _ _ _ _ _ (e3.out.trans e1.out.symm) (by refine BL.ext (by assumption) ?_; (with_reducible repeat (first | exact Ext.refl _ | refine Ext.alloc ?_ _ | refine Ext.drewN ?_ _ | refine Ext.trans ?_ (by assumption)))) (by refine BL.ext (by assumption) ?_; (with_reducible repeat (first | exact Ext.refl _ | refine Ext.alloc ?_ _ | refine Ext.drewN ?_ _ | refine Ext.trans ?_ (by assumption))))).mono ?_; rintro e w5 ⟨rfl, hE5⟩)))
          exact ⟨rfl, (by with_reducible repeat (first | exact Ext.refl _ | refine Ext.alloc ?_ _ | refine Ext.drewN ?_ _ | refine Ext.trans ?_ (by assumption))), Keep.mk_ (rfl)⟩
        refine steps_cons (fun vs w1 hS0 hF => ?_) ?_
        · obtain ⟨u4, p4, x4⟩ := (hF.at_ 4 (by kernel_rfl)).ex
          have h4 : vs 4 = .bool true := p4
          clear x4 p4
          clear hF
          have hS := Ext.drewL hS0
          clear hS0
          simp only [fillA, List.take, List.drop, Act.put, List.setIfInBounds_toArray, List.set, Nat.zero_add, Nat.reduceAdd, h4]
          refine ⟨?_⟩
          go_wp2
          exact ⟨rfl, (by with_reducible repeat (first | exact Ext.refl _ | refine Ext.alloc ?_ _ | refine Ext.drewN ?_ _ | refine Ext.trans ?_ (by assumption))), Keep.mk_ (rfl)⟩
        refine steps_cons (fun vs w1 hS0 hF => ?_) ?_
        · obtain ⟨u5, p5, x5⟩ := (hF.at_ 5 (by kernel_rfl)).ex
          have h5 : vs 5 = .bool true := p5
          clear x5 p5
          clear hF
          have hS := Ext.drewL hS0
          clear hS0
          simp only [fillA, List.take, List.drop, Act.put, List.setIfInBounds_toArray, List.set, Nat.zero_add, Nat.reduceAdd, h5]
          refine ⟨?_⟩
          go_wp2_with (((with_reducible (show wpList _ _ _ (⟨_, Op.load _ _, _, _, _, _⟩ :: _) _ _)); refine wpList_ldB rfl _ _ rfl _ rfl (by refine Blk.ext (by assumption) ?_; (with_reducible repeat (first | exact Ext.refl _ | refine Ext.alloc ?_ _ | refine Ext.drewN ?_ _ | refine Ext.trans ?_ (by assumption)))) (by kernel_rfl) (by kernel_rfl) ?_))
          exact ⟨rfl, (by with_reducible repeat (first | exact Ext.refl _ | refine Ext.alloc ?_ _ | refine Ext.drewN ?_ _ | refine Ext.trans ?_ (by assumption))), Keep.mk_ (rfl)⟩
        refine steps_cons (fun vs w1 hS0 hF => ?_) ?_
        · obtain ⟨u5, p5, x5⟩ := (hF.at_ 5 (by kernel_rfl)).ex
          have h5 : vs 5 = .bool true := p5
          clear x5 p5
          clear hF
          have hS := Ext.drewL hS0
          clear hS0
          simp only [fillA, List.take, List.drop, Act.put, List.setIfInBounds_toArray, List.set, Nat.zero_add, Nat.reduceAdd, h5]
          refine ⟨?_⟩
          go_wp2
          exact ⟨rfl, (by with_reducible repeat (first | exact Ext.refl _ | refine Ext.alloc ?_ _ | refine Ext.drewN ?_ _ | refine Ext.trans ?_ (by assumption))), Keep.mk_ (rfl)⟩
        refine steps_cons (fun vs w1 hS0 hF => ?_) ?_
        · obtain ⟨u5, p5, x5⟩ := (hF.at_ 5 (by kernel_rfl)).ex
          have h5 : vs 5 = .bool true := p5
          clear x5 p5
          clear hF
          have hS := Ext.drewL hS0
          clear hS0
          simp only [fillA, List.take, List.drop, Act.put, List.setIfInBounds_toArray, List.set, Nat.zero_add, Nat.reduceAdd, h5]
          refine ⟨?_⟩
          go_wp2
          exact ⟨rfl, (by with_reducible repeat (first | exact Ext.refl _ | refine Ext.alloc ?_ _ | refine Ext.drewN ?_ _ | refine Ext.trans ?_ (by assumption))), Keep.mk_ (rfl)⟩
        refine steps_cons (fun vs w1 hS0 hF => ?_) ?_
        · obtain ⟨u5, p5, x5⟩ := (hF.at_ 5 (by kernel_rfl)).ex
          have h5 : vs 5 = .bool true := p5
          clear x5 p5
          obtain ⟨u6, p6, x6⟩ := (hF.at_ 6 (by kernel_rfl)).ex
          have h6 : vs 6 = .agg #[.slice A n c, .int .i64 d.wr, .int .i64 d.ct, .int .i64 d.tn, .bool d.off] := p6
          clear x6 p6
          obtain ⟨u7, p7, x7⟩ := (hF.at_ 7 (by kernel_rfl)).ex
          have h7 : vs 7 = .int .i64 at' := p7
          clear x7 p7
          obtain ⟨u8, p8, x8⟩ := (hF.at_ 8 (by kernel_rfl)).ex
          have h8 : vs 8 = .int .i64 torn := p8
          clear x8 p8
          clear hF
          have hS := Ext.drewL hS0
          clear hS0
          simp only [fillA, List.take, List.drop, Act.put, List.setIfInBounds_toArray, List.set, Nat.zero_add, Nat.reduceAdd, h5, h6, h7, h8]
          refine ⟨?_⟩
          go_wp2_with ((go_at_call 24; go_loud (refine (cutP_calls (fun _ => True) _ (Anew.top _) A n c d (BL.mono (by refine BL.ext (by assumption) ?_; (with_reducible repeat (first | exact Ext.refl _ | refine Ext.alloc ?_ _ | refine Ext.drewN ?_ _ | refine Ext.trans ?_ (by assumption)))) (fun _ _ => trivial)) _ _).mono ?_; rintro e w5 ⟨A5, c5, d5, rfl, H5, hb5, hE5⟩)))
          exact ⟨rfl, (by with_reducible repeat (first | exact Ext.refl _ | refine Ext.alloc ?_ _ | refine Ext.drewN ?_ _ | refine Ext.trans ?_ (by assumption))), Keep.mk_ (⟨A5, c5, d5, rfl, H5, hb5⟩)⟩
        refine steps_cons (fun vs w1 hS0 hF => ?_) ?_
        · obtain ⟨u5, p5, x5⟩ := (hF.at_ 5 (by kernel_rfl)).ex
          have h5 : vs 5 = .bool true := p5
          clear x5 p5
          clear hF
          have hS := Ext.drewL hS0
          clear hS0
          simp only [fillA, List.take, List.drop, Act.put, List.setIfInBounds_toArray, List.set, Nat.zero_add, Nat.reduceAdd, h5]
          refine ⟨?_⟩
          go_wp2_with (((with_reducible (show wpList _ _ _ (⟨_, Op.load _ _, _, _, _, _⟩ :: _) _ _)); refine wpList_ldB rfl _ _ rfl _ rfl (by refine Blk.ext (by assumption) ?_; (with_reducible repeat (first | exact Ext.refl _ | refine Ext.alloc ?_ _ | refine Ext.drewN ?_ _ | refine Ext.trans ?_ (by assumption)))) (by kernel_rfl) (by kernel_rfl) ?_))
          exact ⟨rfl, (by with_reducible repeat (first | exact Ext.refl _ | refine Ext.alloc ?_ _ | refine Ext.drewN ?_ _ | refine Ext.trans ?_ (by assumption))), Keep.mk_ (rfl)⟩
        refine steps_cons (fun vs w1 hS0 hF => ?_) ?_
        · obtain ⟨u5, p5, x5⟩ := (hF.at_ 5 (by kernel_rfl)).ex
          have h5 : vs 5 = .bool true := p5
          clear x5 p5
          clear hF
          have hS := Ext.drewL hS0
          clear hS0
          simp only [fillA, List.take, List.drop, Act.put, List.setIfInBounds_toArray, List.set, Nat.zero_add, Nat.reduceAdd, h5]
          refine ⟨?_⟩
          go_wp2
          exact ⟨rfl, (by with_reducible repeat (first | exact Ext.refl _ | refine Ext.alloc ?_ _ | refine Ext.drewN ?_ _ | refine Ext.trans ?_ (by assumption))), Keep.mk_ (rfl)⟩
        refine steps_cons (fun vs w1 hS0 hF => ?_) ?_
        · obtain ⟨u5, p5, x5⟩ := (hF.at_ 5 (by kernel_rfl)).ex
          have h5 : vs 5 = .bool true := p5
          clear x5 p5
          clear hF
          have hS := Ext.drewL hS0
          clear hS0
          simp only [fillA, List.take, List.drop, Act.put, List.setIfInBounds_toArray, List.set, Nat.zero_add, Nat.reduceAdd, h5]
          refine ⟨?_⟩
          go_wp2
          exact ⟨rfl, (by with_reducible repeat (first | exact Ext.refl _ | refine Ext.alloc ?_ _ | refine Ext.drewN ?_ _ | refine Ext.trans ?_ (by assumption))), Keep.mk_ (rfl)⟩
        refine steps_cons (fun vs w1 hS0 hF => ?_) ?_
        · obtain ⟨u5, p5, x5⟩ := (hF.at_ 5 (by kernel_rfl)).ex
          have h5 : vs 5 = .bool true := p5
          clear x5 p5
          obtain ⟨u10, p10, x10⟩ := (hF.at_ 10 (by kernel_rfl)).ex
          have h10 : vs 10 = .agg #[.slice A n c, .int .i64 d.wr, .int .i64 d.ct, .int .i64 d.tn, .bool d.off] := p10
          clear x10 p10
          obtain ⟨u11, p11, x11⟩ := (hF.at_ 11 (by kernel_rfl)).ex
          have h11 : vs 11 = .int .i64 at' := p11
          clear x11 p11
          obtain ⟨u12, p12, x12⟩ := (hF.at_ 12 (by kernel_rfl)).ex
          have h12 : vs 12 = .int .i64 torn := p12
          clear x12 p12
          clear hF
          have hS := Ext.drewL hS0
          clear hS0
          simp only [fillA, List.take, List.drop, Act.put, List.setIfInBounds_toArray, List.set, Nat.zero_add, Nat.reduceAdd, h5, h10, h11, h12]
          refine ⟨?_⟩
          go_wp2_with ((go_at_call 15; go_loud (refine (cutR_calls (fun _ => True) _ (Anew.top _) A n c d (BL.mono (by refine BL.ext (by assumption) ?_; (with_reducible repeat (first | exact Ext.refl _ | refine Ext.alloc ?_ _ | refine Ext.drewN ?_ _ | refine Ext.trans ?_ (by assumption)))) (fun _ _ => trivial)) _ _).mono ?_; rintro e w5 ⟨A5, c5, d5, rfl, H5, hb5, hE5⟩)))
          exact ⟨rfl, (by with_reducible repeat (first | exact Ext.refl _ | refine Ext.alloc ?_ _ | refine Ext.drewN ?_ _ | refine Ext.trans ?_ (by assumption))), Keep.mk_ (⟨A5, c5, d5, rfl, H5, hb5⟩)⟩
        refine steps_cons (fun vs w1 hS0 hF => ?_) ?_
        · obtain ⟨u5, p5, x5⟩ := (hF.at_ 5 (by kernel_rfl)).ex
          have h5 : vs 5 = .bool true := p5
          clear x5 p5
          obtain ⟨u9, p9, x9⟩ := (hF.at_ 9 (by kernel_rfl)).ex
          obtain ⟨A9, c9, d9, h9, e9, b9⟩ := p9
          replace b9 := b9.ext x9
          clear x9
          obtain ⟨u13, p13, x13⟩ := (hF.at_ 13 (by kernel_rfl)).ex
          obtain ⟨A13, c13, d13, h13, e13, b13⟩ := p13
          replace b13 := b13.ext x13
          clear x13
          clear hF
          have hS := Ext.drewL hS0
          clear hS0
          simp only [fillA, List.take, List.drop, Act.put, List.setIfInBounds_toArray, List.set, Nat.zero_add, Nat.reduceAdd, h5, h9, h13]
          refine ⟨?_⟩
          go_wp2_with ((go_at_call 21; go_loud (refine (sameD_eq _ _ _ _ _ _ _ _ _ (e13.out.trans e9.out.symm) (by refine BL.ext (by assumption) ?_; (with_reducible repeat (first | exact Ext.refl _ | refine Ext.alloc ?_ _ | refine Ext.drewN ?_ _ | refine Ext.trans ?_ (by assumption)))) (by refine BL.ext (by assumption) ?_; (with_reducible repeat (first | exact Ext.refl _ | refine Ext.alloc ?_ _ | refine Ext.drewN ?_ _ | refine Ext.trans ?_ (by assumption))))).mono ?_; rintro e w5 ⟨rfl, hE5⟩)))
          exact ⟨rfl, (by with_reducible repeat (first | exact Ext.refl _ | refine Ext.alloc ?_ _ | refine Ext.drewN ?_ _ | refine Ext.trans ?_ (by assumption))), Keep.mk_ (rfl)⟩
        refine steps_cons (fun vs w1 hS0 hF => ?_) ?_
        · obtain ⟨u5, p5, x5⟩ := (hF.at_ 5 (by kernel_rfl)).ex
          have h5 : vs 5 = .bool true := p5
          clear x5 p5
          obtain ⟨u14, p14, x14⟩ := (hF.at_ 14 (by kernel_rfl)).ex
          have h14 : vs 14 = .bool true := p14
          clear x14 p14
          clear hF
          have hS := Ext.drewL hS0
          clear hS0
          simp only [fillA, List.take, List.drop, Act.put, List.setIfInBounds_toArray, List.set, Nat.zero_add, Nat.reduceAdd, h5, h14]
          refine ⟨?_⟩
          go_wp2
          exact ⟨rfl, (by with_reducible repeat (first | exact Ext.refl _ | refine Ext.alloc ?_ _ | refine Ext.drewN ?_ _ | refine Ext.trans ?_ (by assumption))), Keep.mk_ (rfl)⟩
        refine steps_cons (fun vs w1 hS0 hF => ?_) ?_
        · obtain ⟨u15, p15, x15⟩ := (hF.at_ 15 (by kernel_rfl)).ex
          have h15 : vs 15 = .bool true := p15
          clear x15 p15
          clear hF
          have hS := Ext.drewL hS0
          clear hS0
          simp only [fillA, List.take, List.drop, Act.put, List.setIfInBounds_toArray, List.set, Nat.zero_add, Nat.reduceAdd, h15]
          refine ⟨?_⟩
          go_wp2
          exact ⟨rfl, (by with_reducible repeat (first | exact Ext.refl _ | refine Ext.alloc ?_ _ | refine Ext.drewN ?_ _ | refine Ext.trans ?_ (by assumption))), Keep.mk_ (rfl)⟩
        refine steps_cons (fun vs w1 hS0 hF => ?_) ?_
        · obtain ⟨u16, p16, x16⟩ := (hF.at_ 16 (by kernel_rfl)).ex
          have h16 : vs 16 = .bool true := p16
          clear x16 p16
          clear hF
          have hS := Ext.drewL hS0
          clear hS0
          simp only [fillA, List.take, List.drop, Act.put, List.setIfInBounds_toArray, List.set, Nat.zero_add, Nat.reduceAdd, h16]
          refine ⟨?_⟩
          go_wp2_with (((with_reducible (show wpList _ _ _ (⟨_, Op.load _ _, _, _, _, _⟩ :: _) _ _)); refine wpList_ldB rfl _ _ rfl _ rfl (by refine Blk.ext (by assumption) ?_; (with_reducible repeat (first | exact Ext.refl _ | refine Ext.alloc ?_ _ | refine Ext.drewN ?_ _ | refine Ext.trans ?_ (by assumption)))) (by kernel_rfl) (by kernel_rfl) ?_))
          exact ⟨rfl, (by with_reducible repeat (first | exact Ext.refl _ | refine Ext.alloc ?_ _ | refine Ext.drewN ?_ _ | refine Ext.trans ?_ (by assumption))), Keep.mk_ (rfl)⟩
        refine steps_cons (fun vs w1 hS0 hF => ?_) ?_
        · obtain ⟨u16, p16, x16⟩ := (hF.at_ 16 (by kernel_rfl)).ex
          have h16 : vs 16 = .bool true := p16
          clear x16 p16
          obtain ⟨u17, p17, x17⟩ := (hF.at_ 17 (by kernel_rfl)).ex
          have h17 : vs 17 = .agg #[.slice A n c, .int .i64 d.wr, .int .i64 d.ct, .int .i64 d.tn, .bool d.off] := p17
          clear x17 p17
          clear hF
          have hS := Ext.drewL hS0
          clear hS0
          simp only [fillA, List.take, List.drop, Act.put, List.setIfInBounds_toArray, List.set, Nat.zero_add, Nat.reduceAdd, h16, h17]
          refine ⟨?_⟩
          go_wp2_with ((go_at_call 25; go_loud (refine (stopP_calls (fun _ => True) _ (Anew.top _) A n c d (BL.mono (by refine BL.ext (by assumption) ?_; (with_reducible repeat (first | exact Ext.refl _ | refine Ext.alloc ?_ _ | refine Ext.drewN ?_ _ | refine Ext.trans ?_ (by assumption)))) (fun _ _ => trivial))).mono ?_; rintro e w5 ⟨A5, c5, d5, rfl, H5, hb5, hE5⟩)))
          exact ⟨rfl, (by with_reducible repeat (first | exact Ext.refl _ | refine Ext.alloc ?_ _ | refine Ext.drewN ?_ _ | refine Ext.trans ?_ (by assumption))), Keep.mk_ (⟨A5, c5, d5, rfl, H5, hb5⟩)⟩
        refine steps_cons (fun vs w1 hS0 hF => ?_) ?_
        · obtain ⟨u16, p16, x16⟩ := (hF.at_ 16 (by kernel_rfl)).ex
          have h16 : vs 16 = .bool true := p16
          clear x16 p16
          clear hF
          have hS := Ext.drewL hS0
          clear hS0
          simp only [fillA, List.take, List.drop, Act.put, List.setIfInBounds_toArray, List.set, Nat.zero_add, Nat.reduceAdd, h16]
          refine ⟨?_⟩
          go_wp2_with (((with_reducible (show wpList _ _ _ (⟨_, Op.load _ _, _, _, _, _⟩ :: _) _ _)); refine wpList_ldB rfl _ _ rfl _ rfl (by refine Blk.ext (by assumption) ?_; (with_reducible repeat (first | exact Ext.refl _ | refine Ext.alloc ?_ _ | refine Ext.drewN ?_ _ | refine Ext.trans ?_ (by assumption)))) (by kernel_rfl) (by kernel_rfl) ?_))
          exact ⟨rfl, (by with_reducible repeat (first | exact Ext.refl _ | refine Ext.alloc ?_ _ | refine Ext.drewN ?_ _ | refine Ext.trans ?_ (by assumption))), Keep.mk_ (rfl)⟩
        refine steps_cons (fun vs w1 hS0 hF => ?_) ?_
        · obtain ⟨u16, p16, x16⟩ := (hF.at_ 16 (by kernel_rfl)).ex
          have h16 : vs 16 = .bool true := p16
          clear x16 p16
          obtain ⟨u19, p19, x19⟩ := (hF.at_ 19 (by kernel_rfl)).ex
          have h19 : vs 19 = .agg #[.slice A n c, .int .i64 d.wr, .int .i64 d.ct, .int .i64 d.tn, .bool d.off] := p19
          clear x19 p19
          clear hF
          have hS := Ext.drewL hS0
          clear hS0
          simp only [fillA, List.take, List.drop, Act.put, List.setIfInBounds_toArray, List.set, Nat.zero_add, Nat.reduceAdd, h16, h19]
          refine ⟨?_⟩
          go_wp2_with ((go_at_call 26; go_loud (refine (stopR_calls (fun _ => True) _ (Anew.top _) A n c d (BL.mono (by refine BL.ext (by assumption) ?_; (with_reducible repeat (first | exact Ext.refl _ | refine Ext.alloc ?_ _ | refine Ext.drewN ?_ _ | refine Ext.trans ?_ (by assumption)))) (fun _ _ => trivial))).mono ?_; rintro e w5 ⟨A5, c5, d5, rfl, H5, hb5, hE5⟩)))
          exact ⟨rfl, (by with_reducible repeat (first | exact Ext.refl _ | refine Ext.alloc ?_ _ | refine Ext.drewN ?_ _ | refine Ext.trans ?_ (by assumption))), Keep.mk_ (⟨A5, c5, d5, rfl, H5, hb5⟩)⟩
        refine steps_cons (fun vs w1 hS0 hF => ?_) ?_
        · obtain ⟨u16, p16, x16⟩ := (hF.at_ 16 (by kernel_rfl)).ex
          have h16 : vs 16 = .bool true := p16
          clear x16 p16
          obtain ⟨u18, p18, x18⟩ := (hF.at_ 18 (by kernel_rfl)).ex
          obtain ⟨A18, c18, d18, h18, e18, b18⟩ := p18
          replace b18 := b18.ext x18
          clear x18
          obtain ⟨u20, p20, x20⟩ := (hF.at_ 20 (by kernel_rfl)).ex
          obtain ⟨A20, c20, d20, h20, e20, b20⟩ := p20
          replace b20 := b20.ext x20
          clear x20
          clear hF
          have hS := Ext.drewL hS0
          clear hS0
          simp only [fillA, List.take, List.drop, Act.put, List.setIfInBounds_toArray, List.set, Nat.zero_add, Nat.reduceAdd, h16, h18, h20]
          refine ⟨?_⟩
          go_wp2_with ((go_at_call 21; go_loud (refine (sameD_eq _ _ _ _ _ _ _ _ _ (e20.out.trans e18.out.symm) (by refine BL.ext (by assumption) ?_; (with_reducible repeat (first | exact Ext.refl _ | refine Ext.alloc ?_ _ | refine Ext.drewN ?_ _ | refine Ext.trans ?_ (by assumption)))) (by refine BL.ext (by assumption) ?_; (with_reducible repeat (first | exact Ext.refl _ | refine Ext.alloc ?_ _ | refine Ext.drewN ?_ _ | refine Ext.trans ?_ (by assumption))))).mono ?_; rintro e w5 ⟨rfl, hE5⟩)))
          exact ⟨rfl, (by with_reducible repeat (first | exact Ext.refl _ | refine Ext.alloc ?_ _ | refine Ext.drewN ?_ _ | refine Ext.trans ?_ (by assumption))), Keep.mk_ (rfl)⟩
        refine steps_cons (fun vs w1 hS0 hF => ?_) ?_
        · obtain ⟨u16, p16, x16⟩ := (hF.at_ 16 (by kernel_rfl)).ex
          have h16 : vs 16 = .bool true := p16
          clear x16 p16
          obtain ⟨u21, p21, x21⟩ := (hF.at_ 21 (by kernel_rfl)).ex
          have h21 : vs 21 = .bool true := p21
          clear x21 p21
          clear hF
          have hS := Ext.drewL hS0
          clear hS0
          simp only [fillA, List.take, List.drop, Act.put, List.setIfInBounds_toArray, List.set, Nat.zero_add, Nat.reduceAdd, h16, h21]
          refine ⟨?_⟩
          go_wp2
          exact ⟨rfl, (by with_reducible repeat (first | exact Ext.refl _ | refine Ext.alloc ?_ _ | refine Ext.drewN ?_ _ | refine Ext.trans ?_ (by assumption))), Keep.mk_ (rfl)⟩
        refine steps_cons (fun vs w1 hS0 hF => ?_) ?_
        · obtain ⟨u22, p22, x22⟩ := (hF.at_ 22 (by kernel_rfl)).ex
          have h22 : vs 22 = .bool true := p22
          clear x22 p22
          clear hF
          have hS := Ext.drewL hS0
          clear hS0
          simp only [fillA, List.take, List.drop, Act.put, List.setIfInBounds_toArray, List.set, Nat.zero_add, Nat.reduceAdd, h22]
          refine ⟨?_⟩
          go_wp2
          exact ⟨rfl, (by with_reducible repeat (first | exact Ext.refl _ | refine Ext.alloc ?_ _ | refine Ext.drewN ?_ _ | refine Ext.trans ?_ (by assumption))), Keep.mk_ (rfl)⟩
        refine steps_cons (fun vs w1 hS0 hF => ?_) ?_
        · obtain ⟨u23, p23, x23⟩ := (hF.at_ 23 (by kernel_rfl)).ex
          have h23 : vs 23 = .bool true := p23
          clear x23 p23
          clear hF
          have hS := Ext.drewL hS0
          clear hS0
          simp only [fillA, List.take, List.drop, Act.put, List.setIfInBounds_toArray, List.set, Nat.zero_add, Nat.reduceAdd, h23]
          refine ⟨?_⟩
          go_wp2_with (((with_reducible (show wpList _ _ _ (⟨_, Op.load _ _, _, _, _, _⟩ :: _) _ _)); refine wpList_ldB rfl _ _ rfl _ rfl (by refine Blk.ext (by assumption) ?_; (with_reducible repeat (first | exact Ext.refl _ | refine Ext.alloc ?_ _ | refine Ext.drewN ?_ _ | refine Ext.trans ?_ (by assumption)))) (by kernel_rfl) (by kernel_rfl) ?_))
          exact ⟨rfl, (by with_reducible repeat (first | exact Ext.refl _ | refine Ext.alloc ?_ _ | refine Ext.drewN ?_ _ | refine Ext.trans ?_ (by assumption))), Keep.mk_ (rfl)⟩
        refine steps_cons (fun vs w1 hS0 hF => ?_) ?_
        · obtain ⟨u23, p23, x23⟩ := (hF.at_ 23 (by kernel_rfl)).ex
          have h23 : vs 23 = .bool true := p23
          clear x23 p23
          obtain ⟨u24, p24, x24⟩ := (hF.at_ 24 (by kernel_rfl)).ex
          have h24 : vs 24 = .agg #[.slice A n c, .int .i64 d.wr, .int .i64 d.ct, .int .i64 d.tn, .bool d.off] := p24
          clear x24 p24
          clear hF
          have hS := Ext.drewL hS0
          clear hS0
          simp only [fillA, List.take, List.drop, Act.put, List.setIfInBounds_toArray, List.set, Nat.zero_add, Nat.reduceAdd, h23, h24]
          refine ⟨?_⟩
          go_wp2_with ((go_at_call 27; go_loud (refine (restartP_calls (fun _ => True) _ (Anew.top _) A n c d (BL.mono (by refine BL.ext (by assumption) ?_; (with_reducible repeat (first | exact Ext.refl _ | refine Ext.alloc ?_ _ | refine Ext.drewN ?_ _ | refine Ext.trans ?_ (by assumption)))) (fun _ _ => trivial))).mono ?_; rintro e w5 ⟨A5, c5, d5, rfl, H5, hb5, hE5⟩)))
          exact ⟨rfl, (by with_reducible repeat (first | exact Ext.refl _ | refine Ext.alloc ?_ _ | refine Ext.drewN ?_ _ | refine Ext.trans ?_ (by assumption))), Keep.mk_ (⟨A5, c5, d5, rfl, H5, hb5⟩)⟩
        refine steps_cons (fun vs w1 hS0 hF => ?_) ?_
        · obtain ⟨u23, p23, x23⟩ := (hF.at_ 23 (by kernel_rfl)).ex
          have h23 : vs 23 = .bool true := p23
          clear x23 p23
          clear hF
          have hS := Ext.drewL hS0
          clear hS0
          simp only [fillA, List.take, List.drop, Act.put, List.setIfInBounds_toArray, List.set, Nat.zero_add, Nat.reduceAdd, h23]
          refine ⟨?_⟩
          go_wp2_with (((with_reducible (show wpList _ _ _ (⟨_, Op.load _ _, _, _, _, _⟩ :: _) _ _)); refine wpList_ldB rfl _ _ rfl _ rfl (by refine Blk.ext (by assumption) ?_; (with_reducible repeat (first | exact Ext.refl _ | refine Ext.alloc ?_ _ | refine Ext.drewN ?_ _ | refine Ext.trans ?_ (by assumption)))) (by kernel_rfl) (by kernel_rfl) ?_))
          exact ⟨rfl, (by with_reducible repeat (first | exact Ext.refl _ | refine Ext.alloc ?_ _ | refine Ext.drewN ?_ _ | refine Ext.trans ?_ (by assumption))), Keep.mk_ (rfl)⟩
        refine steps_cons (fun vs w1 hS0 hF => ?_) ?_
        · obtain ⟨u23, p23, x23⟩ := (hF.at_ 23 (by kernel_rfl)).ex
          have h23 : vs 23 = .bool true := p23
          clear x23 p23
          obtain ⟨u26, p26, x26⟩ := (hF.at_ 26 (by kernel_rfl)).ex
          have h26 : vs 26 = .agg #[.slice A n c, .int .i64 d.wr, .int .i64 d.ct, .int .i64 d.tn, .bool d.off] := p26
          clear x26 p26
          clear hF
          have hS := Ext.drewL hS0
          clear hS0
          simp only [fillA, List.take, List.drop, Act.put, List.setIfInBounds_toArray, List.set, Nat.zero_add, Nat.reduceAdd, h23, h26]
          refine ⟨?_⟩
          go_wp2_with ((go_at_call 16; go_loud (refine (restartR_calls (fun _ => True) _ (Anew.top _) A n c d (BL.mono (by refine BL.ext (by assumption) ?_; (with_reducible repeat (first | exact Ext.refl _ | refine Ext.alloc ?_ _ | refine Ext.drewN ?_ _ | refine Ext.trans ?_ (by assumption)))) (fun _ _ => trivial))).mono ?_; rintro e w5 ⟨A5, c5, d5, rfl, H5, hb5, hE5⟩)))
          exact ⟨rfl, (by with_reducible repeat (first | exact Ext.refl _ | refine Ext.alloc ?_ _ | refine Ext.drewN ?_ _ | refine Ext.trans ?_ (by assumption))), Keep.mk_ (⟨A5, c5, d5, rfl, H5, hb5⟩)⟩
        refine steps_cons (fun vs w1 hS0 hF => ?_) ?_
        · obtain ⟨u23, p23, x23⟩ := (hF.at_ 23 (by kernel_rfl)).ex
          have h23 : vs 23 = .bool true := p23
          clear x23 p23
          obtain ⟨u25, p25, x25⟩ := (hF.at_ 25 (by kernel_rfl)).ex
          obtain ⟨A25, c25, d25, h25, e25, b25⟩ := p25
          replace b25 := b25.ext x25
          clear x25
          obtain ⟨u27, p27, x27⟩ := (hF.at_ 27 (by kernel_rfl)).ex
          obtain ⟨A27, c27, d27, h27, e27, b27⟩ := p27
          replace b27 := b27.ext x27
          clear x27
          clear hF
          have hS := Ext.drewL hS0
          clear hS0
          simp only [fillA, List.take, List.drop, Act.put, List.setIfInBounds_toArray, List.set, Nat.zero_add, Nat.reduceAdd, h23, h25, h27]
          refine ⟨?_⟩
          go_wp2_with ((go_at_call 21; go_loud (refine (sameD_eq _ _ _ _ _ _ _ _ _ (e27.out.trans e25.out.symm) (by refine BL.ext (by assumption) ?_; (with_reducible repeat (first | exact Ext.refl _ | refine Ext.alloc ?_ _ | refine Ext.drewN ?_ _ | refine Ext.trans ?_ (by assumption)))) (by refine BL.ext (by assumption) ?_; (with_reducible repeat (first | exact Ext.refl _ | refine Ext.alloc ?_ _ | refine Ext.drewN ?_ _ | refine Ext.trans ?_ (by assumption))))).mono ?_; rintro e w5 ⟨rfl, hE5⟩)))
          exact ⟨rfl, (by with_reducible repeat (first | exact Ext.refl _ | refine Ext.alloc ?_ _ | refine Ext.drewN ?_ _ | refine Ext.trans ?_ (by assumption))), Keep.mk_ (rfl)⟩
        refine steps_cons (fun vs w1 hS0 hF => ?_) ?_
        · obtain ⟨u23, p23, x23⟩ := (hF.at_ 23 (by kernel_rfl)).ex
          have h23 : vs 23 = .bool true := p23
          clear x23 p23
          obtain ⟨u28, p28, x28⟩ := (hF.at_ 28 (by kernel_rfl)).ex
          have h28 : vs 28 = .bool true := p28
          clear x28 p28
          clear hF
          have hS := Ext.drewL hS0
          clear hS0
          simp only [fillA, List.take, List.drop, Act.put, List.setIfInBounds_toArray, List.set, Nat.zero_add, Nat.reduceAdd, h23, h28]
          refine ⟨?_⟩
          go_wp2
          exact ⟨rfl, (by with_reducible repeat (first | exact Ext.refl _ | refine Ext.alloc ?_ _ | refine Ext.drewN ?_ _ | refine Ext.trans ?_ (by assumption))), Keep.mk_ (rfl)⟩
        exact trivial
      · intro vs w2 hE2 hF
        obtain ⟨u0, p0, x0⟩ := (hF.at_ 0 (by omega)).ex
        have h0 : vs 0 = .int .i64 k0 := p0
        clear x0 p0
        obtain ⟨u1, p1, x1⟩ := (hF.at_ 1 (by omega)).ex
        obtain ⟨A1, c1, d1, h1, e1, b1⟩ := p1
        replace b1 := b1.ext x1
        clear x1
        obtain ⟨u2, p2, x2⟩ := (hF.at_ 2 (by omega)).ex
        have h2 : vs 2 = .int .i64 k0 := p2
        clear x2 p2
        obtain ⟨u3, p3, x3⟩ := (hF.at_ 3 (by omega)).ex
        obtain ⟨A3, c3, d3, h3, e3, b3⟩ := p3
        replace b3 := b3.ext x3
        clear x3
        obtain ⟨u4, p4, x4⟩ := (hF.at_ 4 (by omega)).ex
        have h4 : vs 4 = .bool true := p4
        clear x4 p4
        obtain ⟨u5, p5, x5⟩ := (hF.at_ 5 (by omega)).ex
        have h5 : vs 5 = .bool true := p5
        clear x5 p5
        obtain ⟨u6, p6, x6⟩ := (hF.at_ 6 (by omega)).ex
        have h6 : vs 6 = .agg #[.slice A n c, .int .i64 d.wr, .int .i64 d.ct, .int .i64 d.tn, .bool d.off] := p6
        clear x6 p6
        obtain ⟨u7, p7, x7⟩ := (hF.at_ 7 (by omega)).ex
        have h7 : vs 7 = .int .i64 at' := p7
        clear x7 p7
        obtain ⟨u8, p8, x8⟩ := (hF.at_ 8 (by omega)).ex
        have h8 : vs 8 = .int .i64 torn := p8
        clear x8 p8
        obtain ⟨u9, p9, x9⟩ := (hF.at_ 9 (by omega)).ex
        obtain ⟨A9, c9, d9, h9, e9, b9⟩ := p9
        replace b9 := b9.ext x9
        clear x9
        obtain ⟨u10, p10, x10⟩ := (hF.at_ 10 (by omega)).ex
        have h10 : vs 10 = .agg #[.slice A n c, .int .i64 d.wr, .int .i64 d.ct, .int .i64 d.tn, .bool d.off] := p10
        clear x10 p10
        obtain ⟨u11, p11, x11⟩ := (hF.at_ 11 (by omega)).ex
        have h11 : vs 11 = .int .i64 at' := p11
        clear x11 p11
        obtain ⟨u12, p12, x12⟩ := (hF.at_ 12 (by omega)).ex
        have h12 : vs 12 = .int .i64 torn := p12
        clear x12 p12
        obtain ⟨u13, p13, x13⟩ := (hF.at_ 13 (by omega)).ex
        obtain ⟨A13, c13, d13, h13, e13, b13⟩ := p13
        replace b13 := b13.ext x13
        clear x13
        obtain ⟨u14, p14, x14⟩ := (hF.at_ 14 (by omega)).ex
        have h14 : vs 14 = .bool true := p14
        clear x14 p14
        obtain ⟨u15, p15, x15⟩ := (hF.at_ 15 (by omega)).ex
        have h15 : vs 15 = .bool true := p15
        clear x15 p15
        obtain ⟨u16, p16, x16⟩ := (hF.at_ 16 (by omega)).ex
        have h16 : vs 16 = .bool true := p16
        clear x16 p16
        obtain ⟨u17, p17, x17⟩ := (hF.at_ 17 (by omega)).ex
        have h17 : vs 17 = .agg #[.slice A n c, .int .i64 d.wr, .int .i64 d.ct, .int .i64 d.tn, .bool d.off] := p17
        clear x17 p17
        obtain ⟨u18, p18, x18⟩ := (hF.at_ 18 (by omega)).ex
        obtain ⟨A18, c18, d18, h18, e18, b18⟩ := p18
        replace b18 := b18.ext x18
        clear x18
        obtain ⟨u19, p19, x19⟩ := (hF.at_ 19 (by omega)).ex
        have h19 : vs 19 = .agg #[.slice A n c, .int .i64 d.wr, .int .i64 d.ct, .int .i64 d.tn, .bool d.off] := p19
        clear x19 p19
        obtain ⟨u20, p20, x20⟩ := (hF.at_ 20 (by omega)).ex
        obtain ⟨A20, c20, d20, h20, e20, b20⟩ := p20
        replace b20 := b20.ext x20
        clear x20
        obtain ⟨u21, p21, x21⟩ := (hF.at_ 21 (by omega)).ex
        have h21 : vs 21 = .bool true := p21
        clear x21 p21
        obtain ⟨u22, p22, x22⟩ := (hF.at_ 22 (by omega)).ex
        have h22 : vs 22 = .bool true := p22
        clear x22 p22
        obtain ⟨u23, p23, x23⟩ := (hF.at_ 23 (by omega)).ex
        have h23 : vs 23 = .bool true := p23
        clear x23 p23
        obtain ⟨u24, p24, x24⟩ := (hF.at_ 24 (by omega)).ex
        have h24 : vs 24 = .agg #[.slice A n c, .int .i64 d.wr, .int .i64 d.ct, .int .i64 d.tn, .bool d.off] := p24
        clear x24 p24
        obtain ⟨u25, p25, x25⟩ := (hF.at_ 25 (by omega)).ex
        obtain ⟨A25, c25, d25, h25, e25, b25⟩ := p25
        replace b25 := b25.ext x25
        clear x25
        obtain ⟨u26, p26, x26⟩ := (hF.at_ 26 (by omega)).ex
        have h26 : vs 26 = .agg #[.slice A n c, .int .i64 d.wr, .int .i64 d.ct, .int .i64 d.tn, .bool d.off] := p26
        clear x26 p26
        obtain ⟨u27, p27, x27⟩ := (hF.at_ 27 (by omega)).ex
        obtain ⟨A27, c27, d27, h27, e27, b27⟩ := p27
        replace b27 := b27.ext x27
        clear x27
        obtain ⟨u28, p28, x28⟩ := (hF.at_ 28 (by omega)).ex
        have h28 : vs 28 = .bool true := p28
        clear x28 p28
        obtain ⟨u29, p29, x29⟩ := (hF.at_ 29 (by omega)).ex
        have h29 : vs 29 = .bool true := p29
        clear x29 p29
        clear hF
        simp only [fillA, List.take, List.drop, Act.put, List.setIfInBounds_toArray, List.set, Nat.zero_add, Nat.reduceAdd, h0, h1, h2, h3, h4, h5, h6, h7, h8, h9, h10, h11, h12, h13, h14, h15, h16, h17, h18, h19, h20, h21, h22, h23, h24, h25, h26, h27, h28, h29]
        refine ⟨?_⟩
        go_wp2
        go_ret
        exact ⟨rfl, hEl.out.trans (hE.trans hE2)⟩
end Go.Proofs.Ythbpddblejnjjaa
