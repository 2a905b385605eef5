/- DiskWrite: the walk. -/
import Derived.Test.YthbpddblejnjjaaLawRead
import Derived.Test.YthbpddblejnjjaaLib3
namespace Go.Proofs.Ythbpddblejnjjaa
set_option linter.all false
open Go.RowKit

theorem sameS_self (d : Dk) : sameS d d = true := by simp [sameS]
theorem sameD_true {P P' : Nat → Prop} (w : World) (A B : Option Addr) (n c m k : Nat) (a : Dk) (ha : BL w P A n c a.areas) (hb : BL w P' B m k a.areas) :
    Calls Try.prog 21 #[.agg #[.slice A n c, .int .i64 a.wr, .int .i64 a.ct, .int .i64 a.tn, .bool a.off], .agg #[.slice B m k, .int .i64 a.wr, .int .i64 a.ct, .int .i64 a.tn, .bool a.off]] w fun e w' => e = .returned (.bool true) ∧ Ext w w' :=
  (sameD_calls w A B n c m k a a ha hb).mono fun e w' ⟨h1, h2⟩ => ⟨by rw [h1, sameS_self], h2⟩
theorem sameD_eq {P P' : Nat → Prop} (w : World) (A B : Option Addr) (n c m k : Nat) (a b : Dk) (h : b = a) (ha : BL w P A n c a.areas) (hb : BL w P' B m k b.areas) :
    Calls Try.prog 21 #[.agg #[.slice A n c, .int .i64 a.wr, .int .i64 a.ct, .int .i64 a.tn, .bool a.off], .agg #[.slice B m k, .int .i64 b.wr, .int .i64 b.ct, .int .i64 b.tn, .bool b.off]] w fun e w' => e = .returned (.bool true) ∧ Ext w w' := by
  subst h; exact sameD_true w A B n c m k b ha hb
/-- the disk's box of a law -/
def DBox (w w4 : World) (g : Nat) (A : Option Addr) (n c : Nat) (d : Dk) : Prop := Blk w4 g 27 #[.slice A n c, .int .i64 d.wr, .int .i64 d.ct, .int .i64 d.tn, .bool d.off] ∧ BL w4 (fun k => k ≠ g) A n c d.areas ∧ Small d 16 ∧ Ext w w4 ∧ w.heap.size ≤ g
theorem DBox.start {w w3 : World} {A : Option Addr} {n c : Nat} {d : Dk} (hb : BL w3 (fun _ => True) A n c d.areas) (hs : Small d 16) (hE : Ext w w3) :
    DBox w (w3.alloc (.cells #[.slice A n c, .int .i64 d.wr, .int .i64 d.ct, .int .i64 d.tn, .bool d.off] 27)) w3.heap.size A n c d :=
  ⟨Blk.new _ _ _, ((hb.sep (hi := w3.heap.size + 1)).mono (fun k hk => by unfold Sep at hk; omega)).ext ((Ext.refl _).alloc _), hs, hE.alloc _, hE.size⟩
theorem DBox.store {w w3 w4 : World} {g : Nat} {A A2 : Option Addr} {n c c2 : Nat} {d d2 : Dk} (h : DBox w w3 g A n c d) (hb : BL w4 (fun k => k ≠ g) A2 n c2 d2.areas) (hE : Ext w3 w4) (hs : Small d2 16) :
    DBox w (stores w4 g 0 (dv A2 n c2 d2)) g A2 n c2 d2 := by
  obtain ⟨h1, h2, h3, h4, h5⟩ := h
  have hf : Fr (fun k => k ≠ g) w4 (stores w4 g 0 (dv A2 n c2 d2)) := Fr.stores _ _ _ (Fr.refl _ _) (.inl (by omega))
  exact ⟨fill5 _ _ _ _ _ (h1.ext hE), hb.fr hf, hs, Ext.stores _ _ _ (h4.trans hE) h5, h5⟩

set_option maxRecDepth 20000 in
set_option maxHeartbeats 2000000 in
theorem diskWrite_walk {P P' PX : Nat → Prop} (w : World) (k0 : Int) (O : Option Addr) (on oc : Nat) (ol : List UInt8) (ho : BV w P O on oc ol) (T : Option Addr) (tn tc : Nat) (ts : List (List UInt8)) (ht : BL w P' T tn tc ts) (at' torn area : Int) (D : Option Addr) (m dc : Nat) (x : List UInt8) (hx : BV w PX D m dc x) (again : Bool) :
    Calls Try.prog 4 #[.int .i64 k0, .slice O on oc, .slice T tn tc, .int .i64 at', .int .i64 torn, .int .i64 area, .slice D m dc, .bool again] w fun e w' => e = .returned (.bool true) ∧ Ext w w' := by
  cases again with
  | false =>
    go_enter Try.func4, Try.ntmps4
    go_upto_region 8 with (first | (go_at_call 9; go_loud (refine (awake_calls w).mono ?_; rintro e w1 ⟨rfl, hE1⟩)) | (go_at_call 10; go_loud (refine (few_calls w1 T tn tc ts (ht.ext hE1)).mono ?_; rintro e w2 ⟨b, rfl, HB, hE2⟩)) | (go_at_call 11; go_loud (refine (play_calls (fun _ => True) w2 (Anew.top _) k0 O on oc ol ((ho.ext (hE1.trans hE2)).mono (fun _ _ => trivial)) T tn tc ts ((ht.ext (hE1.trans hE2)).mono (fun _ _ => trivial)) (HB.out (by first | assumption | simpa using (by assumption : (!b) = false))).2 at' torn).mono ?_; rintro e w3 ⟨A, n, c, d, rfl, hn64, HS, hb3, hE3⟩; have HD := Lib.hid (DBox.start hb3 HS.out (hE1.trans (hE2.trans hE3))))) | (go_at_call 16; go_loud (refine (restartR_calls (fun k => k ≠ w3.heap.size) _ (by intro k hk; simp at hk; omega) A n c d HD.out.2.1).mono ?_; rintro e w4 ⟨A4, c4, d4, rfl, H4, hb4, hE4⟩; have hz4 := HD.out.1.lt; have hz4' := hE4.size)) | (go_at_call 15; go_loud (refine (cutR_calls (fun k => k ≠ w3.heap.size) w4 (by intro k hk; omega) A4 n c4 d4 hb4 1 torn).mono ?_; rintro e w5 ⟨A5, c5, d5, rfl, H5, hb5, hE5⟩; have HD2 := Lib.hid (DBox.store HD.out hb5 (hE4.trans hE5) (by rw [H5.out, H4.out]; exact small_cut (small_restart HS.out) _ _)); have f6 := (HD.out.1.ext (hE4.trans hE5)).free; obtain ⟨q0, q1, q2, q3, q4⟩ := (HD.out.1.ext (hE4.trans hE5)).c5)))
    · go_ret
      exact ⟨rfl, hE1.trans hE2⟩
    · refine wp_forget (fun wl => ∃ A c d, Hid (DBox w wl w3.heap.size A n c d)) ⟨A, c, d, HD⟩ ?_
      clear hE1 hE2 hE3 hb3 HD HS
      rintro wl ⟨A, c, d, HB⟩
      have hBk := HB.out.1
      have hbl := HB.out.2.1
      have hxl := hx.ext HB.out.2.2.2.1
      have hEl := Lib.hid HB.out.2.2.2.1
      have hs := Lib.hid HB.out.2.2.1
      have hAN : Anew wl (fun k => k ≠ w3.heap.size) := fun k hk => by have := hBk.lt; omega
      clear HB hx ho ht
      go_wp2_with fail
      go_loopw [18, 20, 22, 24, 26] (fun i _ _ _ _ wr => ∃ a : Int, -1 ≤ a ∧ a ≤ 9 ∧ i = .int .i64 a ∧ Ext wl wr) (fun i _ _ _ _ _ => (9 - intOf i).toNat)
      case atStart => exact ⟨-1, by omega, by omega, rfl, Ext.refl _⟩
      case round =>
        obtain ⟨a, ha1, ha2, rfl, hE⟩ := hrel
        by_cases hlt : a < 9
        · go_wp2_with ((with_reducible (show wpList _ _ _ (⟨_, Op.load _ _, _, _, _, _⟩ :: _) _ _)); refine wpList_ldB rfl _ _ rfl _ rfl (by refine Blk.ext (by assumption) ?_; (with_reducible repeat (first | exact Ext.refl _ | refine Ext.alloc ?_ _ | refine Ext.drewN ?_ _ | refine Ext.trans ?_ (by assumption)))) (by kernel_rfl) (by kernel_rfl) ?_)
          go_loud (refine (write_calls (fun k => k ≠ w3.heap.size) _ (hAN.ext (by with_reducible repeat (first | exact Ext.refl _ | refine Ext.alloc ?_ _ | refine Ext.drewN ?_ _ | refine Ext.trans ?_ (by assumption)))) A n c d (by refine BL.ext (by assumption) ?_; (with_reducible repeat (first | exact Ext.refl _ | refine Ext.alloc ?_ _ | refine Ext.drewN ?_ _ | refine Ext.trans ?_ (by assumption)))) hn64 D m dc x (by refine BV.ext (by assumption) ?_; (with_reducible repeat (first | exact Ext.refl _ | refine Ext.alloc ?_ _ | refine Ext.drewN ?_ _ | refine Ext.trans ?_ (by assumption)))) (by omega) _ hs.out.w0 (hs.out.w1n (Nat.le_refl _)) (hs.out.big (Nat.le_refl _))).mono ?_)
          rintro e w6 ⟨A6, c6, d6, e6, rfl, H6, hb6, hE6⟩
          have hk6 := Blk.new w6 27 #[.slice A6 n c6, .int .i64 d6.wr, .int .i64 d6.ct, .int .i64 d6.tn, .bool d6.off]
          go_wp2_with ((with_reducible (show wpList _ _ _ (⟨_, Op.load _ _, _, _, _, _⟩ :: _) _ _)); refine wpList_ldB rfl _ _ rfl _ rfl (by refine Blk.ext (by assumption) ?_; (with_reducible repeat (first | exact Ext.refl _ | refine Ext.alloc ?_ _ | refine Ext.drewN ?_ _ | refine Ext.trans ?_ (by assumption)))) (by kernel_rfl) (by kernel_rfl) ?_)
          go_loud (refine (writeR_calls (fun k => k ≠ w3.heap.size) _ (hAN.ext (by with_reducible repeat (first | exact Ext.refl _ | refine Ext.alloc ?_ _ | refine Ext.drewN ?_ _ | refine Ext.trans ?_ (by assumption)))) A n c d (by refine BL.ext (by assumption) ?_; (with_reducible repeat (first | exact Ext.refl _ | refine Ext.alloc ?_ _ | refine Ext.drewN ?_ _ | refine Ext.trans ?_ (by assumption)))) hn64 D m dc x (by refine BV.ext (by assumption) ?_; (with_reducible repeat (first | exact Ext.refl _ | refine Ext.alloc ?_ _ | refine Ext.drewN ?_ _ | refine Ext.trans ?_ (by assumption)))) (by omega) _ hs.out.w0 (hs.out.w1n (Nat.le_refl _)) (hs.out.big (Nat.le_refl _))).mono ?_)
          rintro e w7 ⟨A7, c7, d7, e7, rfl, H7, hb7, hE7⟩
          have hk7 := Blk.new w7 27 #[.slice A7 n c7, .int .i64 d7.wr, .int .i64 d7.ct, .int .i64 d7.tn, .bool d7.off]
          obtain rfl : e7 = e6 := H7.out.2.trans H6.out.2.symm
          have hd7 := Lib.hid (H7.out.1.trans H6.out.1.symm)
          go_wp2_with ((with_reducible (show wpList _ _ _ (⟨_, Op.load _ _, _, _, _, _⟩ :: _) _ _)); refine wpList_ldB rfl _ _ rfl _ rfl (by refine Blk.ext (by assumption) ?_; (with_reducible repeat (first | exact Ext.refl _ | refine Ext.alloc ?_ _ | refine Ext.drewN ?_ _ | refine Ext.trans ?_ (by assumption)))) (by kernel_rfl) (by kernel_rfl) ?_)
          go_loud (refine (append_calls (fun k => k ≠ w3.heap.size) _ (hAN.ext (by with_reducible repeat (first | exact Ext.refl _ | refine Ext.alloc ?_ _ | refine Ext.drewN ?_ _ | refine Ext.trans ?_ (by assumption)))) A n c d (by refine BL.ext (by assumption) ?_; (with_reducible repeat (first | exact Ext.refl _ | refine Ext.alloc ?_ _ | refine Ext.drewN ?_ _ | refine Ext.trans ?_ (by assumption)))) hn64 D m dc x (by refine BV.ext (by assumption) ?_; (with_reducible repeat (first | exact Ext.refl _ | refine Ext.alloc ?_ _ | refine Ext.drewN ?_ _ | refine Ext.trans ?_ (by assumption)))) (by omega) _ hs.out.w0 (hs.out.w1n (Nat.le_refl _)) (hs.out.big (Nat.le_refl _))).mono ?_)
          rintro e w8 ⟨A8, c8, d8, e8, rfl, H8, hb8, hE8⟩
          have hk8 := Blk.new w8 27 #[.slice A8 n c8, .int .i64 d8.wr, .int .i64 d8.ct, .int .i64 d8.tn, .bool d8.off]
          go_wp2_with ((with_reducible (show wpList _ _ _ (⟨_, Op.load _ _, _, _, _, _⟩ :: _) _ _)); refine wpList_ldB rfl _ _ rfl _ rfl (by refine Blk.ext (by assumption) ?_; (with_reducible repeat (first | exact Ext.refl _ | refine Ext.alloc ?_ _ | refine Ext.drewN ?_ _ | refine Ext.trans ?_ (by assumption)))) (by kernel_rfl) (by kernel_rfl) ?_)
          go_loud (refine (appendR_calls (fun k => k ≠ w3.heap.size) _ (hAN.ext (by with_reducible repeat (first | exact Ext.refl _ | refine Ext.alloc ?_ _ | refine Ext.drewN ?_ _ | refine Ext.trans ?_ (by assumption)))) A n c d (by refine BL.ext (by assumption) ?_; (with_reducible repeat (first | exact Ext.refl _ | refine Ext.alloc ?_ _ | refine Ext.drewN ?_ _ | refine Ext.trans ?_ (by assumption)))) hn64 D m dc x (by refine BV.ext (by assumption) ?_; (with_reducible repeat (first | exact Ext.refl _ | refine Ext.alloc ?_ _ | refine Ext.drewN ?_ _ | refine Ext.trans ?_ (by assumption)))) (by omega) _ hs.out.w0 (hs.out.w1n (Nat.le_refl _)) (hs.out.big (Nat.le_refl _))).mono ?_)
          rintro e w9 ⟨A9, c9, d9, e9, rfl, H9, hb9, hE9⟩
          have hk9 := Blk.new w9 27 #[.slice A9 n c9, .int .i64 d9.wr, .int .i64 d9.ct, .int .i64 d9.tn, .bool d9.off]
          obtain rfl : e9 = e8 := H9.out.2.trans H8.out.2.symm
          have hd9 := Lib.hid (H9.out.1.trans H8.out.1.symm)
          go_wp2_with (first | ((with_reducible (show wpList _ _ _ (⟨_, Op.load _ _, _, _, _, _⟩ :: _) _ _)); refine wpList_ldB rfl _ _ rfl _ rfl (by refine Blk.ext (by assumption) ?_; (with_reducible repeat (first | exact Ext.refl _ | refine Ext.alloc ?_ _ | refine Ext.drewN ?_ _ | refine Ext.trans ?_ (by assumption)))) (by kernel_rfl) (by kernel_rfl) ?_) | (go_at_call 21; go_loud (refine (sameD_eq (P := (fun k => k ≠ w3.heap.size)) (P' := (fun k => k ≠ w3.heap.size)) _ _ _ _ _ _ _ _ _ (by first | exact hd7.out | exact hd9.out) (by refine BL.ext (by assumption) ?_; (with_reducible repeat (first | exact Ext.refl _ | refine Ext.alloc ?_ _ | refine Ext.drewN ?_ _ | refine Ext.trans ?_ (by assumption)))) (by refine BL.ext (by assumption) ?_; (with_reducible repeat (first | exact Ext.refl _ | refine Ext.alloc ?_ _ | refine Ext.drewN ?_ _ | refine Ext.trans ?_ (by assumption))))).mono ?_; rintro e w10 ⟨rfl, hE10⟩)))
          go_roundw
          case rel => exact ⟨a + 1, by omega, by omega, by go_num, (by with_reducible repeat (first | exact Ext.refl _ | refine Ext.alloc ?_ _ | refine Ext.drewN ?_ _ | refine Ext.trans ?_ (by assumption)))⟩
          case measure => simp [intOf]; omega
        · go_wp2_with ((with_reducible (show wpList _ _ _ (⟨_, Op.load _ _, _, _, _, _⟩ :: _) _ _)); refine wpList_ldB rfl _ _ rfl _ rfl (by refine Blk.ext (by assumption) ?_; (with_reducible repeat (first | exact Ext.refl _ | refine Ext.alloc ?_ _ | refine Ext.drewN ?_ _ | refine Ext.trans ?_ (by assumption)))) (by kernel_rfl) (by kernel_rfl) ?_)
          go_loud (refine (write_calls (fun k => k ≠ w3.heap.size) _ (hAN.ext (by with_reducible repeat (first | exact Ext.refl _ | refine Ext.alloc ?_ _ | refine Ext.drewN ?_ _ | refine Ext.trans ?_ (by assumption)))) A n c d (by refine BL.ext (by assumption) ?_; (with_reducible repeat (first | exact Ext.refl _ | refine Ext.alloc ?_ _ | refine Ext.drewN ?_ _ | refine Ext.trans ?_ (by assumption)))) hn64 D m dc x (by refine BV.ext (by assumption) ?_; (with_reducible repeat (first | exact Ext.refl _ | refine Ext.alloc ?_ _ | refine Ext.drewN ?_ _ | refine Ext.trans ?_ (by assumption)))) (by omega) _ hs.out.w0 (hs.out.w1n (Nat.le_refl _)) (hs.out.big (Nat.le_refl _))).mono ?_)
          rintro e w6 ⟨A6, c6, d6, e6, rfl, H6, hb6, hE6⟩
          have hk6 := Blk.new w6 27 #[.slice A6 n c6, .int .i64 d6.wr, .int .i64 d6.ct, .int .i64 d6.tn, .bool d6.off]
          go_wp2_with ((with_reducible (show wpList _ _ _ (⟨_, Op.load _ _, _, _, _, _⟩ :: _) _ _)); refine wpList_ldB rfl _ _ rfl _ rfl (by refine Blk.ext (by assumption) ?_; (with_reducible repeat (first | exact Ext.refl _ | refine Ext.alloc ?_ _ | refine Ext.drewN ?_ _ | refine Ext.trans ?_ (by assumption)))) (by kernel_rfl) (by kernel_rfl) ?_)
          go_loud (refine (writeR_calls (fun k => k ≠ w3.heap.size) _ (hAN.ext (by with_reducible repeat (first | exact Ext.refl _ | refine Ext.alloc ?_ _ | refine Ext.drewN ?_ _ | refine Ext.trans ?_ (by assumption)))) A n c d (by refine BL.ext (by assumption) ?_; (with_reducible repeat (first | exact Ext.refl _ | refine Ext.alloc ?_ _ | refine Ext.drewN ?_ _ | refine Ext.trans ?_ (by assumption)))) hn64 D m dc x (by refine BV.ext (by assumption) ?_; (with_reducible repeat (first | exact Ext.refl _ | refine Ext.alloc ?_ _ | refine Ext.drewN ?_ _ | refine Ext.trans ?_ (by assumption)))) (by omega) _ hs.out.w0 (hs.out.w1n (Nat.le_refl _)) (hs.out.big (Nat.le_refl _))).mono ?_)
          rintro e w7 ⟨A7, c7, d7, e7, rfl, H7, hb7, hE7⟩
          have hk7 := Blk.new w7 27 #[.slice A7 n c7, .int .i64 d7.wr, .int .i64 d7.ct, .int .i64 d7.tn, .bool d7.off]
          obtain rfl : e7 = e6 := H7.out.2.trans H6.out.2.symm
          go_wp2
          go_ret
          exact ⟨by simp, hEl.out.trans (by with_reducible repeat (first | exact Ext.refl _ | refine Ext.alloc ?_ _ | refine Ext.drewN ?_ _ | refine Ext.trans ?_ (by assumption)))⟩
    · go_ret
      exact ⟨rfl, hE1.trans hE2⟩
  | true =>
    go_enter Try.func4, Try.ntmps4
    go_upto_region 8 with (first | (go_at_call 9; go_loud (refine (awake_calls w).mono ?_; rintro e w1 ⟨rfl, hE1⟩)) | (go_at_call 10; go_loud (refine (few_calls w1 T tn tc ts (ht.ext hE1)).mono ?_; rintro e w2 ⟨b, rfl, HB, hE2⟩)) | (go_at_call 11; go_loud (refine (play_calls (fun _ => True) w2 (Anew.top _) k0 O on oc ol ((ho.ext (hE1.trans hE2)).mono (fun _ _ => trivial)) T tn tc ts ((ht.ext (hE1.trans hE2)).mono (fun _ _ => trivial)) (HB.out (by first | assumption | simpa using (by assumption : (!b) = false))).2 at' torn).mono ?_; rintro e w3 ⟨A, n, c, d, rfl, hn64, HS, hb3, hE3⟩; have HD := Lib.hid (DBox.start hb3 HS.out (hE1.trans (hE2.trans hE3))))) | (go_at_call 16; go_loud (refine (restartR_calls (fun k => k ≠ w3.heap.size) _ (by intro k hk; simp at hk; omega) A n c d HD.out.2.1).mono ?_; rintro e w4 ⟨A4, c4, d4, rfl, H4, hb4, hE4⟩; have hz4 := HD.out.1.lt; have hz4' := hE4.size)) | (go_at_call 15; go_loud (refine (cutR_calls (fun k => k ≠ w3.heap.size) w4 (by intro k hk; omega) A4 n c4 d4 hb4 1 torn).mono ?_; rintro e w5 ⟨A5, c5, d5, rfl, H5, hb5, hE5⟩; have HD2 := Lib.hid (DBox.store HD.out hb5 (hE4.trans hE5) (by rw [H5.out, H4.out]; exact small_cut (small_restart HS.out) _ _)); have f6 := (HD.out.1.ext (hE4.trans hE5)).free; obtain ⟨q0, q1, q2, q3, q4⟩ := (HD.out.1.ext (hE4.trans hE5)).c5)))
    · go_ret
      exact ⟨rfl, hE1.trans hE2⟩
    · refine wp_forget (fun wl => ∃ A c d, Hid (DBox w wl w3.heap.size A n c d)) ⟨A5, c5, d5, HD2⟩ ?_
      clear hE4 hE5 hb4 hb5 H4 H5 HD2 q0 q1 q2 q3 q4 f6 hE1 hE2 hE3 hb3 HD HS
      rintro wl ⟨A, c, d, HB⟩
      have hBk := HB.out.1
      have hbl := HB.out.2.1
      have hxl := hx.ext HB.out.2.2.2.1
      have hEl := Lib.hid HB.out.2.2.2.1
      have hs := Lib.hid HB.out.2.2.1
      have hAN : Anew wl (fun k => k ≠ w3.heap.size) := fun k hk => by have := hBk.lt; omega
      clear HB hx ho ht
      go_wp2_with fail
      go_loopw [18, 20, 22, 24, 26] (fun i _ _ _ _ wr => ∃ a : Int, -1 ≤ a ∧ a ≤ 9 ∧ i = .int .i64 a ∧ Ext wl wr) (fun i _ _ _ _ _ => (9 - intOf i).toNat)
      case atStart => exact ⟨-1, by omega, by omega, rfl, Ext.refl _⟩
      case round =>
        obtain ⟨a, ha1, ha2, rfl, hE⟩ := hrel
        by_cases hlt : a < 9
        · go_wp2_with ((with_reducible (show wpList _ _ _ (⟨_, Op.load _ _, _, _, _, _⟩ :: _) _ _)); refine wpList_ldB rfl _ _ rfl _ rfl (by refine Blk.ext (by assumption) ?_; (with_reducible repeat (first | exact Ext.refl _ | refine Ext.alloc ?_ _ | refine Ext.drewN ?_ _ | refine Ext.trans ?_ (by assumption)))) (by kernel_rfl) (by kernel_rfl) ?_)
          go_loud (refine (write_calls (fun k => k ≠ w3.heap.size) _ (hAN.ext (by with_reducible repeat (first | exact Ext.refl _ | refine Ext.alloc ?_ _ | refine Ext.drewN ?_ _ | refine Ext.trans ?_ (by assumption)))) A n c d (by refine BL.ext (by assumption) ?_; (with_reducible repeat (first | exact Ext.refl _ | refine Ext.alloc ?_ _ | refine Ext.drewN ?_ _ | refine Ext.trans ?_ (by assumption)))) hn64 D m dc x (by refine BV.ext (by assumption) ?_; (with_reducible repeat (first | exact Ext.refl _ | refine Ext.alloc ?_ _ | refine Ext.drewN ?_ _ | refine Ext.trans ?_ (by assumption)))) (by omega) _ hs.out.w0 (hs.out.w1n (Nat.le_refl _)) (hs.out.big (Nat.le_refl _))).mono ?_)
          rintro e w6 ⟨A6, c6, d6, e6, rfl, H6, hb6, hE6⟩
          have hk6 := Blk.new w6 27 #[.slice A6 n c6, .int .i64 d6.wr, .int .i64 d6.ct, .int .i64 d6.tn, .bool d6.off]
          go_wp2_with ((with_reducible (show wpList _ _ _ (⟨_, Op.load _ _, _, _, _, _⟩ :: _) _ _)); refine wpList_ldB rfl _ _ rfl _ rfl (by refine Blk.ext (by assumption) ?_; (with_reducible repeat (first | exact Ext.refl _ | refine Ext.alloc ?_ _ | refine Ext.drewN ?_ _ | refine Ext.trans ?_ (by assumption)))) (by kernel_rfl) (by kernel_rfl) ?_)
          go_loud (refine (writeR_calls (fun k => k ≠ w3.heap.size) _ (hAN.ext (by with_reducible repeat (first | exact Ext.refl _ | refine Ext.alloc ?_ _ | refine Ext.drewN ?_ _ | refine Ext.trans ?_ (by assumption)))) A n c d (by refine BL.ext (by assumption) ?_; (with_reducible repeat (first | exact Ext.refl _ | refine Ext.alloc ?_ _ | refine Ext.drewN ?_ _ | refine Ext.trans ?_ (by assumption)))) hn64 D m dc x (by refine BV.ext (by assumption) ?_; (with_reducible repeat (first | exact Ext.refl _ | refine Ext.alloc ?_ _ | refine Ext.drewN ?_ _ | refine Ext.trans ?_ (by assumption)))) (by omega) _ hs.out.w0 (hs.out.w1n (Nat.le_refl _)) (hs.out.big (Nat.le_refl _))).mono ?_)
          rintro e w7 ⟨A7, c7, d7, e7, rfl, H7, hb7, hE7⟩
          have hk7 := Blk.new w7 27 #[.slice A7 n c7, .int .i64 d7.wr, .int .i64 d7.ct, .int .i64 d7.tn, .bool d7.off]
          obtain rfl : e7 = e6 := H7.out.2.trans H6.out.2.symm
          have hd7 := Lib.hid (H7.out.1.trans H6.out.1.symm)
          go_wp2_with ((with_reducible (show wpList _ _ _ (⟨_, Op.load _ _, _, _, _, _⟩ :: _) _ _)); refine wpList_ldB rfl _ _ rfl _ rfl (by refine Blk.ext (by assumption) ?_; (with_reducible repeat (first | exact Ext.refl _ | refine Ext.alloc ?_ _ | refine Ext.drewN ?_ _ | refine Ext.trans ?_ (by assumption)))) (by kernel_rfl) (by kernel_rfl) ?_)
          go_loud (refine (append_calls (fun k => k ≠ w3.heap.size) _ (hAN.ext (by with_reducible repeat (first | exact Ext.refl _ | refine Ext.alloc ?_ _ | refine Ext.drewN ?_ _ | refine Ext.trans ?_ (by assumption)))) A n c d (by refine BL.ext (by assumption) ?_; (with_reducible repeat (first | exact Ext.refl _ | refine Ext.alloc ?_ _ | refine Ext.drewN ?_ _ | refine Ext.trans ?_ (by assumption)))) hn64 D m dc x (by refine BV.ext (by assumption) ?_; (with_reducible repeat (first | exact Ext.refl _ | refine Ext.alloc ?_ _ | refine Ext.drewN ?_ _ | refine Ext.trans ?_ (by assumption)))) (by omega) _ hs.out.w0 (hs.out.w1n (Nat.le_refl _)) (hs.out.big (Nat.le_refl _))).mono ?_)
          rintro e w8 ⟨A8, c8, d8, e8, rfl, H8, hb8, hE8⟩
          have hk8 := Blk.new w8 27 #[.slice A8 n c8, .int .i64 d8.wr, .int .i64 d8.ct, .int .i64 d8.tn, .bool d8.off]
          go_wp2_with ((with_reducible (show wpList _ _ _ (⟨_, Op.load _ _, _, _, _, _⟩ :: _) _ _)); refine wpList_ldB rfl _ _ rfl _ rfl (by refine Blk.ext (by assumption) ?_; (with_reducible repeat (first | exact Ext.refl _ | refine Ext.alloc ?_ _ | refine Ext.drewN ?_ _ | refine Ext.trans ?_ (by assumption)))) (by kernel_rfl) (by kernel_rfl) ?_)
          go_loud (refine (appendR_calls (fun k => k ≠ w3.heap.size) _ (hAN.ext (by with_reducible repeat (first | exact Ext.refl _ | refine Ext.alloc ?_ _ | refine Ext.drewN ?_ _ | refine Ext.trans ?_ (by assumption)))) A n c d (by refine BL.ext (by assumption) ?_; (with_reducible repeat (first | exact Ext.refl _ | refine Ext.alloc ?_ _ | refine Ext.drewN ?_ _ | refine Ext.trans ?_ (by assumption)))) hn64 D m dc x (by refine BV.ext (by assumption) ?_; (with_reducible repeat (first | exact Ext.refl _ | refine Ext.alloc ?_ _ | refine Ext.drewN ?_ _ | refine Ext.trans ?_ (by assumption)))) (by omega) _ hs.out.w0 (hs.out.w1n (Nat.le_refl _)) (hs.out.big (Nat.le_refl _))).mono ?_)
          rintro e w9 ⟨A9, c9, d9, e9, rfl, H9, hb9, hE9⟩
          have hk9 := Blk.new w9 27 #[.slice A9 n c9, .int .i64 d9.wr, .int .i64 d9.ct, .int .i64 d9.tn, .bool d9.off]
          obtain rfl : e9 = e8 := H9.out.2.trans H8.out.2.symm
          have hd9 := Lib.hid (H9.out.1.trans H8.out.1.symm)
          go_wp2_with (first | ((with_reducible (show wpList _ _ _ (⟨_, Op.load _ _, _, _, _, _⟩ :: _) _ _)); refine wpList_ldB rfl _ _ rfl _ rfl (by refine Blk.ext (by assumption) ?_; (with_reducible repeat (first | exact Ext.refl _ | refine Ext.alloc ?_ _ | refine Ext.drewN ?_ _ | refine Ext.trans ?_ (by assumption)))) (by kernel_rfl) (by kernel_rfl) ?_) | (go_at_call 21; go_loud (refine (sameD_eq (P := (fun k => k ≠ w3.heap.size)) (P' := (fun k => k ≠ w3.heap.size)) _ _ _ _ _ _ _ _ _ (by first | exact hd7.out | exact hd9.out) (by refine BL.ext (by assumption) ?_; (with_reducible repeat (first | exact Ext.refl _ | refine Ext.alloc ?_ _ | refine Ext.drewN ?_ _ | refine Ext.trans ?_ (by assumption)))) (by refine BL.ext (by assumption) ?_; (with_reducible repeat (first | exact Ext.refl _ | refine Ext.alloc ?_ _ | refine Ext.drewN ?_ _ | refine Ext.trans ?_ (by assumption))))).mono ?_; rintro e w10 ⟨rfl, hE10⟩)))
          go_roundw
          case rel => exact ⟨a + 1, by omega, by omega, by go_num, (by with_reducible repeat (first | exact Ext.refl _ | refine Ext.alloc ?_ _ | refine Ext.drewN ?_ _ | refine Ext.trans ?_ (by assumption)))⟩
          case measure => simp [intOf]; omega
        · go_wp2_with ((with_reducible (show wpList _ _ _ (⟨_, Op.load _ _, _, _, _, _⟩ :: _) _ _)); refine wpList_ldB rfl _ _ rfl _ rfl (by refine Blk.ext (by assumption) ?_; (with_reducible repeat (first | exact Ext.refl _ | refine Ext.alloc ?_ _ | refine Ext.drewN ?_ _ | refine Ext.trans ?_ (by assumption)))) (by kernel_rfl) (by kernel_rfl) ?_)
          go_loud (refine (write_calls (fun k => k ≠ w3.heap.size) _ (hAN.ext (by with_reducible repeat (first | exact Ext.refl _ | refine Ext.alloc ?_ _ | refine Ext.drewN ?_ _ | refine Ext.trans ?_ (by assumption)))) A n c d (by refine BL.ext (by assumption) ?_; (with_reducible repeat (first | exact Ext.refl _ | refine Ext.alloc ?_ _ | refine Ext.drewN ?_ _ | refine Ext.trans ?_ (by assumption)))) hn64 D m dc x (by refine BV.ext (by assumption) ?_; (with_reducible repeat (first | exact Ext.refl _ | refine Ext.alloc ?_ _ | refine Ext.drewN ?_ _ | refine Ext.trans ?_ (by assumption)))) (by omega) _ hs.out.w0 (hs.out.w1n (Nat.le_refl _)) (hs.out.big (Nat.le_refl _))).mono ?_)
          rintro e w6 ⟨A6, c6, d6, e6, rfl, H6, hb6, hE6⟩
          have hk6 := Blk.new w6 27 #[.slice A6 n c6, .int .i64 d6.wr, .int .i64 d6.ct, .int .i64 d6.tn, .bool d6.off]
          go_wp2_with ((with_reducible (show wpList _ _ _ (⟨_, Op.load _ _, _, _, _, _⟩ :: _) _ _)); refine wpList_ldB rfl _ _ rfl _ rfl (by refine Blk.ext (by assumption) ?_; (with_reducible repeat (first | exact Ext.refl _ | refine Ext.alloc ?_ _ | refine Ext.drewN ?_ _ | refine Ext.trans ?_ (by assumption)))) (by kernel_rfl) (by kernel_rfl) ?_)
          go_loud (refine (writeR_calls (fun k => k ≠ w3.heap.size) _ (hAN.ext (by with_reducible repeat (first | exact Ext.refl _ | refine Ext.alloc ?_ _ | refine Ext.drewN ?_ _ | refine Ext.trans ?_ (by assumption)))) A n c d (by refine BL.ext (by assumption) ?_; (with_reducible repeat (first | exact Ext.refl _ | refine Ext.alloc ?_ _ | refine Ext.drewN ?_ _ | refine Ext.trans ?_ (by assumption)))) hn64 D m dc x (by refine BV.ext (by assumption) ?_; (with_reducible repeat (first | exact Ext.refl _ | refine Ext.alloc ?_ _ | refine Ext.drewN ?_ _ | refine Ext.trans ?_ (by assumption)))) (by omega) _ hs.out.w0 (hs.out.w1n (Nat.le_refl _)) (hs.out.big (Nat.le_refl _))).mono ?_)
          rintro e w7 ⟨A7, c7, d7, e7, rfl, H7, hb7, hE7⟩
          have hk7 := Blk.new w7 27 #[.slice A7 n c7, .int .i64 d7.wr, .int .i64 d7.ct, .int .i64 d7.tn, .bool d7.off]
          obtain rfl : e7 = e6 := H7.out.2.trans H6.out.2.symm
          go_wp2
          go_ret
          exact ⟨by simp, hEl.out.trans (by with_reducible repeat (first | exact Ext.refl _ | refine Ext.alloc ?_ _ | refine Ext.drewN ?_ _ | refine Ext.trans ?_ (by assumption)))⟩
    · go_ret
      exact ⟨rfl, hE1.trans hE2⟩
end Go.Proofs.Ythbpddblejnjjaa
