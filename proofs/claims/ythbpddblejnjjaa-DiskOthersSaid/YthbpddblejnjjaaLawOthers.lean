/- DiskOthers: the walk. -/
import Derived.Test.YthbpddblejnjjaaLawWrite
namespace Go.Proofs.Ythbpddblejnjjaa
set_option linter.all false
open Go.RowKit

theorem putS_len (f : List UInt8 → Nat → List UInt8) (d : Dk) (area : Int) (n : Nat) : (putS f d area n).areas.length = d.areas.length := by
  unfold putS; split
  · rfl
  · split
    · rfl
    · split
      · rfl
      · simp
theorem putS_other (f : List UInt8 → Nat → List UInt8) (d : Dk) (area : Int) (n : Nat) (a : Nat) (h : (a : Int) ≠ area) : (putS f d area n).areas[a]? = d.areas[a]? := by
  unfold putS; split
  · rfl
  · split
    · rfl
    · split
      · rfl
      · simp only [List.getElem?_set]; rw [if_neg (by omega)]
theorem same_other {P P' : Nat → Prop} (f : List UInt8 → Nat → List UInt8) (d d' : Dk) (area : Int) (n : Nat) (a : Nat) (h : (a : Int) ≠ area) (hd : d' = putS f d area n) (w : World) (A B : Option Addr) (n1 c1 n2 c2 : Nat) (h1 : a < d.areas.length) (h2 : a < d'.areas.length)
    (hb : BV w P' A n1 c1 d'.areas[a]) (ha : BV w P B n2 c2 d.areas[a]) : Calls Try.prog 14 #[.slice A n1 c1, .slice B n2 c2] w fun e w' => e = .returned (.bool true) ∧ Quiet w w' := by
  have he : d'.areas[a] = d.areas[a] := by
    have := putS_other f d area n a h
    rw [← hd, List.getElem?_eq_getElem h1, List.getElem?_eq_getElem h2] at this
    exact Option.some.inj this
  rw [he] at hb
  exact same_true w A B n1 c1 n2 c2 _ hb ha


set_option maxRecDepth 20000 in
set_option maxHeartbeats 2000000 in
theorem diskOthers_walk {P P' PX : Nat → Prop} (w : World) (k0 : Int) (O : Option Addr) (on oc : Nat) (ol : List UInt8) (ho : BV w P O on oc ol) (T : Option Addr) (tn tc : Nat) (ts : List (List UInt8)) (ht : BL w P' T tn tc ts) (area : Int) (D : Option Addr) (m dc : Nat) (x : List UInt8) (hx : BV w PX D m dc x) (cut : Bool) :
    Calls Try.prog 6 #[.int .i64 k0, .slice O on oc, .slice T tn tc, .int .i64 area, .slice D m dc, .bool cut] w fun e w' => e = .returned (.bool true) ∧ Ext w w' := by
  cases cut with
  | false =>
    go_enter Try.func6, Try.ntmps6
    go_upto_region 8 with (first | (go_at_call 9; go_loud (refine (awake_calls w).mono ?_; rintro e w1 ⟨rfl, hE1⟩)) | (go_at_call 10; go_loud (refine (few_calls w1 T tn tc ts (ht.ext hE1)).mono ?_; rintro e w2 ⟨b, rfl, HB, hE2⟩)) | (go_at_call 11; go_loud (refine (play_calls (fun _ => True) w2 (Anew.top _) k0 O on oc ol ((ho.ext (hE1.trans hE2)).mono (fun _ _ => trivial)) T tn tc ts ((ht.ext (hE1.trans hE2)).mono (fun _ _ => trivial)) (HB.out (by first | assumption | simpa using (by assumption : (!b) = false))).2 0 0).mono ?_; rintro e w3 ⟨A0, n, c0, d0, rfl, hn64, HS, hb3, hE3⟩)) | (go_at_call 16; go_loud (refine (restartR_calls (fun _ => True) _ (Anew.top _) A0 n c0 d0 hb3).mono ?_; rintro e w4 ⟨A4, c4, d4, rfl, H4, hb4, hE4⟩; have HD := Lib.hid (DBox.start hb4 (by rw [H4.out]; exact small_restart HS.out) (hE1.trans (hE2.trans (hE3.trans hE4)))))) | (go_at_call 15; go_loud (refine (cutR_calls (fun k => k ≠ w4.heap.size) _ (by intro k hk; simp at hk; omega) A4 n c4 d4 HD.out.2.1 1 _).mono ?_; rintro e w5 ⟨A5, c5, d5, rfl, H5, hb5, hE5⟩; have HD2 := Lib.hid (DBox.store HD.out hb5 hE5 (by rw [H5.out, H4.out]; exact small_cut (small_restart HS.out) _ _)); have f6 := (HD.out.1.ext hE5).free; obtain ⟨q0, q1, q2, q3, q4⟩ := (HD.out.1.ext hE5).c5)))
    · go_ret
      exact ⟨rfl, hE1.trans hE2⟩
    · refine wp_forget (fun wl => ∃ A c d, Hid (DBox w wl w4.heap.size A n c d)) ⟨A4, c4, d4, HD⟩ ?_
      clear hE4 hb4 H4 hE1 hE2 hE3 hb3 HD HS
      rintro wl ⟨A, c, d, HB⟩
      have hBk := HB.out.1
      have hbl := HB.out.2.1
      have hxl := hx.ext HB.out.2.2.2.1
      have hEl := Lib.hid HB.out.2.2.2.1
      have hs := Lib.hid HB.out.2.2.1
      have hAN : Anew wl (fun k => k ≠ w4.heap.size) := fun k hk => by have := hBk.lt; omega
      clear HB hx ho ht
      go_wp2_with ((with_reducible (show wpList _ _ _ (⟨_, Op.load _ _, _, _, _, _⟩ :: _) _ _)); refine wpList_ldB rfl _ _ rfl _ rfl (by refine Blk.ext (by assumption) ?_; (with_reducible repeat (first | exact Ext.refl _ | refine Ext.alloc ?_ _ | refine Ext.drewN ?_ _ | refine Ext.trans ?_ (by assumption)))) (by kernel_rfl) (by kernel_rfl) ?_)
      go_loud (refine (write_calls (fun k => k ≠ w4.heap.size) _ (hAN.ext (by with_reducible repeat (first | exact Ext.refl _ | refine Ext.alloc ?_ _ | refine Ext.drewN ?_ _ | refine Ext.trans ?_ (by assumption)))) A n c d (by refine BL.ext (by assumption) ?_; (with_reducible repeat (first | exact Ext.refl _ | refine Ext.alloc ?_ _ | refine Ext.drewN ?_ _ | refine Ext.trans ?_ (by assumption)))) hn64 D m dc x (by refine BV.ext (by assumption) ?_; (with_reducible repeat (first | exact Ext.refl _ | refine Ext.alloc ?_ _ | refine Ext.drewN ?_ _ | refine Ext.trans ?_ (by assumption)))) (by omega) _ hs.out.w0 (hs.out.w1n (Nat.le_refl _)) (hs.out.big (Nat.le_refl _))).mono ?_)
      rintro e w6 ⟨A6, c6, d6, e6, rfl, H6, hb6, hE6⟩
      have hk6 := Blk.new w6 27 #[.slice A6 n c6, .int .i64 d6.wr, .int .i64 d6.ct, .int .i64 d6.tn, .bool d6.off]
      go_wp2_with ((with_reducible (show wpList _ _ _ (⟨_, Op.load _ _, _, _, _, _⟩ :: _) _ _)); refine wpList_ldB rfl _ _ rfl _ rfl (by refine Blk.ext (by assumption) ?_; (with_reducible repeat (first | exact Ext.refl _ | refine Ext.alloc ?_ _ | refine Ext.drewN ?_ _ | refine Ext.trans ?_ (by assumption)))) (by kernel_rfl) (by kernel_rfl) ?_)
      go_loud (refine (append_calls (fun k => k ≠ w4.heap.size) _ (hAN.ext (by with_reducible repeat (first | exact Ext.refl _ | refine Ext.alloc ?_ _ | refine Ext.drewN ?_ _ | refine Ext.trans ?_ (by assumption)))) A n c d (by refine BL.ext (by assumption) ?_; (with_reducible repeat (first | exact Ext.refl _ | refine Ext.alloc ?_ _ | refine Ext.drewN ?_ _ | refine Ext.trans ?_ (by assumption)))) hn64 D m dc x (by refine BV.ext (by assumption) ?_; (with_reducible repeat (first | exact Ext.refl _ | refine Ext.alloc ?_ _ | refine Ext.drewN ?_ _ | refine Ext.trans ?_ (by assumption)))) (by omega) _ hs.out.w0 (hs.out.w1n (Nat.le_refl _)) (hs.out.big (Nat.le_refl _))).mono ?_)
      rintro e w7 ⟨A7, c7, d7, e7, rfl, H7, hb7, hE7⟩
      have hk7 := Blk.new w7 27 #[.slice A7 n c7, .int .i64 d7.wr, .int .i64 d7.ct, .int .i64 d7.tn, .bool d7.off]
      have HL6 := Lib.hid (show d6.areas.length = d.areas.length by rw [H6.out.1]; exact putS_len _ _ _ _)
      have HL7 := Lib.hid (show d7.areas.length = d.areas.length by rw [H7.out.1]; exact putS_len _ _ _ _)
      go_upto_region 10 with fail
      refine wp_forget (fun w8 => Blk w8 w4.heap.size 27 #[.slice A n c, .int .i64 d.wr, .int .i64 d.ct, .int .i64 d.tn, .bool d.off] ∧ Blk w8 w6.heap.size 27 #[.slice A6 n c6, .int .i64 d6.wr, .int .i64 d6.ct, .int .i64 d6.tn, .bool d6.off] ∧ Blk w8 w7.heap.size 27 #[.slice A7 n c7, .int .i64 d7.wr, .int .i64 d7.ct, .int .i64 d7.tn, .bool d7.off] ∧ BL w8 (fun k => k ≠ w4.heap.size) A n c d.areas ∧ BL w8 (fun k => k ≠ w4.heap.size) A6 n c6 d6.areas ∧ BL w8 (fun k => k ≠ w4.heap.size) A7 n c7 d7.areas ∧ Ext wl w8) ⟨(by refine Blk.ext (by assumption) ?_; (with_reducible repeat (first | exact Ext.refl _ | refine Ext.alloc ?_ _ | refine Ext.drewN ?_ _ | refine Ext.trans ?_ (by assumption)))), (by refine Blk.ext (by assumption) ?_; (with_reducible repeat (first | exact Ext.refl _ | refine Ext.alloc ?_ _ | refine Ext.drewN ?_ _ | refine Ext.trans ?_ (by assumption)))), (by refine Blk.ext (by assumption) ?_; (with_reducible repeat (first | exact Ext.refl _ | refine Ext.alloc ?_ _ | refine Ext.drewN ?_ _ | refine Ext.trans ?_ (by assumption)))), (by refine BL.ext (by assumption) ?_; (with_reducible repeat (first | exact Ext.refl _ | refine Ext.alloc ?_ _ | refine Ext.drewN ?_ _ | refine Ext.trans ?_ (by assumption)))), (by refine BL.ext (by assumption) ?_; (with_reducible repeat (first | exact Ext.refl _ | refine Ext.alloc ?_ _ | refine Ext.drewN ?_ _ | refine Ext.trans ?_ (by assumption)))), (by refine BL.ext (by assumption) ?_; (with_reducible repeat (first | exact Ext.refl _ | refine Ext.alloc ?_ _ | refine Ext.drewN ?_ _ | refine Ext.trans ?_ (by assumption)))), (by with_reducible repeat (first | exact Ext.refl _ | refine Ext.alloc ?_ _ | refine Ext.drewN ?_ _ | refine Ext.trans ?_ (by assumption)))⟩ ?_
      clear hBk hbl hxl hAN hE6 hE7 hb6 hb7 hk6 hk7
      rintro w8 ⟨B4, B6, B7, b4, b6, b7, hE8⟩
      have p4 := B4.c5.1
      have p6 := B6.c5.1
      have p7 := B7.c5.1
      go_wp2_with fail
      clear p4 p6 p7
      go_loopw [18] (fun i wr => ∃ a : Nat, a ≤ n ∧ i = .int .i64 a ∧ Quiet w8 wr) (fun i _ => n - (intOf i).toNat)
      case atStart => exact ⟨0, Nat.zero_le _, rfl, Quiet.refl _⟩
      case round =>
        obtain ⟨a, ha, rfl, hQ⟩ := hrel
        have p4 := (B4.ext hQ.ext).c5.1
        have p6 := (B6.ext hQ.ext).c5.1
        have p7 := (B7.ext hQ.ext).c5.1
        by_cases hlt : a < n
        · obtain ⟨u4, o4, rfl, hl3, A1, n1, c1, y4, z4⟩ := (b4.ext hQ.ext).at_ hlt
          obtain ⟨u6, o6, rfl, hl6, A2, n2, c2, y6, z6⟩ := (b6.ext hQ.ext).at_ hlt
          obtain ⟨u7, o7, rfl, hl7, A3, n3, c3, y7, z7⟩ := (b7.ext hQ.ext).at_ hlt
          by_cases hne : (a : Int) = bits BinOp.and IntKind.i64 area 7
          · have hx' : (((a : Int)) != bits BinOp.and IntKind.i64 area 7) = false := by simp [hne]
            have HN := Lib.hid hne
            clear hne
            go_wp2_with fail
            go_quiet (fail)
            go_wp2
            go_roundw
            case rel => exact ⟨a + 1, by omega, by go_num, hQ.drewN _⟩
            case measure => simp [intOf]; omega
          · have hx' : (((a : Int)) != bits BinOp.and IntKind.i64 area 7) = true := by simp [hne]
            have HN := Lib.hid hne
            clear hne
            have hne := HN
            clear HN
            go_wp2_with fail
            go_quiet ((go_at_call 14; first | exact quiet_call (same_other _ d d6 _ _ a hne.out (H6.out.1) _ _ _ _ _ _ _ hl3 hl6 (by refine BV.ext (by assumption) (Ext.drewN ?_ _); (with_reducible repeat (first | exact Ext.refl _ | refine Ext.alloc ?_ _ | refine Ext.drewN ?_ _ | refine Ext.trans ?_ (by assumption)))) (by refine BV.ext (by assumption) (Ext.drewN ?_ _); (with_reducible repeat (first | exact Ext.refl _ | refine Ext.alloc ?_ _ | refine Ext.drewN ?_ _ | refine Ext.trans ?_ (by assumption))))) | exact quiet_call (same_other _ d d7 _ _ a hne.out (H7.out.1) _ _ _ _ _ _ _ hl3 hl7 (by refine BV.ext (by assumption) (Ext.drewN ?_ _); (with_reducible repeat (first | exact Ext.refl _ | refine Ext.alloc ?_ _ | refine Ext.drewN ?_ _ | refine Ext.trans ?_ (by assumption)))) (by refine BV.ext (by assumption) (Ext.drewN ?_ _); (with_reducible repeat (first | exact Ext.refl _ | refine Ext.alloc ?_ _ | refine Ext.drewN ?_ _ | refine Ext.trans ?_ (by assumption)))))))
            go_wp2
            go_roundw
            case rel => exact ⟨a + 1, by omega, by go_num, hQ.drewN _⟩
            case measure => simp [intOf]; omega
        · go_wp2
          go_ret
          exact ⟨rfl, hEl.out.trans (hE8.trans hQ.ext)⟩
    · go_ret
      exact ⟨rfl, hE1.trans hE2⟩
  | true =>
    go_enter Try.func6, Try.ntmps6
    go_upto_region 8 with (first | (go_at_call 9; go_loud (refine (awake_calls w).mono ?_; rintro e w1 ⟨rfl, hE1⟩)) | (go_at_call 10; go_loud (refine (few_calls w1 T tn tc ts (ht.ext hE1)).mono ?_; rintro e w2 ⟨b, rfl, HB, hE2⟩)) | (go_at_call 11; go_loud (refine (play_calls (fun _ => True) w2 (Anew.top _) k0 O on oc ol ((ho.ext (hE1.trans hE2)).mono (fun _ _ => trivial)) T tn tc ts ((ht.ext (hE1.trans hE2)).mono (fun _ _ => trivial)) (HB.out (by first | assumption | simpa using (by assumption : (!b) = false))).2 0 0).mono ?_; rintro e w3 ⟨A0, n, c0, d0, rfl, hn64, HS, hb3, hE3⟩)) | (go_at_call 16; go_loud (refine (restartR_calls (fun _ => True) _ (Anew.top _) A0 n c0 d0 hb3).mono ?_; rintro e w4 ⟨A4, c4, d4, rfl, H4, hb4, hE4⟩; have HD := Lib.hid (DBox.start hb4 (by rw [H4.out]; exact small_restart HS.out) (hE1.trans (hE2.trans (hE3.trans hE4)))))) | (go_at_call 15; go_loud (refine (cutR_calls (fun k => k ≠ w4.heap.size) _ (by intro k hk; simp at hk; omega) A4 n c4 d4 HD.out.2.1 1 _).mono ?_; rintro e w5 ⟨A5, c5, d5, rfl, H5, hb5, hE5⟩; have HD2 := Lib.hid (DBox.store HD.out hb5 hE5 (by rw [H5.out, H4.out]; exact small_cut (small_restart HS.out) _ _)); have f6 := (HD.out.1.ext hE5).free; obtain ⟨q0, q1, q2, q3, q4⟩ := (HD.out.1.ext hE5).c5)))
    · go_ret
      exact ⟨rfl, hE1.trans hE2⟩
    · refine wp_forget (fun wl => ∃ A c d, Hid (DBox w wl w4.heap.size A n c d)) ⟨A5, c5, d5, HD2⟩ ?_
      clear hE4 hE5 hb4 hb5 H4 H5 HD2 q0 q1 q2 q3 q4 f6 hE1 hE2 hE3 hb3 HD HS
      rintro wl ⟨A, c, d, HB⟩
      have hBk := HB.out.1
      have hbl := HB.out.2.1
      have hxl := hx.ext HB.out.2.2.2.1
      have hEl := Lib.hid HB.out.2.2.2.1
      have hs := Lib.hid HB.out.2.2.1
      have hAN : Anew wl (fun k => k ≠ w4.heap.size) := fun k hk => by have := hBk.lt; omega
      clear HB hx ho ht
      go_wp2_with ((with_reducible (show wpList _ _ _ (⟨_, Op.load _ _, _, _, _, _⟩ :: _) _ _)); refine wpList_ldB rfl _ _ rfl _ rfl (by refine Blk.ext (by assumption) ?_; (with_reducible repeat (first | exact Ext.refl _ | refine Ext.alloc ?_ _ | refine Ext.drewN ?_ _ | refine Ext.trans ?_ (by assumption)))) (by kernel_rfl) (by kernel_rfl) ?_)
      go_loud (refine (write_calls (fun k => k ≠ w4.heap.size) _ (hAN.ext (by with_reducible repeat (first | exact Ext.refl _ | refine Ext.alloc ?_ _ | refine Ext.drewN ?_ _ | refine Ext.trans ?_ (by assumption)))) A n c d (by refine BL.ext (by assumption) ?_; (with_reducible repeat (first | exact Ext.refl _ | refine Ext.alloc ?_ _ | refine Ext.drewN ?_ _ | refine Ext.trans ?_ (by assumption)))) hn64 D m dc x (by refine BV.ext (by assumption) ?_; (with_reducible repeat (first | exact Ext.refl _ | refine Ext.alloc ?_ _ | refine Ext.drewN ?_ _ | refine Ext.trans ?_ (by assumption)))) (by omega) _ hs.out.w0 (hs.out.w1n (Nat.le_refl _)) (hs.out.big (Nat.le_refl _))).mono ?_)
      rintro e w6 ⟨A6, c6, d6, e6, rfl, H6, hb6, hE6⟩
      have hk6 := Blk.new w6 27 #[.slice A6 n c6, .int .i64 d6.wr, .int .i64 d6.ct, .int .i64 d6.tn, .bool d6.off]
      go_wp2_with ((with_reducible (show wpList _ _ _ (⟨_, Op.load _ _, _, _, _, _⟩ :: _) _ _)); refine wpList_ldB rfl _ _ rfl _ rfl (by refine Blk.ext (by assumption) ?_; (with_reducible repeat (first | exact Ext.refl _ | refine Ext.alloc ?_ _ | refine Ext.drewN ?_ _ | refine Ext.trans ?_ (by assumption)))) (by kernel_rfl) (by kernel_rfl) ?_)
      go_loud (refine (append_calls (fun k => k ≠ w4.heap.size) _ (hAN.ext (by with_reducible repeat (first | exact Ext.refl _ | refine Ext.alloc ?_ _ | refine Ext.drewN ?_ _ | refine Ext.trans ?_ (by assumption)))) A n c d (by refine BL.ext (by assumption) ?_; (with_reducible repeat (first | exact Ext.refl _ | refine Ext.alloc ?_ _ | refine Ext.drewN ?_ _ | refine Ext.trans ?_ (by assumption)))) hn64 D m dc x (by refine BV.ext (by assumption) ?_; (with_reducible repeat (first | exact Ext.refl _ | refine Ext.alloc ?_ _ | refine Ext.drewN ?_ _ | refine Ext.trans ?_ (by assumption)))) (by omega) _ hs.out.w0 (hs.out.w1n (Nat.le_refl _)) (hs.out.big (Nat.le_refl _))).mono ?_)
      rintro e w7 ⟨A7, c7, d7, e7, rfl, H7, hb7, hE7⟩
      have hk7 := Blk.new w7 27 #[.slice A7 n c7, .int .i64 d7.wr, .int .i64 d7.ct, .int .i64 d7.tn, .bool d7.off]
      have HL6 := Lib.hid (show d6.areas.length = d.areas.length by rw [H6.out.1]; exact putS_len _ _ _ _)
      have HL7 := Lib.hid (show d7.areas.length = d.areas.length by rw [H7.out.1]; exact putS_len _ _ _ _)
      go_upto_region 10 with fail
      refine wp_forget (fun w8 => Blk w8 w4.heap.size 27 #[.slice A n c, .int .i64 d.wr, .int .i64 d.ct, .int .i64 d.tn, .bool d.off] ∧ Blk w8 w6.heap.size 27 #[.slice A6 n c6, .int .i64 d6.wr, .int .i64 d6.ct, .int .i64 d6.tn, .bool d6.off] ∧ Blk w8 w7.heap.size 27 #[.slice A7 n c7, .int .i64 d7.wr, .int .i64 d7.ct, .int .i64 d7.tn, .bool d7.off] ∧ BL w8 (fun k => k ≠ w4.heap.size) A n c d.areas ∧ BL w8 (fun k => k ≠ w4.heap.size) A6 n c6 d6.areas ∧ BL w8 (fun k => k ≠ w4.heap.size) A7 n c7 d7.areas ∧ Ext wl w8) ⟨(by refine Blk.ext (by assumption) ?_; (with_reducible repeat (first | exact Ext.refl _ | refine Ext.alloc ?_ _ | refine Ext.drewN ?_ _ | refine Ext.trans ?_ (by assumption)))), (by refine Blk.ext (by assumption) ?_; (with_reducible repeat (first | exact Ext.refl _ | refine Ext.alloc ?_ _ | refine Ext.drewN ?_ _ | refine Ext.trans ?_ (by assumption)))), (by refine Blk.ext (by assumption) ?_; (with_reducible repeat (first | exact Ext.refl _ | refine Ext.alloc ?_ _ | refine Ext.drewN ?_ _ | refine Ext.trans ?_ (by assumption)))), (by refine BL.ext (by assumption) ?_; (with_reducible repeat (first | exact Ext.refl _ | refine Ext.alloc ?_ _ | refine Ext.drewN ?_ _ | refine Ext.trans ?_ (by assumption)))), (by refine BL.ext (by assumption) ?_; (with_reducible repeat (first | exact Ext.refl _ | refine Ext.alloc ?_ _ | refine Ext.drewN ?_ _ | refine Ext.trans ?_ (by assumption)))), (by refine BL.ext (by assumption) ?_; (with_reducible repeat (first | exact Ext.refl _ | refine Ext.alloc ?_ _ | refine Ext.drewN ?_ _ | refine Ext.trans ?_ (by assumption)))), (by with_reducible repeat (first | exact Ext.refl _ | refine Ext.alloc ?_ _ | refine Ext.drewN ?_ _ | refine Ext.trans ?_ (by assumption)))⟩ ?_
      clear hBk hbl hxl hAN hE6 hE7 hb6 hb7 hk6 hk7
      rintro w8 ⟨B4, B6, B7, b4, b6, b7, hE8⟩
      have p4 := B4.c5.1
      have p6 := B6.c5.1
      have p7 := B7.c5.1
      go_wp2_with fail
      clear p4 p6 p7
      go_loopw [18] (fun i wr => ∃ a : Nat, a ≤ n ∧ i = .int .i64 a ∧ Quiet w8 wr) (fun i _ => n - (intOf i).toNat)
      case atStart => exact ⟨0, Nat.zero_le _, rfl, Quiet.refl _⟩
      case round =>
        obtain ⟨a, ha, rfl, hQ⟩ := hrel
        have p4 := (B4.ext hQ.ext).c5.1
        have p6 := (B6.ext hQ.ext).c5.1
        have p7 := (B7.ext hQ.ext).c5.1
        by_cases hlt : a < n
        · obtain ⟨u4, o4, rfl, hl3, A1, n1, c1, y4, z4⟩ := (b4.ext hQ.ext).at_ hlt
          obtain ⟨u6, o6, rfl, hl6, A2, n2, c2, y6, z6⟩ := (b6.ext hQ.ext).at_ hlt
          obtain ⟨u7, o7, rfl, hl7, A3, n3, c3, y7, z7⟩ := (b7.ext hQ.ext).at_ hlt
          by_cases hne : (a : Int) = bits BinOp.and IntKind.i64 area 7
          · have hx' : (((a : Int)) != bits BinOp.and IntKind.i64 area 7) = false := by simp [hne]
            have HN := Lib.hid hne
            clear hne
            go_wp2_with fail
            go_quiet (fail)
            go_wp2
            go_roundw
            case rel => exact ⟨a + 1, by omega, by go_num, hQ.drewN _⟩
            case measure => simp [intOf]; omega
          · have hx' : (((a : Int)) != bits BinOp.and IntKind.i64 area 7) = true := by simp [hne]
            have HN := Lib.hid hne
            clear hne
            have hne := HN
            clear HN
            go_wp2_with fail
            go_quiet ((go_at_call 14; first | exact quiet_call (same_other _ d d6 _ _ a hne.out (H6.out.1) _ _ _ _ _ _ _ hl3 hl6 (by refine BV.ext (by assumption) (Ext.drewN ?_ _); (with_reducible repeat (first | exact Ext.refl _ | refine Ext.alloc ?_ _ | refine Ext.drewN ?_ _ | refine Ext.trans ?_ (by assumption)))) (by refine BV.ext (by assumption) (Ext.drewN ?_ _); (with_reducible repeat (first | exact Ext.refl _ | refine Ext.alloc ?_ _ | refine Ext.drewN ?_ _ | refine Ext.trans ?_ (by assumption))))) | exact quiet_call (same_other _ d d7 _ _ a hne.out (H7.out.1) _ _ _ _ _ _ _ hl3 hl7 (by refine BV.ext (by assumption) (Ext.drewN ?_ _); (with_reducible repeat (first | exact Ext.refl _ | refine Ext.alloc ?_ _ | refine Ext.drewN ?_ _ | refine Ext.trans ?_ (by assumption)))) (by refine BV.ext (by assumption) (Ext.drewN ?_ _); (with_reducible repeat (first | exact Ext.refl _ | refine Ext.alloc ?_ _ | refine Ext.drewN ?_ _ | refine Ext.trans ?_ (by assumption)))))))
            go_wp2
            go_roundw
            case rel => exact ⟨a + 1, by omega, by go_num, hQ.drewN _⟩
            case measure => simp [intOf]; omega
        · go_wp2
          go_ret
          exact ⟨rfl, hEl.out.trans (hE8.trans hQ.ext)⟩
    · go_ret
      exact ⟨rfl, hE1.trans hE2⟩
end Go.Proofs.Ythbpddblejnjjaa
