/- DiskTorn: the walk. -/
import Derived.Test.YthbpddblejnjjaaLawWrite
namespace Go.Proofs.Ythbpddblejnjjaa
set_option linter.all false
open Go.RowKit
attribute [local go_sem ↓ high] run_max_nm run_min_nm

def tornD (ol : List UInt8) (torn : Int) : Dk := cutDS (writeS (newS 2) 0 ol) 2 torn
def wantS (add : Bool) (ol x : List UInt8) (torn : Int) : List UInt8 := if add = true then ol ++ x.take (tornS torn x.length) else x.take (tornS torn x.length) ++ (if tornS torn x.length < ol.length then ol.drop (tornS torn x.length) else [])
theorem tornD_small {ol : List UInt8} (h : ol.length ≤ 60) (torn : Int) : Small (tornD ol torn) 1 := small_cut (small_write (small_new 2 0 0) h) _ _
theorem tornD_eq {ol : List UInt8} (h : ol.length ≤ 60) (torn : Int) : tornD ol torn = ⟨[ol, []], 1, 2, torn, false⟩ := by
  have h1 : ¬ 65536 < ol.length := by omega
  simp [tornD, writeS, putS, newS, cutDS, bringS, cutsS, write1S, List.replicate, h1]
theorem first_e {ol : List UInt8} (h : ol.length ≤ 60) {n : Nat} (hn : n = ol.length) : putE (newS 2) 0 n = 0 := by
  subst hn
  have h1 : ¬ 65536 < ol.length := by omega
  simp [putE, newS, cutsS, h1]
theorem put_torn {ol x : List UInt8} (h : ol.length ≤ 60) (hx : x.length ≤ 60) (torn : Int) {m : Nat} (hm : m = x.length) :
    writeS (tornD ol torn) 0 x = ⟨[wantS false ol x torn, []], 2, 2, torn, true⟩ ∧ appendS (tornD ol torn) 0 x = ⟨[wantS true ol x torn, []], 2, 2, torn, true⟩ ∧ putE (tornD ol torn) 0 m = 29 := by
  subst hm
  have h1 : ¬ 65536 < x.length := by omega
  rw [tornD_eq h]
  simp [writeS, appendS, putS, putE, bringS, cutsS, write1S, append1S, wantS, h1]
theorem after_torn (l : List UInt8) (torn : Int) (m : Nat) : putE ⟨[l, []], 2, 2, torn, true⟩ 1 m = 29 ∧ readE ⟨[l, []], 2, 2, torn, true⟩ 0 = 29 ∧ readE (restartS ⟨[l, []], 2, 2, torn, true⟩) 0 = 0 ∧ readS (restartS ⟨[l, []], 2, 2, torn, true⟩) 0 = l := by
  simp [putE, readE, readS, restartS]
theorem wantS_len {add : Bool} {ol x : List UInt8} {torn : Int} (h : ol.length ≤ 60) (hx : x.length ≤ 60) : (wantS add ol x torn).length ≤ 120 := by
  unfold wantS
  split
  · rw [List.length_append, List.length_take]; omega
  · rw [List.length_append, List.length_take]
    split
    · rw [List.length_drop]; omega
    · simp; omega
theorem same_eq {P P' : Nat → Prop} (w : World) (A B : Option Addr) (n c m d : Nat) (l r : List UInt8) (h : r = l) (ha : BV w P A n c l) (hb : BV w P' B m d r) :
    Calls Try.prog 14 #[.slice A n c, .slice B m d] w fun e w' => e = .returned (.bool true) ∧ Quiet w w' := by
  subst h; exact same_true w A B n c m d r ha hb
theorem torn_small {l : List UInt8} (h : l.length ≤ 120) (torn : Int) : Small ⟨[l, []], 2, 2, torn, true⟩ 16 := by
  refine ⟨by show (0 : Int) ≤ 2; omega, by show (2 : Int) ≤ (16 : Nat); omega, fun y hy => ?_⟩
  simp only [List.mem_cons, List.not_mem_nil, or_false] at hy
  rcases hy with rfl | rfl
  · omega
  · simp
theorem tornS_int (torn : Int) (m : Nat) : iMax 0 (iMin torn m) = (tornS torn m : Nat) := by
  unfold iMax iMin tornS; omega



set_option maxRecDepth 20000 in
set_option maxHeartbeats 2000000 in
theorem torn_first {P PX : Nat → Prop} (w : World) (O : Option Addr) (on oc : Nat) (ol : List UInt8) (ho : BV w P O on oc ol) (D : Option Addr) (m dc : Nat) (x : List UInt8) (hx : BV w PX D m dc x) (torn : Int) (add : Bool) (h1 : (on : Int) ≤ 60) (h2 : (m : Int) ≤ 60) :
    Calls Try.prog 8 #[.slice O on oc, .slice D m dc, .int .i64 torn, .bool add] w fun e w' => e = .returned (.bool true) ∧ Ext w w' := by
  have hol := Lib.hid ho.len
  have hxl := Lib.hid hx.len
  cases add with
  | false =>
    go_enter Try.func8, Try.ntmps8
    go_wp2_with (first | (go_at_call 9; go_loud (refine (awake_calls w).mono ?_; rintro e w1 ⟨rfl, hE1⟩)) | (go_at_call 22; go_loud (refine (newP_calls' (fun _ => True) _ (Anew.top _) 2 2 rfl).mono ?_; rintro e w2 ⟨A2, c2, d2, rfl, H2, hb2, hE2⟩)))
    go_loud (refine (write_calls (fun _ => True) _ (Anew.top _) A2 2 c2 d2 (by refine BL.ext (by assumption) ?_; (with_reducible repeat (first | exact Ext.refl _ | refine Ext.alloc ?_ _ | refine Ext.drewN ?_ _ | refine Ext.trans ?_ (by assumption)))) (by omega) O on oc ol (by refine BV.ext (by assumption) ?_; (with_reducible repeat (first | exact Ext.refl _ | refine Ext.alloc ?_ _ | refine Ext.drewN ?_ _ | refine Ext.trans ?_ (by assumption)))) (by omega) 0 (by rw [H2.out]; decide) (by rw [H2.out]; decide) (by rw [H2.out]; decide)).mono ?_)
    rintro e w3 ⟨A3, c3, d3, e3, rfl, H3, hb3, hE3⟩
    have hd3 := Lib.hid (show d3 = writeS (newS 2) 0 ol by rw [H3.out.1, H2.out])
    obtain rfl : e3 = 0 := by rw [H3.out.2, H2.out]; exact first_e (by rw [hol.out]; omega) hol.out.symm
    have hk3 := Blk.new w3 27 #[.slice A3 2 c3, .int .i64 d3.wr, .int .i64 d3.ct, .int .i64 d3.tn, .bool d3.off]
    go_wp2_with ((with_reducible (show wpList _ _ _ (⟨_, Op.load _ _, _, _, _, _⟩ :: _) _ _)); refine wpList_ldB rfl _ _ rfl _ rfl (by refine Blk.ext (by assumption) ?_; (with_reducible repeat (first | exact Ext.refl _ | refine Ext.alloc ?_ _ | refine Ext.drewN ?_ _ | refine Ext.trans ?_ (by assumption)))) (by kernel_rfl) (by kernel_rfl) ?_)
    go_loud (refine (cutP_calls (fun k => k ≠ w3.heap.size) _ (by intro k hk; simp at hk; omega) A3 2 c3 d3 ((hb3.off (Nat.le_refl _)).ext ((Ext.refl _).alloc _)) _ _).mono ?_)
    rintro e w4 ⟨A4, c4, d4, rfl, H4, hb4, hE4⟩
    have hd4 := Lib.hid (show d4 = tornD ol torn by rw [H4.out, hd3.out]; rfl)
    have f4 := (hk3.ext hE4).free
    have hk4 := Lib.hid (fill5 (.slice A4 2 c4) (.int .i64 d4.wr) (.int .i64 d4.ct) (.int .i64 d4.tn) (.bool d4.off) (hk3.ext hE4))
    obtain ⟨q0, q1, q2, q3, q4⟩ := (hk3.ext hE4).c5
    go_upto_region 7 with fail
    have hb5 := Lib.hid (BL.mono (P' := fun _ => True) (hb4.fr (fr_box (w := w4) (g := w3.heap.size) (dv A4 2 c4 d4))) (fun _ _ => trivial))
    have hE5 := Lib.hid (ext_box (w0 := w) (w := w4) (g := w3.heap.size) (dv A4 2 c4 d4) (hE1.trans (hE2.trans (hE3.trans (((Ext.refl _).alloc _).trans hE4)))) (by have := hE1.size; have := hE2.size; have := hE3.size; omega))
    refine wp_forget (fun w5 => Blk w5 w3.heap.size 27 #[.slice A4 2 c4, .int .i64 d4.wr, .int .i64 d4.ct, .int .i64 d4.tn, .bool d4.off] ∧ BL w5 (fun _ => True) A4 2 c4 d4.areas ∧ Ext w w5) ⟨hk4.out, hb5.out, hE5.out⟩ ?_
    have hd4 := hd4
    clear hE1 hE2 hE3 hE4 hb2 hb3 hb4 hk3 hk4 hb5 hE5 q0 q1 q2 q3 q4 f4 H2 H3 H4 hd3
    rintro w5 ⟨hk5, hb5, hE5⟩
    have hz := hol.out
    have hz' := hxl.out
    have hln : ol.length ≤ 60 := by omega
    have hlx : x.length ≤ 60 := by omega
    have hsm : Hid (Small d4 1) := Lib.hid (by rw [hd4.out]; exact tornD_small hln torn)
    have HZ := Lib.hid hz
    have HZ' := Lib.hid hz'
    clear hz hz'
    go_wp2_with ((with_reducible (show wpList _ _ _ (⟨_, Op.load _ _, _, _, _, _⟩ :: _) _ _)); refine wpList_ldB rfl _ _ rfl _ rfl (by refine Blk.ext (by assumption) ?_; (with_reducible repeat (first | exact Ext.refl _ | refine Ext.alloc ?_ _ | refine Ext.drewN ?_ _ | refine Ext.trans ?_ (by assumption)))) (by kernel_rfl) (by kernel_rfl) ?_)
    go_loud (refine (write_calls (fun _ => True) _ (Anew.top _) A4 2 c4 d4 (by refine BL.ext (by assumption) ?_; (with_reducible repeat (first | exact Ext.refl _ | refine Ext.alloc ?_ _ | refine Ext.drewN ?_ _ | refine Ext.trans ?_ (by assumption)))) (by omega) D m dc x (by refine BV.ext (by assumption) ?_; (with_reducible repeat (first | exact Ext.refl _ | refine Ext.alloc ?_ _ | refine Ext.drewN ?_ _ | refine Ext.trans ?_ (by assumption)))) (by omega) 0 hsm.out.w0 (hsm.out.w1n (by omega)) (hsm.out.big (by omega))).mono ?_)
    rintro e w6 ⟨A6, c6, d6, e6, rfl, H6, hb6, hE6⟩
    obtain rfl : e6 = 29 := by rw [H6.out.2, hd4.out]; exact (put_torn hln hlx torn HZ'.out.symm).2.2
    obtain rfl : d6 = ⟨[wantS false ol x torn, []], 2, 2, torn, true⟩ := by rw [H6.out.1, hd4.out]; exact (put_torn hln hlx torn HZ'.out.symm).1
    have hk6 := Blk.new w6 27 #[.slice A6 2 c6, .int .i64 2, .int .i64 2, .int .i64 torn, .bool true]
    clear H6
    have hsm6 : Hid (Small ⟨[wantS false ol x torn, []], 2, 2, torn, true⟩ 16) := Lib.hid (torn_small (wantS_len hln hlx) torn)
    go_wp2_with ((with_reducible (show wpList _ _ _ (⟨_, Op.load _ _, _, _, _, _⟩ :: _) _ _)); refine wpList_ldB rfl _ _ rfl _ rfl (by refine Blk.ext (by assumption) ?_; (with_reducible repeat (first | exact Ext.refl _ | refine Ext.alloc ?_ _ | refine Ext.drewN ?_ _ | refine Ext.trans ?_ (by assumption)))) (by kernel_rfl) (by kernel_rfl) ?_)
    go_loud (refine (write_calls (fun _ => True) _ (Anew.top _) A6 2 c6 ⟨[wantS false ol x torn, []], 2, 2, torn, true⟩ (by refine BL.ext (by assumption) ?_; (with_reducible repeat (first | exact Ext.refl _ | refine Ext.alloc ?_ _ | refine Ext.drewN ?_ _ | refine Ext.trans ?_ (by assumption)))) (by omega) D m dc x (by refine BV.ext (by assumption) ?_; (with_reducible repeat (first | exact Ext.refl _ | refine Ext.alloc ?_ _ | refine Ext.drewN ?_ _ | refine Ext.trans ?_ (by assumption)))) (by omega) 1 hsm6.out.w0 (hsm6.out.w1n (by omega)) (hsm6.out.big (by omega))).mono ?_)
    rintro e w7 ⟨A7, c7, d7, e7, rfl, H7, hb7, hE7⟩
    obtain rfl : e7 = 29 := by rw [H7.out.2]; exact (after_torn _ _ _).1
    clear H7
    go_wp2_with ((with_reducible (show wpList _ _ _ (⟨_, Op.load _ _, _, _, _, _⟩ :: _) _ _)); refine wpList_ldB rfl _ _ rfl _ rfl (by refine Blk.ext (by assumption) ?_; (with_reducible repeat (first | exact Ext.refl _ | refine Ext.alloc ?_ _ | refine Ext.drewN ?_ _ | refine Ext.trans ?_ (by assumption)))) (by kernel_rfl) (by kernel_rfl) ?_)
    go_loud (refine (readP_calls _ A6 2 c6 ⟨[wantS false ol x torn, []], 2, 2, torn, true⟩ (by refine BL.ext (by assumption) ?_; (with_reducible repeat (first | exact Ext.refl _ | refine Ext.alloc ?_ _ | refine Ext.drewN ?_ _ | refine Ext.trans ?_ (by assumption)))) (by omega) (hsm6.out.big (by omega)) 0).mono ?_)
    rintro e w8 ⟨S8, n8, k8, l8, e8, rfl, H8, hO8, hE8⟩
    obtain rfl : e8 = 29 := by rw [H8.out.2]; exact (after_torn _ _ 0).2.1
    clear H8
    go_upto_region 16 with (first | ((with_reducible (show wpList _ _ _ (⟨_, Op.load _ _, _, _, _, _⟩ :: _) _ _)); refine wpList_ldB rfl _ _ rfl _ rfl (by refine Blk.ext (by assumption) ?_; (with_reducible repeat (first | exact Ext.refl _ | refine Ext.alloc ?_ _ | refine Ext.drewN ?_ _ | refine Ext.trans ?_ (by assumption)))) (by kernel_rfl) (by kernel_rfl) ?_) | ((with_reducible (show wpList _ _ _ (⟨_, Op.load _ _, _, _, _, _⟩ :: _) _ _)); refine wpList_ldC rfl _ _ rfl _ rfl _ (by refine Eq.trans (Blk.cell (Blk.ext (by assumption) (by (with_reducible repeat (first | exact Ext.refl _ | refine Ext.alloc ?_ _ | refine Ext.drewN ?_ _ | refine Ext.trans ?_ (by assumption))))) _) ?_; rfl) (by kernel_rfl) ?_) | (go_at_call 27; go_loud (refine (restartP_calls (fun _ => True) _ (Anew.top _) A6 2 c6 ⟨[wantS false ol x torn, []], 2, 2, torn, true⟩ (by refine BL.ext (by assumption) ?_; (with_reducible repeat (first | exact Ext.refl _ | refine Ext.alloc ?_ _ | refine Ext.drewN ?_ _ | refine Ext.trans ?_ (by assumption))))).mono ?_; rintro e w9 ⟨A9, c9, d9, rfl, H9, hb9, hE9⟩)) | (go_at_call 12; go_loud (refine (readP_calls _ A9 2 c9 d9 (by refine BL.ext (by assumption) ?_; (with_reducible repeat (first | exact Ext.refl _ | refine Ext.alloc ?_ _ | refine Ext.drewN ?_ _ | refine Ext.trans ?_ (by assumption)))) (by omega) (by rw [H9.out]; exact hsm6.out.big (by omega)) 0).mono ?_; rintro e w10 ⟨S10, n10, k10, l10, e10, rfl, H10, hO10, hE10⟩; obtain rfl : e10 = 0 := (by rw [H10.out.2, H9.out]; exact (after_torn _ _ 0).2.2.1); have hl10 := Lib.hid (show l10 = wantS false ol x torn by rw [H10.out.1, H9.out]; exact (after_torn _ _ 0).2.2.2))))
    have hlt10 := Lib.hid hO10.len
    have hkk := tornS_int torn m
    obtain ⟨k, hk0⟩ : ∃ k, tornS torn m = k := ⟨_, rfl⟩
    rw [hk0] at hkk
    have hkm : k ≤ m := by rw [← hk0]; unfold tornS; omega
    have HK0 := Lib.hid hk0
    clear hk0
    have hw10 : OB (w10.alloc (.cells #[] 5)) w10.heap.size 5 (some ⟨w10.heap.size, 0, none⟩) 0 0 [] := OB.lit0 w10 0 5 (Nat.le_refl _)
    have HF : Hid (l10 = wantS false ol x torn) := Lib.hid (by exact hl10.out)
    simp only [hkk]
    clear hkk
    by_cases hko : (k : Int) < on
    · go_wp2_with (first | ((with_reducible (show wpList _ _ _ (⟨_, Op.slice _ _ _ _ _, _, _, _, _⟩ :: _) _ _)); refine wpList_cutB_hi rfl _ _ _ rfl _ Try.underlying22 infoB rfl (by refine BV.ext (by assumption) ?_; (with_reducible repeat (first | exact Ext.refl _ | refine Ext.alloc ?_ _ | refine Ext.drewN ?_ _ | refine Ext.trans ?_ (by assumption)))) k _ rfl hkm ?_; intro hcut) | (at_builtin; refine wpList_appB (w0 := w10) rfl (.tmp 98) _ _ rfl _ infoB Try.underlying22 _ _ _ [] rfl hw10 D k dc (x.take k) rfl hcut (by omega) (Ext.alloc (Ext.refl _) _) ?_; intro S11 k11 w11 hO11 hE11; simp only [Nat.zero_add, List.nil_append] at hO11) | ((with_reducible (show wpList _ _ _ (⟨_, Op.slice _ _ _ _ _, _, _, _, _⟩ :: _) _ _)); refine wpList_cutB_lo rfl _ _ _ rfl _ Try.underlying22 infoB rfl (BV.ext (BV.ext ho (by with_reducible repeat (first | exact Ext.refl _ | refine Ext.alloc ?_ _ | refine Ext.drewN ?_ _ | refine Ext.trans ?_ (by assumption)))) hE11) k _ rfl (by omega) ?_; intro A' hcut2) | (at_builtin; refine wpList_appB (w0 := w10) rfl (.tmp 115) _ _ rfl _ infoB Try.underlying22 _ _ _ (x.take k) rfl hO11 A' (on - k) (oc - k) (ol.drop k) rfl hcut2 (by omega) hE11 ?_; intro S12 k12 w12 hOf hEx))
      have hEf : Ext w w12 := (by with_reducible repeat (first | exact Ext.refl _ | refine Ext.alloc ?_ _ | refine Ext.drewN ?_ _ | refine Ext.trans ?_ (by assumption)))
      have hfin : l10 = x.take k ++ ol.drop k := by rw [HF.out]; unfold wantS; rw [HZ'.out, HK0.out]; simp [HZ.out]; try omega
      go_loud (refine (same_eq w12 _ _ _ _ _ _ _ _ hfin.symm (OB.bv (P := fun _ => True) (hO10.ext hEx) (fun _ _ => trivial)) (OB.bv (P := fun _ => True) hOf (fun _ _ => trivial))).mono ?_)
      rintro e w13 ⟨rfl, q13, rfl⟩
      go_wp2
      go_ret
      exact ⟨rfl, Ext.drewN hEf _⟩
    · go_wp2_with (first | ((with_reducible (show wpList _ _ _ (⟨_, Op.slice _ _ _ _ _, _, _, _, _⟩ :: _) _ _)); refine wpList_cutB_hi rfl _ _ _ rfl _ Try.underlying22 infoB rfl (by refine BV.ext (by assumption) ?_; (with_reducible repeat (first | exact Ext.refl _ | refine Ext.alloc ?_ _ | refine Ext.drewN ?_ _ | refine Ext.trans ?_ (by assumption)))) k _ rfl hkm ?_; intro hcut) | (at_builtin; refine wpList_appB (w0 := w10) rfl (.tmp 98) _ _ rfl _ infoB Try.underlying22 _ _ _ [] rfl hw10 D k dc (x.take k) rfl hcut (by omega) (Ext.alloc (Ext.refl _) _) ?_; intro S11 k11 w11 hOf hEx; simp only [Nat.zero_add, List.nil_append] at hOf))
      have hEf : Ext w w11 := (by with_reducible repeat (first | exact Ext.refl _ | refine Ext.alloc ?_ _ | refine Ext.drewN ?_ _ | refine Ext.trans ?_ (by assumption)))
      have hfin : l10 = x.take k := by rw [HF.out]; unfold wantS; rw [HZ'.out, HK0.out]; simp [HZ.out]; try omega
      go_loud (refine (same_eq w11 _ _ _ _ _ _ _ _ hfin.symm (OB.bv (P := fun _ => True) (hO10.ext hEx) (fun _ _ => trivial)) (OB.bv (P := fun _ => True) hOf (fun _ _ => trivial))).mono ?_)
      rintro e w13 ⟨rfl, q13, rfl⟩
      go_wp2
      go_ret
      exact ⟨rfl, Ext.drewN hEf _⟩
  | true =>
    go_enter Try.func8, Try.ntmps8
    go_wp2_with (first | (go_at_call 9; go_loud (refine (awake_calls w).mono ?_; rintro e w1 ⟨rfl, hE1⟩)) | (go_at_call 22; go_loud (refine (newP_calls' (fun _ => True) _ (Anew.top _) 2 2 rfl).mono ?_; rintro e w2 ⟨A2, c2, d2, rfl, H2, hb2, hE2⟩)))
    go_loud (refine (write_calls (fun _ => True) _ (Anew.top _) A2 2 c2 d2 (by refine BL.ext (by assumption) ?_; (with_reducible repeat (first | exact Ext.refl _ | refine Ext.alloc ?_ _ | refine Ext.drewN ?_ _ | refine Ext.trans ?_ (by assumption)))) (by omega) O on oc ol (by refine BV.ext (by assumption) ?_; (with_reducible repeat (first | exact Ext.refl _ | refine Ext.alloc ?_ _ | refine Ext.drewN ?_ _ | refine Ext.trans ?_ (by assumption)))) (by omega) 0 (by rw [H2.out]; decide) (by rw [H2.out]; decide) (by rw [H2.out]; decide)).mono ?_)
    rintro e w3 ⟨A3, c3, d3, e3, rfl, H3, hb3, hE3⟩
    have hd3 := Lib.hid (show d3 = writeS (newS 2) 0 ol by rw [H3.out.1, H2.out])
    obtain rfl : e3 = 0 := by rw [H3.out.2, H2.out]; exact first_e (by rw [hol.out]; omega) hol.out.symm
    have hk3 := Blk.new w3 27 #[.slice A3 2 c3, .int .i64 d3.wr, .int .i64 d3.ct, .int .i64 d3.tn, .bool d3.off]
    go_wp2_with ((with_reducible (show wpList _ _ _ (⟨_, Op.load _ _, _, _, _, _⟩ :: _) _ _)); refine wpList_ldB rfl _ _ rfl _ rfl (by refine Blk.ext (by assumption) ?_; (with_reducible repeat (first | exact Ext.refl _ | refine Ext.alloc ?_ _ | refine Ext.drewN ?_ _ | refine Ext.trans ?_ (by assumption)))) (by kernel_rfl) (by kernel_rfl) ?_)
    go_loud (refine (cutP_calls (fun k => k ≠ w3.heap.size) _ (by intro k hk; simp at hk; omega) A3 2 c3 d3 ((hb3.off (Nat.le_refl _)).ext ((Ext.refl _).alloc _)) _ _).mono ?_)
    rintro e w4 ⟨A4, c4, d4, rfl, H4, hb4, hE4⟩
    have hd4 := Lib.hid (show d4 = tornD ol torn by rw [H4.out, hd3.out]; rfl)
    have f4 := (hk3.ext hE4).free
    have hk4 := Lib.hid (fill5 (.slice A4 2 c4) (.int .i64 d4.wr) (.int .i64 d4.ct) (.int .i64 d4.tn) (.bool d4.off) (hk3.ext hE4))
    obtain ⟨q0, q1, q2, q3, q4⟩ := (hk3.ext hE4).c5
    go_upto_region 7 with fail
    have hb5 := Lib.hid (BL.mono (P' := fun _ => True) (hb4.fr (fr_box (w := w4) (g := w3.heap.size) (dv A4 2 c4 d4))) (fun _ _ => trivial))
    have hE5 := Lib.hid (ext_box (w0 := w) (w := w4) (g := w3.heap.size) (dv A4 2 c4 d4) (hE1.trans (hE2.trans (hE3.trans (((Ext.refl _).alloc _).trans hE4)))) (by have := hE1.size; have := hE2.size; have := hE3.size; omega))
    refine wp_forget (fun w5 => Blk w5 w3.heap.size 27 #[.slice A4 2 c4, .int .i64 d4.wr, .int .i64 d4.ct, .int .i64 d4.tn, .bool d4.off] ∧ BL w5 (fun _ => True) A4 2 c4 d4.areas ∧ Ext w w5) ⟨hk4.out, hb5.out, hE5.out⟩ ?_
    have hd4 := hd4
    clear hE1 hE2 hE3 hE4 hb2 hb3 hb4 hk3 hk4 hb5 hE5 q0 q1 q2 q3 q4 f4 H2 H3 H4 hd3
    rintro w5 ⟨hk5, hb5, hE5⟩
    have hz := hol.out
    have hz' := hxl.out
    have hln : ol.length ≤ 60 := by omega
    have hlx : x.length ≤ 60 := by omega
    have hsm : Hid (Small d4 1) := Lib.hid (by rw [hd4.out]; exact tornD_small hln torn)
    have HZ := Lib.hid hz
    have HZ' := Lib.hid hz'
    clear hz hz'
    go_wp2_with ((with_reducible (show wpList _ _ _ (⟨_, Op.load _ _, _, _, _, _⟩ :: _) _ _)); refine wpList_ldB rfl _ _ rfl _ rfl (by refine Blk.ext (by assumption) ?_; (with_reducible repeat (first | exact Ext.refl _ | refine Ext.alloc ?_ _ | refine Ext.drewN ?_ _ | refine Ext.trans ?_ (by assumption)))) (by kernel_rfl) (by kernel_rfl) ?_)
    go_loud (refine (write_calls (fun _ => True) _ (Anew.top _) A4 2 c4 d4 (by refine BL.ext (by assumption) ?_; (with_reducible repeat (first | exact Ext.refl _ | refine Ext.alloc ?_ _ | refine Ext.drewN ?_ _ | refine Ext.trans ?_ (by assumption)))) (by omega) D m dc x (by refine BV.ext (by assumption) ?_; (with_reducible repeat (first | exact Ext.refl _ | refine Ext.alloc ?_ _ | refine Ext.drewN ?_ _ | refine Ext.trans ?_ (by assumption)))) (by omega) 0 hsm.out.w0 (hsm.out.w1n (by omega)) (hsm.out.big (by omega))).mono ?_)
    rintro e w6 ⟨A6, c6, d6, e6, rfl, H6, hb6, hE6⟩
    obtain rfl : e6 = 29 := by rw [H6.out.2, hd4.out]; exact (put_torn hln hlx torn HZ'.out.symm).2.2
    obtain rfl : d6 = ⟨[wantS false ol x torn, []], 2, 2, torn, true⟩ := by rw [H6.out.1, hd4.out]; exact (put_torn hln hlx torn HZ'.out.symm).1
    have hk6 := Blk.new w6 27 #[.slice A6 2 c6, .int .i64 2, .int .i64 2, .int .i64 torn, .bool true]
    clear H6
    have hbo := hb5.off (g := w6.heap.size) hE6.size
    go_wp2_with ((with_reducible (show wpList _ _ _ (⟨_, Op.load _ _, _, _, _, _⟩ :: _) _ _)); refine wpList_ldB rfl _ _ rfl _ rfl (by refine Blk.ext (by assumption) ?_; (with_reducible repeat (first | exact Ext.refl _ | refine Ext.alloc ?_ _ | refine Ext.drewN ?_ _ | refine Ext.trans ?_ (by assumption)))) (by kernel_rfl) (by kernel_rfl) ?_)
    go_loud (refine (append_calls (fun k => k ≠ w6.heap.size) _ (by intro k hk; simp at hk; omega) A4 2 c4 d4 (hbo.ext (by with_reducible repeat (first | exact Ext.refl _ | refine Ext.alloc ?_ _ | refine Ext.drewN ?_ _ | refine Ext.trans ?_ (by assumption)))) (by omega) D m dc x (by refine BV.ext (by assumption) ?_; (with_reducible repeat (first | exact Ext.refl _ | refine Ext.alloc ?_ _ | refine Ext.drewN ?_ _ | refine Ext.trans ?_ (by assumption)))) (by omega) 0 hsm.out.w0 (hsm.out.w1n (by omega)) (hsm.out.big (by omega))).mono ?_)
    rintro e w70 ⟨A60, c60, d70, e70, rfl, H70, hb70, hE70⟩
    obtain rfl : e70 = 29 := by rw [H70.out.2, hd4.out]; exact (put_torn hln hlx torn HZ'.out.symm).2.2
    obtain rfl : d70 = ⟨[wantS true ol x torn, []], 2, 2, torn, true⟩ := by rw [H70.out.1, hd4.out]; exact (put_torn hln hlx torn HZ'.out.symm).2.1
    have f70 := (hk6.ext hE70).free
    have hk70 := Lib.hid (fill5 (.slice A60 2 c60) (.int .i64 2) (.int .i64 2) (.int .i64 torn) (.bool true) (hk6.ext hE70))
    obtain ⟨q0, q1, q2, q3, q4⟩ := (hk6.ext hE70).c5
    go_upto_region 10 with fail
    have hb71 := Lib.hid (BL.mono (P' := fun _ => True) (hb70.fr (fr_box (w := w70) (g := w6.heap.size) [.slice A60 2 c60, .int .i64 2, .int .i64 2, .int .i64 torn, .bool true])) (fun _ _ => trivial))
    have hE71 := Lib.hid (ext_box (w0 := w) (w := w70) (g := w6.heap.size) [.slice A60 2 c60, .int .i64 2, .int .i64 2, .int .i64 torn, .bool true] (by with_reducible repeat (first | exact Ext.refl _ | refine Ext.alloc ?_ _ | refine Ext.drewN ?_ _ | refine Ext.trans ?_ (by assumption))) (by have := hE5.size; have := hE6.size; omega))
    refine wp_forget (fun w60 => Blk w60 w6.heap.size 27 #[.slice A60 2 c60, .int .i64 2, .int .i64 2, .int .i64 torn, .bool true] ∧ BL w60 (fun _ => True) A60 2 c60 [wantS true ol x torn, []] ∧ Ext w w60) ⟨hk70.out, hb71.out, hE71.out⟩ ?_
    clear hb70 hE70 hk6 hk70 hb71 hE71 q0 q1 q2 q3 q4 f70 hbo hb6 H70 hb5 hk5 hE5 hE6
    rintro w60 ⟨hk60, hb60, hE60⟩
    have hsm6 : Hid (Small ⟨[wantS true ol x torn, []], 2, 2, torn, true⟩ 16) := Lib.hid (torn_small (wantS_len hln hlx) torn)
    go_wp2_with ((with_reducible (show wpList _ _ _ (⟨_, Op.load _ _, _, _, _, _⟩ :: _) _ _)); refine wpList_ldB rfl _ _ rfl _ rfl (by refine Blk.ext (by assumption) ?_; (with_reducible repeat (first | exact Ext.refl _ | refine Ext.alloc ?_ _ | refine Ext.drewN ?_ _ | refine Ext.trans ?_ (by assumption)))) (by kernel_rfl) (by kernel_rfl) ?_)
    go_loud (refine (write_calls (fun _ => True) _ (Anew.top _) A60 2 c60 ⟨[wantS true ol x torn, []], 2, 2, torn, true⟩ (by refine BL.ext (by assumption) ?_; (with_reducible repeat (first | exact Ext.refl _ | refine Ext.alloc ?_ _ | refine Ext.drewN ?_ _ | refine Ext.trans ?_ (by assumption)))) (by omega) D m dc x (by refine BV.ext (by assumption) ?_; (with_reducible repeat (first | exact Ext.refl _ | refine Ext.alloc ?_ _ | refine Ext.drewN ?_ _ | refine Ext.trans ?_ (by assumption)))) (by omega) 1 hsm6.out.w0 (hsm6.out.w1n (by omega)) (hsm6.out.big (by omega))).mono ?_)
    rintro e w7 ⟨A7, c7, d7, e7, rfl, H7, hb7, hE7⟩
    obtain rfl : e7 = 29 := by rw [H7.out.2]; exact (after_torn _ _ _).1
    clear H7
    go_wp2_with ((with_reducible (show wpList _ _ _ (⟨_, Op.load _ _, _, _, _, _⟩ :: _) _ _)); refine wpList_ldB rfl _ _ rfl _ rfl (by refine Blk.ext (by assumption) ?_; (with_reducible repeat (first | exact Ext.refl _ | refine Ext.alloc ?_ _ | refine Ext.drewN ?_ _ | refine Ext.trans ?_ (by assumption)))) (by kernel_rfl) (by kernel_rfl) ?_)
    go_loud (refine (readP_calls _ A60 2 c60 ⟨[wantS true ol x torn, []], 2, 2, torn, true⟩ (by refine BL.ext (by assumption) ?_; (with_reducible repeat (first | exact Ext.refl _ | refine Ext.alloc ?_ _ | refine Ext.drewN ?_ _ | refine Ext.trans ?_ (by assumption)))) (by omega) (hsm6.out.big (by omega)) 0).mono ?_)
    rintro e w8 ⟨S8, n8, k8, l8, e8, rfl, H8, hO8, hE8⟩
    obtain rfl : e8 = 29 := by rw [H8.out.2]; exact (after_torn _ _ 0).2.1
    clear H8
    go_upto_region 16 with (first | ((with_reducible (show wpList _ _ _ (⟨_, Op.load _ _, _, _, _, _⟩ :: _) _ _)); refine wpList_ldB rfl _ _ rfl _ rfl (by refine Blk.ext (by assumption) ?_; (with_reducible repeat (first | exact Ext.refl _ | refine Ext.alloc ?_ _ | refine Ext.drewN ?_ _ | refine Ext.trans ?_ (by assumption)))) (by kernel_rfl) (by kernel_rfl) ?_) | ((with_reducible (show wpList _ _ _ (⟨_, Op.load _ _, _, _, _, _⟩ :: _) _ _)); refine wpList_ldC rfl _ _ rfl _ rfl _ (by refine Eq.trans (Blk.cell (Blk.ext (by assumption) (by (with_reducible repeat (first | exact Ext.refl _ | refine Ext.alloc ?_ _ | refine Ext.drewN ?_ _ | refine Ext.trans ?_ (by assumption))))) _) ?_; rfl) (by kernel_rfl) ?_) | (go_at_call 27; go_loud (refine (restartP_calls (fun _ => True) _ (Anew.top _) A60 2 c60 ⟨[wantS true ol x torn, []], 2, 2, torn, true⟩ (by refine BL.ext (by assumption) ?_; (with_reducible repeat (first | exact Ext.refl _ | refine Ext.alloc ?_ _ | refine Ext.drewN ?_ _ | refine Ext.trans ?_ (by assumption))))).mono ?_; rintro e w9 ⟨A9, c9, d9, rfl, H9, hb9, hE9⟩)) | (go_at_call 12; go_loud (refine (readP_calls _ A9 2 c9 d9 (by refine BL.ext (by assumption) ?_; (with_reducible repeat (first | exact Ext.refl _ | refine Ext.alloc ?_ _ | refine Ext.drewN ?_ _ | refine Ext.trans ?_ (by assumption)))) (by omega) (by rw [H9.out]; exact hsm6.out.big (by omega)) 0).mono ?_; rintro e w10 ⟨S10, n10, k10, l10, e10, rfl, H10, hO10, hE10⟩; obtain rfl : e10 = 0 := (by rw [H10.out.2, H9.out]; exact (after_torn _ _ 0).2.2.1); have hl10 := Lib.hid (show l10 = wantS true ol x torn by rw [H10.out.1, H9.out]; exact (after_torn _ _ 0).2.2.2))))
    have hlt10 := Lib.hid hO10.len
    have hkk := tornS_int torn m
    obtain ⟨k, hk0⟩ : ∃ k, tornS torn m = k := ⟨_, rfl⟩
    rw [hk0] at hkk
    have hkm : k ≤ m := by rw [← hk0]; unfold tornS; omega
    have HK0 := Lib.hid hk0
    clear hk0
    have hw10 : OB (w10.alloc (.cells #[] 5)) w10.heap.size 5 (some ⟨w10.heap.size, 0, none⟩) 0 0 [] := OB.lit0 w10 0 5 (Nat.le_refl _)
    have HF : Hid (l10 = wantS true ol x torn) := Lib.hid (by exact hl10.out)
    simp only [hkk]
    clear hkk
    go_upto_region 18 with (first | ((with_reducible (show wpList _ _ _ (⟨_, Op.slice _ _ _ _ _, _, _, _, _⟩ :: _) _ _)); refine wpList_cutB_hi rfl _ _ _ rfl _ Try.underlying22 infoB rfl (by refine BV.ext (by assumption) ?_; (with_reducible repeat (first | exact Ext.refl _ | refine Ext.alloc ?_ _ | refine Ext.drewN ?_ _ | refine Ext.trans ?_ (by assumption)))) k _ rfl hkm ?_; intro hcut) | (at_builtin; refine wpList_appB (w0 := w10) rfl (.tmp 98) _ _ rfl _ infoB Try.underlying22 _ _ _ [] rfl hw10 D k dc (x.take k) rfl hcut (by omega) (Ext.alloc (Ext.refl _) _) ?_; intro S11 k11 w11 hO11 hE11))
    refine wp_region_f (fun i v w' => match i with | 0 => ∃ g, v = .slice (some ⟨g, 0, none⟩) 0 0 ∧ OB w' w11.heap.size 5 (some ⟨g, 0, none⟩) 0 0 [] | 1 => v = .slice O on oc | 2 => ∃ S k', v = .slice S on k' ∧ OB w' w11.heap.size 5 S on k' ol | 3 => v = .slice D m dc | 4 => v = .int .i64 k | 5 => v = .slice D k dc | _ => True) 6 (by kernel_rfl) (by kernel_rfl) ?_ ?_
    · simp only [List.take_succ_cons, List.take_zero]
      refine steps_cons (fun vs w1 hS0 hF => ?_) ?_
      · clear hF
        have hS := Ext.drewL hS0
        clear hS0
        simp only [fillA, List.take, List.drop, Act.put, List.setIfInBounds_toArray, List.set, Nat.zero_add, Nat.reduceAdd]
        refine ⟨?_⟩
        go_wp2
        exact ⟨rfl, (by with_reducible repeat (first | exact Ext.refl _ | refine Ext.alloc ?_ _ | refine Ext.drewN ?_ _ | refine Ext.trans ?_ (by assumption))), Keep.mk_ (⟨_, rfl, OB.lit0 w1 0 5 hS.size⟩)⟩
      refine steps_cons (fun vs w1 hS0 hF => ?_) ?_
      · clear hF
        have hS := Ext.drewL hS0
        clear hS0
        simp only [fillA, List.take, List.drop, Act.put, List.setIfInBounds_toArray, List.set, Nat.zero_add, Nat.reduceAdd]
        refine ⟨?_⟩
        go_wp2
        exact ⟨rfl, (by with_reducible repeat (first | exact Ext.refl _ | refine Ext.alloc ?_ _ | refine Ext.drewN ?_ _ | refine Ext.trans ?_ (by assumption))), Keep.mk_ (rfl)⟩
      refine steps_cons (fun vs w1 hS0 hF => ?_) ?_
      · obtain ⟨u0, p0, x0⟩ := (hF.at_ 0 (by kernel_rfl)).ex
        obtain ⟨g0, h0, o0⟩ := p0
        replace o0 := o0.ext x0
        clear x0
        obtain ⟨u1, p1, x1⟩ := (hF.at_ 1 (by kernel_rfl)).ex
        have h1 : vs 1 = .slice O on oc := p1
        clear x1 p1
        clear hF
        have hS := Ext.drewL hS0
        clear hS0
        simp only [fillA, List.take, List.drop, Act.put, List.setIfInBounds_toArray, List.set, Nat.zero_add, Nat.reduceAdd, h0, h1]
        refine ⟨?_⟩
        go_wp2_with ((at_builtin; go_loud (refine wpList_app0 rfl _ _ _ rfl _ infoB Try.underlying22 rfl o0 hS.size rfl (by refine BV.ext (by assumption) ?_; (with_reducible repeat (first | exact Ext.refl _ | refine Ext.alloc ?_ _ | refine Ext.drewN ?_ _ | refine Ext.trans ?_ (by assumption)))) (by omega) ?_; intro S5 k5 w5 hO5 hE5)))
        exact ⟨rfl, (by with_reducible repeat (first | exact Ext.refl _ | refine Ext.alloc ?_ _ | refine Ext.drewN ?_ _ | refine Ext.trans ?_ (by assumption))), Keep.mk_ (⟨S5, k5, rfl, hO5⟩)⟩
      refine steps_cons (fun vs w1 hS0 hF => ?_) ?_
      · clear hF
        have hS := Ext.drewL hS0
        clear hS0
        simp only [fillA, List.take, List.drop, Act.put, List.setIfInBounds_toArray, List.set, Nat.zero_add, Nat.reduceAdd]
        refine ⟨?_⟩
        go_wp2
        exact ⟨rfl, (by with_reducible repeat (first | exact Ext.refl _ | refine Ext.alloc ?_ _ | refine Ext.drewN ?_ _ | refine Ext.trans ?_ (by assumption))), Keep.mk_ (rfl)⟩
      refine steps_cons (fun vs w1 hS0 hF => ?_) ?_
      · clear hF
        have hS := Ext.drewL hS0
        clear hS0
        simp only [fillA, List.take, List.drop, Act.put, List.setIfInBounds_toArray, List.set, Nat.zero_add, Nat.reduceAdd]
        refine ⟨?_⟩
        go_wp2
        exact ⟨rfl, (by with_reducible repeat (first | exact Ext.refl _ | refine Ext.alloc ?_ _ | refine Ext.drewN ?_ _ | refine Ext.trans ?_ (by assumption))), Keep.mk_ (rfl)⟩
      refine steps_cons (fun vs w1 hS0 hF => ?_) ?_
      · obtain ⟨u3, p3, x3⟩ := (hF.at_ 3 (by kernel_rfl)).ex
        have h3 : vs 3 = .slice D m dc := p3
        clear x3 p3
        obtain ⟨u4, p4, x4⟩ := (hF.at_ 4 (by kernel_rfl)).ex
        have h4 : vs 4 = .int .i64 k := p4
        clear x4 p4
        clear hF
        have hS := Ext.drewL hS0
        clear hS0
        simp only [fillA, List.take, List.drop, Act.put, List.setIfInBounds_toArray, List.set, Nat.zero_add, Nat.reduceAdd, h3, h4]
        refine ⟨?_⟩
        go_wp2_with (((with_reducible (show wpList _ _ _ (⟨_, Op.slice _ _ _ _ _, _, _, _, _⟩ :: _) _ _)); go_loud (refine wpList_cutB_hi rfl _ _ _ rfl _ Try.underlying22 infoB rfl (by refine BV.ext (by assumption) ?_; (with_reducible repeat (first | exact Ext.refl _ | refine Ext.alloc ?_ _ | refine Ext.drewN ?_ _ | refine Ext.trans ?_ (by assumption)))) k _ rfl hkm ?_; intro hcut)))
        exact ⟨rfl, (by with_reducible repeat (first | exact Ext.refl _ | refine Ext.alloc ?_ _ | refine Ext.drewN ?_ _ | refine Ext.trans ?_ (by assumption))), Keep.mk_ (rfl)⟩
      exact trivial
    · intro vs w2 hE2 hF
      obtain ⟨u0, p0, x0⟩ := (hF.at_ 0 (by omega)).ex
      obtain ⟨g0, h0, o0⟩ := p0
      replace o0 := o0.ext x0
      clear x0
      obtain ⟨u1, p1, x1⟩ := (hF.at_ 1 (by omega)).ex
      have h1 : vs 1 = .slice O on oc := p1
      clear x1 p1
      obtain ⟨u2, p2, x2⟩ := (hF.at_ 2 (by omega)).ex
      obtain ⟨S2, k2, h2, o2⟩ := p2
      replace o2 := o2.ext x2
      clear x2
      obtain ⟨u3, p3, x3⟩ := (hF.at_ 3 (by omega)).ex
      have h3 : vs 3 = .slice D m dc := p3
      clear x3 p3
      obtain ⟨u4, p4, x4⟩ := (hF.at_ 4 (by omega)).ex
      have h4 : vs 4 = .int .i64 k := p4
      clear x4 p4
      obtain ⟨u5, p5, x5⟩ := (hF.at_ 5 (by omega)).ex
      have h5 : vs 5 = .slice D k dc := p5
      clear x5 p5
      clear hF
      simp only [fillA, List.take, List.drop, Act.put, List.setIfInBounds_toArray, List.set, Nat.zero_add, Nat.reduceAdd, h0, h1, h2, h3, h4, h5]
      refine ⟨?_⟩
      have hEw : Ext w w2 := (by with_reducible repeat (first | exact Ext.refl _ | refine Ext.alloc ?_ _ | refine Ext.drewN ?_ _ | refine Ext.trans ?_ (by assumption)))
      go_wp2_with (at_builtin; go_loud (refine wpList_appB (w0 := w11) rfl _ _ _ rfl _ infoB Try.underlying22 _ _ _ ol rfl o2 D k dc (x.take k) rfl (BV.take (hx.ext hEw) hkm) (by omega) hE2 ?_; intro S12 k12 w12 hOf hEx0))
      have hEx : Ext w10 w12 := (by with_reducible repeat (first | exact Ext.refl _ | refine Ext.alloc ?_ _ | refine Ext.drewN ?_ _ | refine Ext.trans ?_ (by assumption)))
      have hEf : Ext w w12 := (by with_reducible repeat (first | exact Ext.refl _ | refine Ext.alloc ?_ _ | refine Ext.drewN ?_ _ | refine Ext.trans ?_ (by assumption)))
      have hfin : l10 = ol ++ x.take k := by rw [HF.out]; unfold wantS; rw [HZ'.out, HK0.out]; simp [HZ.out]; try omega
      go_loud (refine (same_eq w12 _ _ _ _ _ _ _ _ hfin.symm (OB.bv (P := fun _ => True) (hO10.ext hEx) (fun _ _ => trivial)) (OB.bv (P := fun _ => True) hOf (fun _ _ => trivial))).mono ?_)
      rintro e w13 ⟨rfl, q13, rfl⟩
      go_wp2
      go_ret
      exact ⟨rfl, Ext.drewN hEf _⟩

theorem diskTorn_walk {P PX : Nat → Prop} (w : World) (O : Option Addr) (on oc : Nat) (ol : List UInt8) (ho : BV w P O on oc ol) (D : Option Addr) (m dc : Nat) (x : List UInt8) (hx : BV w PX D m dc x) (torn : Int) (add : Bool) :
    Calls Try.prog 8 #[.slice O on oc, .slice D m dc, .int .i64 torn, .bool add] w fun e w' => e = .returned (.bool true) ∧ Ext w w' := by
  by_cases h1 : (on : Int) ≤ 60
  · by_cases h2 : (m : Int) ≤ 60
    · exact torn_first w O on oc ol ho D m dc x hx torn add h1 h2
    · go_enter Try.func8, Try.ntmps8
      go_wp2_with (go_at_call 9; go_loud (refine (awake_calls w).mono ?_; rintro e w1 ⟨rfl, hE1⟩))
      go_ret
      exact ⟨rfl, hE1⟩
  · go_enter Try.func8, Try.ntmps8
    go_wp2_with (go_at_call 9; go_loud (refine (awake_calls w).mono ?_; rintro e w1 ⟨rfl, hE1⟩))
    go_ret
    exact ⟨rfl, hE1⟩
end Go.Proofs.Ythbpddblejnjjaa
