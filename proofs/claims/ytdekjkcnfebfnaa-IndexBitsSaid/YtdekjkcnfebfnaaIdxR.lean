/- Indices: Read; the reference's Write. -/
import Derived.Test.YtdekjkcnfebfnaaIdxW
namespace Go.Proofs.Ytdekjkcnfebfnaa
set_option linter.all false
open Go.RowKit
set_option maxHeartbeats 1000000 in
theorem insideR_calls (w : World) (dn : Nat) (hdn : dn ≤ 35184372088832) (off n : Int) :
    Calls Try.prog 32 #[.int .i64 off, .int .i64 n, .int .i64 dn] w fun e w' => e = .returned (.bool (insideS dn off n)) ∧ w = w' := by
  cases hI : insideS dn off n with
  | true =>
    have h := insideS_true hI
    obtain ⟨h1, h2, h3⟩ := h
    have h4 : n ≤ (dn : Int) := by omega
    have h5 : off ≤ (dn : Int) - n := by omega
    have HI := Lib.hid hI
    clear hI h3
    go_enter Try.func32, Try.ntmps32
    go_wp2
    go_ret
    exact ⟨rfl, rfl⟩
  | false =>
    have hn : ¬ (0 ≤ off ∧ 0 ≤ n ∧ off + n ≤ (dn : Int)) := by unfold insideS at hI; simpa using hI
    have HI := Lib.hid hI
    clear hI
    by_cases h1 : 0 ≤ off
    · by_cases h2 : 0 ≤ n
      · by_cases h3 : n ≤ (dn : Int)
        · have h4 : decide (off ≤ (dn : Int) - n) = false := by simp; omega
          clear hn
          go_enter Try.func32, Try.ntmps32
          go_wp2
          go_ret
          exact ⟨rfl, rfl⟩
        · have h4 : decide (n ≤ (dn : Int)) = false := by simp; omega
          clear hn
          go_enter Try.func32, Try.ntmps32
          go_wp2
          go_ret
          exact ⟨rfl, rfl⟩
      · have h4 : decide (0 ≤ n) = false := by simp; omega
        clear hn
        go_enter Try.func32, Try.ntmps32
        go_wp2
        go_ret
        exact ⟨rfl, rfl⟩
    · have h4 : decide (0 ≤ off) = false := by simp; omega
      clear hn
      go_enter Try.func32, Try.ntmps32
      go_wp2
      go_ret
      exact ⟨rfl, rfl⟩
/-- What a read hands back. -/
def RdO (w : World) (L : List UInt8) (E : Int) (e : Ending) (w' : World) : Prop :=
  ∃ S n k l er, e = .returned (.tuple #[.slice S n k, .int .i64 er]) ∧ Hid (l = L ∧ er = E) ∧ OB w' w.heap.size 5 S n k l ∧ Ext w w'
theorem RdO.mk {w w' : World} {L l : List UInt8} {E er : Int} {e : Ending} {S : Option Addr} {n k : Nat} (he : e = .returned (.tuple #[.slice S n k, .int .i64 er])) (hl : l = L) (her : er = E) (ho : OB w' w.heap.size 5 S n k l) (hE : Ext w w') : RdO w L E e w' :=
  ⟨S, n, k, l, er, he, Lib.hid ⟨hl, her⟩, ho, hE⟩
theorem readB_z {x : Ix} {off size er : Int} (h : readE' x off size = er) (h0 : er ≠ 0) : [] = readB' x off size := by unfold readB'; rw [h, if_neg h0]
theorem readB_0 {x : Ix} {off size : Int} (h : readE' x off size = 0) : readB' x off size = (x.data.drop off.toNat).take size.toNat := by unfold readB'; rw [h, if_pos rfl]
set_option maxHeartbeats 2000000 in
theorem readP_calls {P : Nat → Prop} (w : World) (x : Ix) (pA : Option Addr) (pn pc : Nat) (aA : Option Addr) (an ac : Nat) (dA : Option Addr) (dn dc : Nat) (hx : IxV w P x pA pn pc aA an ac dA dn dc) (hdn : dn ≤ 35184372088832) (off size : Int) :
    Calls Try.prog 18 #[.agg #[.int .i64 x.n, .int .i64 x.kind, .int .i64 x.attr, .int .i64 x.size, .slice pA pn pc, .slice aA an ac, .bool x.wr, .slice dA dn dc], .int .i64 off, .int .i64 size] w (RdO w (readB' x off size) (readE' x off size)) := by
  obtain ⟨xn, xk, xa, xs, xp, xau, xw, xd⟩ := x
  have HD := Lib.hid hx.2.2.len
  cases xw with
  | false =>
    have HE := Lib.hid (show readE' (⟨xn, xk, xa, xs, xp, xau, false, xd⟩ : Ix) off size = 22 by unfold readE'; rw [if_pos rfl])
    have HI : Hid (insideS dn off size = insideS dn off size) := Lib.hid rfl
    go_enter Try.func18, Try.ntmps18
    go_wp2_with (first | (go_at_call 30; go_loud (refine (insideP_calls _ (⟨xn, xk, xa, xs, xp, xau, true, xd⟩ : Ix) pA pn pc aA an ac dA dn dc (by omega) off size).mono ?_; rintro e w3 ⟨he, hE3⟩; rw [HI.out] at he; subst he)) | (go_at_call 32; go_loud (refine (insideR_calls _ dn (by omega) off size).mono ?_; rintro e w3 ⟨he, rfl⟩; rw [HI.out] at he; subst he)))
    go_ret2
    exact RdO.mk rfl (readB_z (er := 22) HE.out (by decide)) HE.out.symm (OB.nil_ _ _ _) (by with_reducible repeat (first | exact Ext.refl _ | refine Ext.alloc ?_ _ | refine Ext.drewN ?_ _ | refine Ext.trans ?_ (by assumption)))
  | true =>
    cases hi : insideS dn off size with
    | false =>
      have HI := Lib.hid hi
      have HE := Lib.hid (show readE' (⟨xn, xk, xa, xs, xp, xau, true, xd⟩ : Ix) off size = 24 by unfold readE'; rw [if_neg (by simp), HD.out, hi]; simp)
      clear hi
      go_enter Try.func18, Try.ntmps18
      go_wp2_with (first | (go_at_call 30; go_loud (refine (insideP_calls _ (⟨xn, xk, xa, xs, xp, xau, true, xd⟩ : Ix) pA pn pc aA an ac dA dn dc (by omega) off size).mono ?_; rintro e w3 ⟨he, hE3⟩; rw [HI.out] at he; subst he)) | (go_at_call 32; go_loud (refine (insideR_calls _ dn (by omega) off size).mono ?_; rintro e w3 ⟨he, rfl⟩; rw [HI.out] at he; subst he)))
      go_ret2
      exact RdO.mk rfl (readB_z (er := 24) HE.out (by decide)) HE.out.symm (OB.nil_ _ _ _) (by with_reducible repeat (first | exact Ext.refl _ | refine Ext.alloc ?_ _ | refine Ext.drewN ?_ _ | refine Ext.trans ?_ (by assumption)))
    | true =>
      have HI := Lib.hid hi
      have HE := Lib.hid (show readE' (⟨xn, xk, xa, xs, xp, xau, true, xd⟩ : Ix) off size = 0 by unfold readE'; rw [if_neg (by simp), HD.out, hi]; simp)
      have hin := insideS_true hi
      clear hi
      obtain ⟨k, rfl⟩ := Int.eq_ofNat_of_zero_le hin.1
      obtain ⟨s, rfl⟩ := Int.eq_ofNat_of_zero_le hin.2.1
      have hks : k + s ≤ dn := by omega
      have hle := hx.2.2.le
      have hv := hx.2.2
      go_enter Try.func18, Try.ntmps18
      go_wp2_with (first | (go_at_call 30; go_loud (refine (insideP_calls _ (⟨xn, xk, xa, xs, xp, xau, true, xd⟩ : Ix) pA pn pc aA an ac dA dn dc (by omega) (k : Int) (s : Int)).mono ?_; rintro e w3 ⟨he, hE3⟩; rw [HI.out] at he; subst he; have hbx := Lib.hid ((Blk.new w 28 #[.int .i64 xn, .int .i64 xk, .int .i64 xa, .int .i64 xs, .slice pA pn pc, .slice aA an ac, .bool true, .slice dA dn dc]).ext hE3); obtain ⟨q0, q1, q2, q3, q4, q5, q6, q7⟩ := hbx.out.c8)) | (go_at_call 32; go_loud (refine (insideR_calls _ dn (by omega) (k : Int) (s : Int)).mono ?_; rintro e w3 ⟨he, rfl⟩; rw [HI.out] at he; subst he)) | ((with_reducible (show wpList _ _ _ (⟨_, Op.slice _ _ _ _ _, _, _, _, _⟩ :: _) _ _)); go_loud (refine wpList_cutB rfl _ _ _ _ rfl _ Try.underlying22 infoB rfl (by refine BV.ext (by assumption) ?_; (with_reducible repeat (first | exact Ext.refl _ | refine Ext.alloc ?_ _ | refine Ext.drewN ?_ _ | refine Ext.trans ?_ (by assumption)))) k (k + s) _ _ rfl rfl (by omega) hks ?_; intro A' hcut; have hcut' := hcut; simp only [Nat.add_sub_cancel_left] at hcut')) | (at_builtin; go_loud (refine wpList_appO rfl _ _ _ rfl _ infoB Try.underlying22 w.heap.size _ _ _ [] rfl (OB.nil_ _ _ _) A' (k + s - k) (dc - k) _ rfl hcut (by omega) (Ext.size (by with_reducible repeat (first | exact Ext.refl _ | refine Ext.alloc ?_ _ | refine Ext.drewN ?_ _ | refine Ext.trans ?_ (by assumption)))) ?_; intro S4 k4 w4 hO4 hB4; have hOf : OB w4 w.heap.size 5 S4 _ k4 ((xd.drop k).take s) := (by simpa using hO4); have hE4 : Ext w w4 := Ext.step (show Ext w w3 from (by with_reducible repeat (first | exact Ext.refl _ | refine Ext.alloc ?_ _ | refine Ext.drewN ?_ _ | refine Ext.trans ?_ (by assumption)))) hB4 (Nat.le_refl _))))
      go_ret2
      exact RdO.mk rfl (by rw [readB_0 HE.out]; simp) HE.out.symm hOf (by with_reducible repeat (first | exact Ext.refl _ | refine Ext.alloc ?_ _ | refine Ext.drewN ?_ _ | refine Ext.trans ?_ (by assumption)))
set_option maxHeartbeats 2000000 in
theorem readR_calls {P : Nat → Prop} (w : World) (x : Ix) (pA : Option Addr) (pn pc : Nat) (aA : Option Addr) (an ac : Nat) (dA : Option Addr) (dn dc : Nat) (hx : IxV w P x pA pn pc aA an ac dA dn dc) (hdn : dn ≤ 35184372088832) (off size : Int) :
    Calls Try.prog 19 #[.agg #[.int .i64 x.n, .int .i64 x.kind, .int .i64 x.attr, .int .i64 x.size, .slice pA pn pc, .slice aA an ac, .bool x.wr, .slice dA dn dc], .int .i64 off, .int .i64 size] w (RdO w (readB' x off size) (readE' x off size)) := by
  obtain ⟨xn, xk, xa, xs, xp, xau, xw, xd⟩ := x
  have HD := Lib.hid hx.2.2.len
  cases xw with
  | false =>
    have HE := Lib.hid (show readE' (⟨xn, xk, xa, xs, xp, xau, false, xd⟩ : Ix) off size = 22 by unfold readE'; rw [if_pos rfl])
    have HI : Hid (insideS dn off size = insideS dn off size) := Lib.hid rfl
    go_enter Try.func19, Try.ntmps19
    go_wp2_with (first | (go_at_call 30; go_loud (refine (insideP_calls _ (⟨xn, xk, xa, xs, xp, xau, true, xd⟩ : Ix) pA pn pc aA an ac dA dn dc (by omega) off size).mono ?_; rintro e w3 ⟨he, hE3⟩; rw [HI.out] at he; subst he)) | (go_at_call 32; go_loud (refine (insideR_calls _ dn (by omega) off size).mono ?_; rintro e w3 ⟨he, rfl⟩; rw [HI.out] at he; subst he)))
    go_ret2
    exact RdO.mk rfl (readB_z (er := 22) HE.out (by decide)) HE.out.symm (OB.nil_ _ _ _) (by with_reducible repeat (first | exact Ext.refl _ | refine Ext.alloc ?_ _ | refine Ext.drewN ?_ _ | refine Ext.trans ?_ (by assumption)))
  | true =>
    cases hi : insideS dn off size with
    | false =>
      have HI := Lib.hid hi
      have HE := Lib.hid (show readE' (⟨xn, xk, xa, xs, xp, xau, true, xd⟩ : Ix) off size = 24 by unfold readE'; rw [if_neg (by simp), HD.out, hi]; simp)
      clear hi
      go_enter Try.func19, Try.ntmps19
      go_wp2_with (first | (go_at_call 30; go_loud (refine (insideP_calls _ (⟨xn, xk, xa, xs, xp, xau, true, xd⟩ : Ix) pA pn pc aA an ac dA dn dc (by omega) off size).mono ?_; rintro e w3 ⟨he, hE3⟩; rw [HI.out] at he; subst he)) | (go_at_call 32; go_loud (refine (insideR_calls _ dn (by omega) off size).mono ?_; rintro e w3 ⟨he, rfl⟩; rw [HI.out] at he; subst he)))
      go_ret2
      exact RdO.mk rfl (readB_z (er := 24) HE.out (by decide)) HE.out.symm (OB.nil_ _ _ _) (by with_reducible repeat (first | exact Ext.refl _ | refine Ext.alloc ?_ _ | refine Ext.drewN ?_ _ | refine Ext.trans ?_ (by assumption)))
    | true =>
      have HI := Lib.hid hi
      have HE := Lib.hid (show readE' (⟨xn, xk, xa, xs, xp, xau, true, xd⟩ : Ix) off size = 0 by unfold readE'; rw [if_neg (by simp), HD.out, hi]; simp)
      have hin := insideS_true hi
      clear hi
      obtain ⟨k, rfl⟩ := Int.eq_ofNat_of_zero_le hin.1
      obtain ⟨s, rfl⟩ := Int.eq_ofNat_of_zero_le hin.2.1
      have hks : k + s ≤ dn := by omega
      have hle := hx.2.2.le
      have hv := hx.2.2
      go_enter Try.func19, Try.ntmps19
      go_wp2_with (first | (go_at_call 30; go_loud (refine (insideP_calls _ (⟨xn, xk, xa, xs, xp, xau, true, xd⟩ : Ix) pA pn pc aA an ac dA dn dc (by omega) (k : Int) (s : Int)).mono ?_; rintro e w3 ⟨he, hE3⟩; rw [HI.out] at he; subst he; have hbx := Lib.hid ((Blk.new w 28 #[.int .i64 xn, .int .i64 xk, .int .i64 xa, .int .i64 xs, .slice pA pn pc, .slice aA an ac, .bool true, .slice dA dn dc]).ext hE3); obtain ⟨q0, q1, q2, q3, q4, q5, q6, q7⟩ := hbx.out.c8)) | (go_at_call 32; go_loud (refine (insideR_calls _ dn (by omega) (k : Int) (s : Int)).mono ?_; rintro e w3 ⟨he, rfl⟩; rw [HI.out] at he; subst he)) | ((with_reducible (show wpList _ _ _ (⟨_, Op.slice _ _ _ _ _, _, _, _, _⟩ :: _) _ _)); go_loud (refine wpList_cutB rfl _ _ _ _ rfl _ Try.underlying22 infoB rfl (by refine BV.ext (by assumption) ?_; (with_reducible repeat (first | exact Ext.refl _ | refine Ext.alloc ?_ _ | refine Ext.drewN ?_ _ | refine Ext.trans ?_ (by assumption)))) k (k + s) _ _ rfl rfl (by omega) hks ?_; intro A' hcut; have hcut' := hcut; simp only [Nat.add_sub_cancel_left] at hcut')) | (go_at_call 33; go_loud (refine (copy_calls _ A' s (dc - k) _ hcut' (by omega)).mono ?_; rintro e w4 ⟨S4, k4, rfl, hO4, hE4⟩; have hOf : OB w4 w.heap.size 5 S4 _ k4 ((xd.drop k).take s) := (by have := hO4.mono (base' := w.heap.size) (Ext.size (by with_reducible repeat (first | exact Ext.refl _ | refine Ext.alloc ?_ _ | refine Ext.drewN ?_ _ | refine Ext.trans ?_ (by assumption)))); simpa using this))))
      go_ret2
      exact RdO.mk rfl (by rw [readB_0 HE.out]; simp) HE.out.symm hOf (by with_reducible repeat (first | exact Ext.refl _ | refine Ext.alloc ?_ _ | refine Ext.drewN ?_ _ | refine Ext.trans ?_ (by assumption)))
theorem boxes2 (w : World) (t : TypeId) (cs zs : Array Value) : Blk ((w.alloc (.cells cs t)).alloc (.cells zs t)) w.heap.size t cs ∧ Blk ((w.alloc (.cells cs t)).alloc (.cells zs t)) (w.heap.size + 1) t zs := boxes w t cs zs
set_option maxHeartbeats 2000000 in
theorem writeR_calls {P PX : Nat → Prop} (w : World) (x : Ix) (pA : Option Addr) (pn pc : Nat) (aA : Option Addr) (an ac : Nat) (dA : Option Addr) (dn dc : Nat) (hx : IxV w P x pA pn pc aA an ac dA dn dc) (hdn : dn ≤ 35184372088832) (off : Int)
    (D : Option Addr) (m mc : Nat) (l : List UInt8) (hl : BV w PX D m mc l) (hm : m ≤ 35184372088832) :
    Calls Try.prog 17 #[.agg #[.int .i64 x.n, .int .i64 x.kind, .int .i64 x.attr, .int .i64 x.size, .slice pA pn pc, .slice aA an ac, .bool x.wr, .slice dA dn dc], .int .i64 off, .slice D m mc] w (IxR w (writeI' x off l) (writeE' x off m)) := by
  have HM := Lib.hid hl.len
  have HD := Lib.hid hx.2.2.len
  by_cases hk : x.kind = 1
  · have hk1 : (x.kind != 1) = false := by simp [hk]
    cases hi : insideS dn off m with
    | false =>
      have HI := Lib.hid hi
      have HE := Lib.hid (show writeE' x off m = 24 by unfold writeE'; rw [if_neg (by simp [hk]), HD.out, hi]; simp)
      clear hi hk
      go_enter Try.func17, Try.ntmps17
      go_wp2_with (first | (go_at_call 32; go_loud (refine (insideR_calls _ dn (by omega) off m).mono ?_; rintro e w3 ⟨he, rfl⟩; rw [HI.out] at he; subst he)))
      refine bodyPost_ret (v := .tuple #[.agg #[.int .i64 0, .int .i64 0, .int .i64 0, .int .i64 0, .slice none 0 0, .slice none 0 0, .bool false, .slice none 0 0], .int .i64 24]) (by simp [results, Try.results17, go_sem]) rfl ?_
      exact IxR.zero 24 rfl (writeI_z HM.out (er := 24) HE.out (by decide)) HE.out.symm (by with_reducible repeat (first | exact Ext.refl _ | refine Ext.alloc ?_ _ | refine Ext.drewN ?_ _ | refine Ext.trans ?_ (by assumption)))
    | true =>
      have HI := Lib.hid hi
      have HE := Lib.hid (show writeE' x off m = 0 by unfold writeE'; rw [if_neg (by simp [hk]), HD.out, hi]; simp)
      have hin := insideS_true hi
      clear hi hk
      obtain ⟨k, rfl⟩ := Int.eq_ofNat_of_zero_le hin.1
      have hkn : k ≤ dn := by omega
      have hle := hx.2.2.le
      have hbx := boxes w 28 #[.int .i64 x.n, .int .i64 x.kind, .int .i64 x.attr, .int .i64 x.size, .slice pA pn pc, .slice aA an ac, .bool x.wr, .slice dA dn dc] #[.int .i64 0, .int .i64 0, .int .i64 0, .int .i64 0, .slice none 0 0, .slice none 0 0, .bool false, .slice none 0 0]
      go_enter Try.func17, Try.ntmps17
      go_upto_region 3 with fail
      refine wp_forget (fun w2 => Blk w2 w.heap.size 28 #[.int .i64 x.n, .int .i64 x.kind, .int .i64 x.attr, .int .i64 x.size, .slice pA pn pc, .slice aA an ac, .bool x.wr, .slice dA dn dc] ∧ Blk w2 (w.heap.size + 1) 28 #[.int .i64 0, .int .i64 0, .int .i64 0, .int .i64 0, .slice none 0 0, .slice none 0 0, .bool false, .slice none 0 0] ∧ Ext w w2) ⟨hbx.1, hbx.2, (by with_reducible repeat (first | exact Ext.refl _ | refine Ext.alloc ?_ _ | refine Ext.drewN ?_ _ | refine Ext.trans ?_ (by assumption)))⟩ ?_
      clear hbx
      rintro w2 ⟨hkx, hkr, hE2⟩
      go_upto_region 5 with (first | ((with_reducible (show wpList _ _ _ (⟨_, Op.load _ _, _, _, _, _⟩ :: _) _ _)); refine wpList_ldC rfl _ _ rfl _ rfl _ (by refine Eq.trans (Blk.cell (Blk.ext (by assumption) (by (with_reducible repeat (first | exact Ext.refl _ | refine Ext.alloc ?_ _ | refine Ext.drewN ?_ _ | refine Ext.trans ?_ (by assumption))))) _) ?_; rfl) (by kernel_rfl) ?_) | (go_at_call 32; go_loud (refine (insideR_calls _ dn (by omega) (k : Int) m).mono ?_; rintro e w3 ⟨he, rfl⟩; rw [HI.out] at he; subst he)))
      have hdv := hx.2.2.ext hE2
      have hkm : k + m ≤ dn := by omega
      have hxl := hkx.lt
      have hdo := hdv.offs (fun q => q < w2.heap.size) (fun q _ h => h)
      have hlo := (hl.ext hE2).offs (fun q => q < w2.heap.size) (fun q _ h => h)
      refine wp_region_planG (Fr (fun q => q < w2.heap.size)) (.read 0 (.read 1 (.read 2 (.read 3 (.read 5 (.read 7 (.read 8 (.read 9 (.read 10 (.read 11 (.read 12 (.read 13 (.call false 4 (.call false 6 .tail .none) .none))))))))))))) 14 (by kernel_rfl) (by kernel_rfl) (by kernel_rfl) (Fr.refl _) (fun _ _ _ => Fr.trans) Ext (Ext.drew (Ext.refl _)) (fun wR hR => ?_)
      apply run_readI rfl (by first | exact Ext.refl _ | exact Quiet.refl _ | exact Fr.refl _ _ | exact Keeps.refl _ _ | exact trivial)
      · intro w1 hS
        go_wp2
        exact is_done
      apply run_readI rfl (by first | exact Ext.refl _ | exact Quiet.refl _ | exact Fr.refl _ _ | exact Keeps.refl _ _ | exact trivial)
      · intro w1 hS
        have hk1 := (hkx.ext hR).fr hS hxl
        go_wp2_with (first | ((with_reducible (show wpList _ _ _ (⟨_, Op.load _ _, _, _, _, _⟩ :: _) _ _)); refine wpList_ldC rfl _ _ rfl _ rfl _ (by refine Eq.trans (Blk.cell (Blk.ext (by assumption) (by (with_reducible repeat (first | exact Ext.refl _ | refine Ext.alloc ?_ _ | refine Ext.drewN ?_ _ | refine Ext.trans ?_ (by assumption))))) _) ?_; rfl) (by kernel_rfl) ?_) | ((with_reducible (show wpList _ _ _ (⟨_, Op.load _ _, _, _, _, _⟩ :: _) _ _)); refine wpList_ldB rfl _ _ rfl _ rfl (by refine Blk.ext (by assumption) ?_; (with_reducible repeat (first | exact Ext.refl _ | refine Ext.alloc ?_ _ | refine Ext.drewN ?_ _ | refine Ext.trans ?_ (by assumption)))) (by kernel_rfl) (by kernel_rfl) ?_))
        exact is_done
      apply run_readI rfl (by first | exact Ext.refl _ | exact Quiet.refl _ | exact Fr.refl _ _ | exact Keeps.refl _ _ | exact trivial)
      · intro w1 hS
        go_wp2
        exact is_done
      apply run_readI rfl (by first | exact Ext.refl _ | exact Quiet.refl _ | exact Fr.refl _ _ | exact Keeps.refl _ _ | exact trivial)
      · intro w1 hS
        go_wp2_with (((with_reducible (show wpList _ _ _ (⟨_, Op.slice _ _ _ _ _, _, _, _, _⟩ :: _) _ _)); go_loud (refine wpList_cutB_hi rfl _ _ _ rfl _ Try.underlying22 infoB rfl ((hdo.ext hR).fr hS) k _ rfl hkn ?_; intro hcut)))
        exact is_done
      apply run_readI rfl (by first | exact Ext.refl _ | exact Quiet.refl _ | exact Fr.refl _ _ | exact Keeps.refl _ _ | exact trivial)
      · intro w1 hS
        go_wp2
        exact is_done
      apply run_readI rfl (by first | exact Ext.refl _ | exact Quiet.refl _ | exact Fr.refl _ _ | exact Keeps.refl _ _ | exact trivial)
      · intro w1 hS
        go_wp2
        exact is_done
      apply run_readI rfl (by first | exact Ext.refl _ | exact Quiet.refl _ | exact Fr.refl _ _ | exact Keeps.refl _ _ | exact trivial)
      · intro w1 hS
        have hk1 := (hkx.ext hR).fr hS hxl
        go_wp2_with (first | ((with_reducible (show wpList _ _ _ (⟨_, Op.load _ _, _, _, _, _⟩ :: _) _ _)); refine wpList_ldC rfl _ _ rfl _ rfl _ (by refine Eq.trans (Blk.cell (Blk.ext (by assumption) (by (with_reducible repeat (first | exact Ext.refl _ | refine Ext.alloc ?_ _ | refine Ext.drewN ?_ _ | refine Ext.trans ?_ (by assumption))))) _) ?_; rfl) (by kernel_rfl) ?_) | ((with_reducible (show wpList _ _ _ (⟨_, Op.load _ _, _, _, _, _⟩ :: _) _ _)); refine wpList_ldB rfl _ _ rfl _ rfl (by refine Blk.ext (by assumption) ?_; (with_reducible repeat (first | exact Ext.refl _ | refine Ext.alloc ?_ _ | refine Ext.drewN ?_ _ | refine Ext.trans ?_ (by assumption)))) (by kernel_rfl) (by kernel_rfl) ?_))
        exact is_done
      apply run_readI rfl (by first | exact Ext.refl _ | exact Quiet.refl _ | exact Fr.refl _ _ | exact Keeps.refl _ _ | exact trivial)
      · intro w1 hS
        go_wp2
        exact is_done
      apply run_readI rfl (by first | exact Ext.refl _ | exact Quiet.refl _ | exact Fr.refl _ _ | exact Keeps.refl _ _ | exact trivial)
      · intro w1 hS
        go_wp2
        exact is_done
      apply run_readI rfl (by first | exact Ext.refl _ | exact Quiet.refl _ | exact Fr.refl _ _ | exact Keeps.refl _ _ | exact trivial)
      · intro w1 hS
        go_wp2
        exact is_done
      apply run_readI rfl (by first | exact Ext.refl _ | exact Quiet.refl _ | exact Fr.refl _ _ | exact Keeps.refl _ _ | exact trivial)
      · intro w1 hS
        go_wp2
        exact is_done
      apply run_readI rfl (by first | exact Ext.refl _ | exact Quiet.refl _ | exact Fr.refl _ _ | exact Keeps.refl _ _ | exact trivial)
      · intro w1 hS
        go_wp2_with (((with_reducible (show wpList _ _ _ (⟨_, Op.slice _ _ _ _ _, _, _, _, _⟩ :: _) _ _)); go_loud (refine wpList_cutO rfl _ _ _ rfl _ Try.underlying22 infoB dA dn dc rfl (k + m) _ rfl hkm ?_)))
        exact is_done
      refine run_call1 rfl ?_ run_none
      go_wp2_with (first | (go_at_call 33; go_loud (refine (copy_calls _ dA k dc (x.data.take k) (BV.ext (BV.take hdv hkn) hR) (by omega)).mono ?_; rintro e w4 ⟨S4, k4, rfl, hO4, hE4⟩)) | (at_builtin; go_loud (refine wpList_appO rfl _ _ _ rfl _ infoB Try.underlying22 wR.heap.size _ _ _ (x.data.take k) rfl hO4 D m mc l rfl ((hl.ext hE2).ext (hR.trans hE4)) (by omega) hE4.size ?_; intro S5 k5 w5 hO5 hB5)))
      refine nx_done rfl hE4.fr ?_
      try simp only [Act.put, List.setIfInBounds_toArray, List.set]
      refine run_call1 rfl ?_ run_none
      go_wp2_with (first | (go_at_call 33; go_loud (refine (copy_calls _ dA k dc (x.data.take k) (BV.ext (BV.take hdv hkn) hR) (by omega)).mono ?_; rintro e w4 ⟨S4, k4, rfl, hO4, hE4⟩)) | (at_builtin; go_loud (refine wpList_appO rfl _ _ _ rfl _ infoB Try.underlying22 wR.heap.size _ _ _ (x.data.take k) rfl hO4 D m mc l rfl ((hl.ext hE2).ext (hR.trans hE4)) (by omega) hE4.size ?_; intro S5 k5 w5 hO5 hB5)))
      refine nx_done rfl ⟨hB5.os, hB5.tape, hB5.output, hB5.size, fun q _ hq => hB5.block q (Nat.lt_of_lt_of_le hq hR.size)⟩ ?_
      try simp only [Act.put, List.setIfInBounds_toArray, List.set]
      refine run_tail rfl ?_
      have hEa : Ext wR w5 := Ext.step hE4 hB5 (Nat.le_refl _)
      have hEb : Ext w w5 := hE2.trans (hR.trans hEa)
      refine wpList_appO rfl _ _ _ rfl _ infoB Try.underlying22 wR.heap.size _ _ _ (x.data.take k ++ l) rfl hO5 _ (dn - (k + m)) (dc - (k + m)) (x.data.drop (k + m)) rfl (((hx.2.2.ext hE2).ext (hR.trans hEa)).cut hkm) (by omega) hEa.size ?_
      intro S6 k6 w6 hO6 hB6
      have hE6 : Ext wR w6 := Ext.step hEa hB6 (Nat.le_refl _)
      have hk6 := (hkx.ext hR).ext hE6
      have hr6 := (hkr.ext hR).ext hE6
      go_upto_region 6 with ((with_reducible (show wpList _ _ _ (⟨_, Op.store _ _ _, _, _, _, _⟩ :: _) _ _)); go_loud (refine wpList_stC rfl _ _ _ rfl _ _ rfl rfl (by refine Blk.ext (by assumption) ?_; (with_reducible repeat (first | exact Ext.refl _ | refine Ext.alloc ?_ _ | refine Ext.drewN ?_ _ | refine Ext.trans ?_ (by assumption)))) (by kernel_rfl) (by simp) rfl ?_; intro w7 hk7 hF7; simp [Act.eval, List.set] at hk7))
      have hr7 := hr6.fr hF7 (by omega)
      go_upto_region 7 with ((with_reducible (show wpList _ _ _ (⟨_, Op.store _ _ _, _, _, _, _⟩ :: _) _ _)); go_loud (refine wpList_stC rfl _ _ _ rfl _ _ rfl rfl (by refine Blk.ext (by assumption) ?_; (with_reducible repeat (first | exact Ext.refl _ | refine Ext.alloc ?_ _ | refine Ext.drewN ?_ _ | refine Ext.trans ?_ (by assumption)))) (by kernel_rfl) (by simp) rfl ?_; intro w8 hk8 hF8; simp [Act.eval, List.set] at hk8))
      have hr8 := hr7.fr hF8 (by omega)
      have hF68 : Fr (fun q => q ≠ w.heap.size) w6 w8 := hF7.trans hF8
      clear hF7 hF8 hr7 hk7 hr6 hk6
      go_wp2_with (first | ((with_reducible (show wpList _ _ _ (⟨_, Op.load _ _, _, _, _, _⟩ :: _) _ _)); refine wpList_ldB rfl _ _ rfl _ rfl (by refine Blk.ext (by assumption) ?_; (with_reducible repeat (first | exact Ext.refl _ | refine Ext.alloc ?_ _ | refine Ext.drewN ?_ _ | refine Ext.trans ?_ (by assumption)))) (by kernel_rfl) (by kernel_rfl) ?_) | ((with_reducible (show wpList _ _ _ (⟨_, Op.store _ _ _, _, _, _, _⟩ :: _) _ _)); go_loud (refine wpList_stB rfl _ _ _ rfl _ rfl rfl (by refine Blk.ext (by assumption) ?_; (with_reducible repeat (first | exact Ext.refl _ | refine Ext.alloc ?_ _ | refine Ext.drewN ?_ _ | refine Ext.trans ?_ (by assumption)))) (by kernel_rfl) (by rfl) (by simp [Value.oneCell']) ?_; intro w9 hk9 hF9)))
      have en : k + m + (dn - (k + m)) = dn := by omega
      rw [en] at hO6
      try rw [en] at hk9
      obtain ⟨r0, r1, r2, r3, r4, r5, r6, r7⟩ := hk9.c8
      refine bodyPost_ret (v := .tuple #[.agg #[.int .i64 x.n, .int .i64 x.kind, .int .i64 x.attr, .int .i64 x.size, .slice pA pn pc, .slice aA an ac, .bool true, .slice S6 dn k6], .int .i64 0]) (by simp [results, Try.results17, go_sem, r0, r1, r2, r3, r4, r5, r6, r7]) rfl ?_
      have hEw : Ext w w6 := hE2.trans (hR.trans hE6)
      have hFa : Fr (fun q => q ≠ w.heap.size ∧ q ≠ w.heap.size + 1) w6 w9 := (hF68.mono (fun q h => h.1)).trans (hF9.mono (fun q h => h.2))
      have hz3 : w.heap.size + 2 ≤ wR.heap.size := by have h1 := hkr.lt; have h2 := hR.size; omega
      have hd6 : BV w6 (fun q => q ≠ w.heap.size ∧ q ≠ w.heap.size + 1) S6 dn k6 _ := OB.bv (P := fun q => q ≠ w.heap.size ∧ q ≠ w.heap.size + 1) hO6 (fun q hq => by omega)
      have hsp : x.data.take k ++ l ++ x.data.drop (k + m) = spliceB x.data k l := by unfold spliceB; rw [HM.out]; simp
      rw [hsp] at hd6
      have hoff := fun (q : Nat) (_ : P q) (hq : q < w.heap.size) => (show q ≠ w.heap.size ∧ q ≠ w.heap.size + 1 by omega)
      exact IxR.mk (x := { x with wr := true, data := spliceB x.data k l }) rfl (by rw [writeI_0 HM.out HE.out]; simp) HE.out.symm ⟨(((hx.1.offs _ hoff).ext hEw).fr hFa).mono (fun _ _ => trivial), (((hx.2.1.offs _ hoff).ext hEw).fr hFa).mono (fun _ _ => trivial), (hd6.fr hFa).mono (fun _ _ => trivial)⟩ (Ext.over2 hEw hFa (by omega) (by omega))
  · have hk1 : (x.kind != 1) = true := by simp [hk]
    have HE := Lib.hid (show writeE' x off m = 19 by unfold writeE'; rw [if_pos hk])
    have HI : Hid (insideS dn off m = insideS dn off m) := Lib.hid rfl
    clear hk
    go_enter Try.func17, Try.ntmps17
    go_wp2_with (first | (go_at_call 32; go_loud (refine (insideR_calls _ dn (by omega) off m).mono ?_; rintro e w3 ⟨he, rfl⟩; rw [HI.out] at he; subst he)))
    refine bodyPost_ret (v := .tuple #[.agg #[.int .i64 0, .int .i64 0, .int .i64 0, .int .i64 0, .slice none 0 0, .slice none 0 0, .bool false, .slice none 0 0], .int .i64 19]) (by simp [results, Try.results17, go_sem]) rfl ?_
    exact IxR.zero 19 rfl (writeI_z HM.out (er := 19) HE.out (by decide)) HE.out.symm (by with_reducible repeat (first | exact Ext.refl _ | refine Ext.alloc ?_ _ | refine Ext.drewN ?_ _ | refine Ext.trans ?_ (by assumption)))
end Go.Proofs.Ytdekjkcnfebfnaa
