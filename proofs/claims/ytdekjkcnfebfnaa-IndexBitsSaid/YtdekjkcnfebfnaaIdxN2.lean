/- New indices: the reference. -/
import Derived.Test.YtdekjkcnfebfnaaIdxN
namespace Go.Proofs.Ytdekjkcnfebfnaa
set_option linter.all false
open Go.RowKit
set_option maxHeartbeats 1000000 in
theorem newR_calls {P1 P2 : Nat → Prop} (w : World) (n kind attr size : Int) (A : Option Addr) (an ac : Nat) (auth : List UInt8) (ha : BV w P1 A an ac auth) (B : Option Addr) (pn pc : Nat) (pol : List UInt8) (hp : BV w P2 B pn pc pol) :
    Calls Try.prog 13 #[.int .i64 n, .int .i64 kind, .int .i64 attr, .int .i64 size, .slice A an ac, .slice B pn pc] w (IxR w (newI n kind attr size auth pol) (newE n kind attr size an pn)) := by
  have hal := Lib.hid ha.len
  have hpl := Lib.hid hp.len
  by_cases h1 : n < 0
  · have HB := Lib.hid (show badArg n kind size pn = true by unfold badArg; simp [h1])
    have HE := Lib.hid (show newE n kind attr size an pn = 1 from newE_1 HB.out)
    go_enter Try.func13, Try.ntmps13
    go_wp2_with (first | (go_at_call 27; go_loud (refine (sizedR_calls _ kind size).mono ?_; rintro e w1 ⟨he, rfl⟩; rw [hsz] at he; subst he)) | (go_at_call 26; go_loud (refine (sizedR_calls _ kind size).mono ?_; rintro e w1 ⟨he, rfl⟩; rw [hsz] at he; subst he)) | ((with_reducible (show wpList _ _ _ (⟨_, Op.makeSlice _ _ _, _, _, _, _⟩ :: _) _ _)); go_loud (refine wpList_mkM rfl _ _ _ rfl _ infoB Try.underlying22 _ _ (size.toNat) rfl rfl (by omega) ?_; intro g1 w1 hg1 hM1 hE1)))
    refine bodyPost_ret (v := .tuple #[.agg #[.int .i64 0, .int .i64 0, .int .i64 0, .int .i64 0, .slice none 0 0, .slice none 0 0, .bool false, .slice none 0 0], .int .i64 1]) (by simp [results, Try.results13, go_sem]) rfl ?_
    exact IxR.zero 1 rfl (newI_z hal.out hpl.out (er := 1) HE.out (by decide)) HE.out.symm (by with_reducible repeat (first | exact Ext.refl _ | refine Ext.alloc ?_ _ | refine Ext.drewN ?_ _ | refine Ext.trans ?_ (by assumption)))
  by_cases h2 : 255 < n
  · have HB := Lib.hid (show badArg n kind size pn = true by unfold badArg; simp [h2])
    have HE := Lib.hid (show newE n kind attr size an pn = 1 from newE_1 HB.out)
    go_enter Try.func13, Try.ntmps13
    go_wp2_with (first | (go_at_call 27; go_loud (refine (sizedR_calls _ kind size).mono ?_; rintro e w1 ⟨he, rfl⟩; rw [hsz] at he; subst he)) | (go_at_call 26; go_loud (refine (sizedR_calls _ kind size).mono ?_; rintro e w1 ⟨he, rfl⟩; rw [hsz] at he; subst he)) | ((with_reducible (show wpList _ _ _ (⟨_, Op.makeSlice _ _ _, _, _, _, _⟩ :: _) _ _)); go_loud (refine wpList_mkM rfl _ _ _ rfl _ infoB Try.underlying22 _ _ (size.toNat) rfl rfl (by omega) ?_; intro g1 w1 hg1 hM1 hE1)))
    refine bodyPost_ret (v := .tuple #[.agg #[.int .i64 0, .int .i64 0, .int .i64 0, .int .i64 0, .slice none 0 0, .slice none 0 0, .bool false, .slice none 0 0], .int .i64 1]) (by simp [results, Try.results13, go_sem]) rfl ?_
    exact IxR.zero 1 rfl (newI_z hal.out hpl.out (er := 1) HE.out (by decide)) HE.out.symm (by with_reducible repeat (first | exact Ext.refl _ | refine Ext.alloc ?_ _ | refine Ext.drewN ?_ _ | refine Ext.trans ?_ (by assumption)))
  cases hz : sizedS kind size with
  | false =>
    have HB := Lib.hid (show badArg n kind size pn = true by unfold badArg; rw [hz]; simp)
    have hsz := hz
    have HE := Lib.hid (show newE n kind attr size an pn = 1 from newE_1 HB.out)
    go_enter Try.func13, Try.ntmps13
    go_wp2_with (first | (go_at_call 27; go_loud (refine (sizedR_calls _ kind size).mono ?_; rintro e w1 ⟨he, rfl⟩; rw [hsz] at he; subst he)) | (go_at_call 26; go_loud (refine (sizedR_calls _ kind size).mono ?_; rintro e w1 ⟨he, rfl⟩; rw [hsz] at he; subst he)) | ((with_reducible (show wpList _ _ _ (⟨_, Op.makeSlice _ _ _, _, _, _, _⟩ :: _) _ _)); go_loud (refine wpList_mkM rfl _ _ _ rfl _ infoB Try.underlying22 _ _ (size.toNat) rfl rfl (by omega) ?_; intro g1 w1 hg1 hM1 hE1)))
    refine bodyPost_ret (v := .tuple #[.agg #[.int .i64 0, .int .i64 0, .int .i64 0, .int .i64 0, .slice none 0 0, .slice none 0 0, .bool false, .slice none 0 0], .int .i64 1]) (by simp [results, Try.results13, go_sem]) rfl ?_
    exact IxR.zero 1 rfl (newI_z hal.out hpl.out (er := 1) HE.out (by decide)) HE.out.symm (by with_reducible repeat (first | exact Ext.refl _ | refine Ext.alloc ?_ _ | refine Ext.drewN ?_ _ | refine Ext.trans ?_ (by assumption)))
  | true =>
    have hsz := hz
    have hbd := sized_bound hz
    by_cases h3 : pn = 0 ∨ pn = 32
    · have HB := Lib.hid (show badArg n kind size pn = false from badArg_ok (by omega) (by omega) hz h3)
      rcases h3 with h3 | h3
      · have h3a : ((pn : Int) != 0) = false := by simp [h3]
        have HZ0 := Lib.hid h3
        clear h3
        by_cases h4 : (32 : Int) < an
        · have HE := Lib.hid (show newE n kind attr size an pn = 4 from newE_4 HB.out (by omega))
          go_enter Try.func13, Try.ntmps13
          go_wp2_with (first | (go_at_call 27; go_loud (refine (sizedR_calls _ kind size).mono ?_; rintro e w1 ⟨he, rfl⟩; rw [hsz] at he; subst he)) | (go_at_call 26; go_loud (refine (sizedR_calls _ kind size).mono ?_; rintro e w1 ⟨he, rfl⟩; rw [hsz] at he; subst he)) | ((with_reducible (show wpList _ _ _ (⟨_, Op.makeSlice _ _ _, _, _, _, _⟩ :: _) _ _)); go_loud (refine wpList_mkM rfl _ _ _ rfl _ infoB Try.underlying22 _ _ (size.toNat) rfl rfl (by omega) ?_; intro g1 w1 hg1 hM1 hE1)))
          refine bodyPost_ret (v := .tuple #[.agg #[.int .i64 0, .int .i64 0, .int .i64 0, .int .i64 0, .slice none 0 0, .slice none 0 0, .bool false, .slice none 0 0], .int .i64 4]) (by simp [results, Try.results13, go_sem]) rfl ?_
          exact IxR.zero 4 rfl (newI_z hal.out hpl.out (er := 4) HE.out (by decide)) HE.out.symm (by with_reducible repeat (first | exact Ext.refl _ | refine Ext.alloc ?_ _ | refine Ext.drewN ?_ _ | refine Ext.trans ?_ (by assumption)))
        by_cases h5 : attr < 0
        · have HA := Lib.hid (attr_bad (pl := pn) (.inl h5))
          have HE := Lib.hid (show newE n kind attr size an pn = 20 from newE_20 HB.out (by omega) HA.out)
          go_enter Try.func13, Try.ntmps13
          go_wp2_with (first | (go_at_call 27; go_loud (refine (sizedR_calls _ kind size).mono ?_; rintro e w1 ⟨he, rfl⟩; rw [hsz] at he; subst he)) | (go_at_call 26; go_loud (refine (sizedR_calls _ kind size).mono ?_; rintro e w1 ⟨he, rfl⟩; rw [hsz] at he; subst he)) | ((with_reducible (show wpList _ _ _ (⟨_, Op.makeSlice _ _ _, _, _, _, _⟩ :: _) _ _)); go_loud (refine wpList_mkM rfl _ _ _ rfl _ infoB Try.underlying22 _ _ (size.toNat) rfl rfl (by omega) ?_; intro g1 w1 hg1 hM1 hE1)))
          refine bodyPost_ret (v := .tuple #[.agg #[.int .i64 0, .int .i64 0, .int .i64 0, .int .i64 0, .slice none 0 0, .slice none 0 0, .bool false, .slice none 0 0], .int .i64 20]) (by simp [results, Try.results13, go_sem]) rfl ?_
          exact IxR.zero 20 rfl (newI_z hal.out hpl.out (er := 20) HE.out (by decide)) HE.out.symm (by with_reducible repeat (first | exact Ext.refl _ | refine Ext.alloc ?_ _ | refine Ext.drewN ?_ _ | refine Ext.trans ?_ (by assumption)))
        by_cases h6 : 127 < attr
        · have HA := Lib.hid (attr_bad (pl := pn) (.inr (.inl h6)))
          have HE := Lib.hid (show newE n kind attr size an pn = 20 from newE_20 HB.out (by omega) HA.out)
          go_enter Try.func13, Try.ntmps13
          go_wp2_with (first | (go_at_call 27; go_loud (refine (sizedR_calls _ kind size).mono ?_; rintro e w1 ⟨he, rfl⟩; rw [hsz] at he; subst he)) | (go_at_call 26; go_loud (refine (sizedR_calls _ kind size).mono ?_; rintro e w1 ⟨he, rfl⟩; rw [hsz] at he; subst he)) | ((with_reducible (show wpList _ _ _ (⟨_, Op.makeSlice _ _ _, _, _, _, _⟩ :: _) _ _)); go_loud (refine wpList_mkM rfl _ _ _ rfl _ infoB Try.underlying22 _ _ (size.toNat) rfl rfl (by omega) ?_; intro g1 w1 hg1 hM1 hE1)))
          refine bodyPost_ret (v := .tuple #[.agg #[.int .i64 0, .int .i64 0, .int .i64 0, .int .i64 0, .slice none 0 0, .slice none 0 0, .bool false, .slice none 0 0], .int .i64 20]) (by simp [results, Try.results13, go_sem]) rfl ?_
          exact IxR.zero 20 rfl (newI_z hal.out hpl.out (er := 20) HE.out (by decide)) HE.out.symm (by with_reducible repeat (first | exact Ext.refl _ | refine Ext.alloc ?_ _ | refine Ext.drewN ?_ _ | refine Ext.trans ?_ (by assumption)))
        cases h21 : (bits BinOp.and IntKind.i64 attr 21 == 0) with
        | true =>
          have HA := Lib.hid (attr_bad (pl := pn) (.inr (.inr (.inl h21))))
          have HE := Lib.hid (show newE n kind attr size an pn = 20 from newE_20 HB.out (by omega) HA.out)
          go_enter Try.func13, Try.ntmps13
          go_wp2_with (first | (go_at_call 27; go_loud (refine (sizedR_calls _ kind size).mono ?_; rintro e w1 ⟨he, rfl⟩; rw [hsz] at he; subst he)) | (go_at_call 26; go_loud (refine (sizedR_calls _ kind size).mono ?_; rintro e w1 ⟨he, rfl⟩; rw [hsz] at he; subst he)) | ((with_reducible (show wpList _ _ _ (⟨_, Op.makeSlice _ _ _, _, _, _, _⟩ :: _) _ _)); go_loud (refine wpList_mkM rfl _ _ _ rfl _ infoB Try.underlying22 _ _ (size.toNat) rfl rfl (by omega) ?_; intro g1 w1 hg1 hM1 hE1)))
          refine bodyPost_ret (v := .tuple #[.agg #[.int .i64 0, .int .i64 0, .int .i64 0, .int .i64 0, .slice none 0 0, .slice none 0 0, .bool false, .slice none 0 0], .int .i64 20]) (by simp [results, Try.results13, go_sem]) rfl ?_
          exact IxR.zero 20 rfl (newI_z hal.out hpl.out (er := 20) HE.out (by decide)) HE.out.symm (by with_reducible repeat (first | exact Ext.refl _ | refine Ext.alloc ?_ _ | refine Ext.drewN ?_ _ | refine Ext.trans ?_ (by assumption)))
        | false =>
        cases h42 : (bits BinOp.and IntKind.i64 attr 42 == 0) with
        | true =>
          have HA := Lib.hid (attr_bad (pl := pn) (.inr (.inr (.inr (.inl h42)))))
          have HE := Lib.hid (show newE n kind attr size an pn = 20 from newE_20 HB.out (by omega) HA.out)
          go_enter Try.func13, Try.ntmps13
          go_wp2_with (first | (go_at_call 27; go_loud (refine (sizedR_calls _ kind size).mono ?_; rintro e w1 ⟨he, rfl⟩; rw [hsz] at he; subst he)) | (go_at_call 26; go_loud (refine (sizedR_calls _ kind size).mono ?_; rintro e w1 ⟨he, rfl⟩; rw [hsz] at he; subst he)) | ((with_reducible (show wpList _ _ _ (⟨_, Op.makeSlice _ _ _, _, _, _, _⟩ :: _) _ _)); go_loud (refine wpList_mkM rfl _ _ _ rfl _ infoB Try.underlying22 _ _ (size.toNat) rfl rfl (by omega) ?_; intro g1 w1 hg1 hM1 hE1)))
          refine bodyPost_ret (v := .tuple #[.agg #[.int .i64 0, .int .i64 0, .int .i64 0, .int .i64 0, .slice none 0 0, .slice none 0 0, .bool false, .slice none 0 0], .int .i64 20]) (by simp [results, Try.results13, go_sem]) rfl ?_
          exact IxR.zero 20 rfl (newI_z hal.out hpl.out (er := 20) HE.out (by decide)) HE.out.symm (by with_reducible repeat (first | exact Ext.refl _ | refine Ext.alloc ?_ _ | refine Ext.drewN ?_ _ | refine Ext.trans ?_ (by assumption)))
        | false =>
        cases h12 : (bits BinOp.and IntKind.i64 attr 12 != 0) with
        | true =>
          have hp0 := HZ0.out
          have HA := Lib.hid (attr_bad (pl := pn) (.inr (.inr (.inr (.inr ⟨h12, hp0⟩)))))
          have hp1 : (pn == 0) = true := by simp [hp0]
          have hp2 : ((pn : Int) == 0) = true := by simp [hp0]
          have HP0 := Lib.hid hp0
          clear hp0
          have HE := Lib.hid (show newE n kind attr size an pn = 20 from newE_20 HB.out (by omega) HA.out)
          go_enter Try.func13, Try.ntmps13
          go_wp2_with (first | (go_at_call 27; go_loud (refine (sizedR_calls _ kind size).mono ?_; rintro e w1 ⟨he, rfl⟩; rw [hsz] at he; subst he)) | (go_at_call 26; go_loud (refine (sizedR_calls _ kind size).mono ?_; rintro e w1 ⟨he, rfl⟩; rw [hsz] at he; subst he)) | ((with_reducible (show wpList _ _ _ (⟨_, Op.makeSlice _ _ _, _, _, _, _⟩ :: _) _ _)); go_loud (refine wpList_mkM rfl _ _ _ rfl _ infoB Try.underlying22 _ _ (size.toNat) rfl rfl (by omega) ?_; intro g1 w1 hg1 hM1 hE1)))
          refine bodyPost_ret (v := .tuple #[.agg #[.int .i64 0, .int .i64 0, .int .i64 0, .int .i64 0, .slice none 0 0, .slice none 0 0, .bool false, .slice none 0 0], .int .i64 20]) (by simp [results, Try.results13, go_sem]) rfl ?_
          exact IxR.zero 20 rfl (newI_z hal.out hpl.out (er := 20) HE.out (by decide)) HE.out.symm (by with_reducible repeat (first | exact Ext.refl _ | refine Ext.alloc ?_ _ | refine Ext.drewN ?_ _ | refine Ext.trans ?_ (by assumption)))
        | false =>
          have HA := Lib.hid (attr_ok (pl := pn) (by omega) (by omega) h21 h42 (.inl h12))
          have HE := Lib.hid (show newE n kind attr size an pn = 0 from newE_0 HB.out (by omega) HA.out)
          obtain ⟨s, rfl⟩ := Int.eq_ofNat_of_zero_le (show 0 ≤ size by omega)
          have hk0 := Blk.new w 28 #[.int .i64 0, .int .i64 0, .int .i64 0, .int .i64 0, .slice none 0 0, .slice none 0 0, .bool false, .slice none 0 0]
          go_enter Try.func13, Try.ntmps13
          go_wp2_with (first | (go_at_call 26; go_loud (refine (sizedR_calls _ kind (s : Int)).mono ?_; rintro e w1 ⟨he, rfl⟩; rw [hsz] at he; subst he)) | (go_at_call 27; go_loud (refine (sizedR_calls _ kind (s : Int)).mono ?_; rintro e w1 ⟨he, rfl⟩; rw [hsz] at he; subst he)) | ((with_reducible (show wpList _ _ _ (⟨_, Op.makeSlice _ _ _, _, _, _, _⟩ :: _) _ _)); go_loud (refine wpList_mkM rfl _ _ _ rfl _ infoB Try.underlying22 _ _ (s) rfl rfl (by omega) ?_; intro g1 w1 hg1 hM1 hE1)) | ((with_reducible (show wpList _ _ _ (⟨_, Op.store _ _ _, _, _, _, _⟩ :: _) _ _)); go_loud (refine wpList_stB rfl _ _ _ rfl _ rfl rfl (by refine Blk.ext (by assumption) ?_; (with_reducible repeat (first | exact Ext.refl _ | refine Ext.alloc ?_ _ | refine Ext.drewN ?_ _ | refine Ext.trans ?_ (by assumption)))) (by kernel_rfl) (by rfl) (by simp [Value.oneCell']) ?_; intro w2 hk2 hF2)))
          obtain ⟨q0, q1, q2, q3, q4, q5, q6, q7⟩ := hk2.c8
          refine bodyPost_ret (v := .tuple #[.agg #[.int .i64 n, .int .i64 kind, .int .i64 attr, .int .i64 s, .slice B pn pc, .slice A an ac, .bool false, .slice (some ⟨g1, 0, none⟩) s s], .int .i64 0]) (by simp [results, Try.results13, go_sem, q0, q1, q2, q3, q4, q5, q6, q7]) rfl ?_
          have hEw : Ext w w1 := (by with_reducible repeat (first | exact Ext.refl _ | refine Ext.alloc ?_ _ | refine Ext.drewN ?_ _ | refine Ext.trans ?_ (by assumption)))
          have hne : g1 ≠ w.heap.size := by have := hg1; simp at this; omega
          exact IxR.mk (x := ⟨n, kind, attr, s, pol, auth, false, List.replicate s 0⟩) rfl (by rw [newI_0 hal.out hpl.out HE.out]; simp) HE.out.symm ⟨(((hp.offs _ (fun k _ hk => (by omega : k ≠ w.heap.size))).ext hEw).fr hF2).mono (fun _ _ => trivial), (((ha.offs _ (fun k _ hk => (by omega : k ≠ w.heap.size))).ext hEw).fr hF2).mono (fun _ _ => trivial), (MB.bv (P := fun _ => True) (hM1.fr hF2 hne) trivial (by simp) (Nat.le_refl _) (by omega))⟩ (Ext.over hEw hF2 (Nat.le_refl _))
      · have h3a : ((pn : Int) != 0) = true := by simp; omega
        have h3b : ((pn : Int) != 32) = false := by simp; omega
        have hpz : pn ≠ 0 := by omega
        have hp3 : ((pn : Int) == 0) = false := by simp; omega
        have hp4 : (pn == 0) = false := by simp; omega
        clear h3
        by_cases h4 : (32 : Int) < an
        · have HE := Lib.hid (show newE n kind attr size an pn = 4 from newE_4 HB.out (by omega))
          go_enter Try.func13, Try.ntmps13
          go_wp2_with (first | (go_at_call 27; go_loud (refine (sizedR_calls _ kind size).mono ?_; rintro e w1 ⟨he, rfl⟩; rw [hsz] at he; subst he)) | (go_at_call 26; go_loud (refine (sizedR_calls _ kind size).mono ?_; rintro e w1 ⟨he, rfl⟩; rw [hsz] at he; subst he)) | ((with_reducible (show wpList _ _ _ (⟨_, Op.makeSlice _ _ _, _, _, _, _⟩ :: _) _ _)); go_loud (refine wpList_mkM rfl _ _ _ rfl _ infoB Try.underlying22 _ _ (size.toNat) rfl rfl (by omega) ?_; intro g1 w1 hg1 hM1 hE1)))
          refine bodyPost_ret (v := .tuple #[.agg #[.int .i64 0, .int .i64 0, .int .i64 0, .int .i64 0, .slice none 0 0, .slice none 0 0, .bool false, .slice none 0 0], .int .i64 4]) (by simp [results, Try.results13, go_sem]) rfl ?_
          exact IxR.zero 4 rfl (newI_z hal.out hpl.out (er := 4) HE.out (by decide)) HE.out.symm (by with_reducible repeat (first | exact Ext.refl _ | refine Ext.alloc ?_ _ | refine Ext.drewN ?_ _ | refine Ext.trans ?_ (by assumption)))
        by_cases h5 : attr < 0
        · have HA := Lib.hid (attr_bad (pl := pn) (.inl h5))
          have HE := Lib.hid (show newE n kind attr size an pn = 20 from newE_20 HB.out (by omega) HA.out)
          go_enter Try.func13, Try.ntmps13
          go_wp2_with (first | (go_at_call 27; go_loud (refine (sizedR_calls _ kind size).mono ?_; rintro e w1 ⟨he, rfl⟩; rw [hsz] at he; subst he)) | (go_at_call 26; go_loud (refine (sizedR_calls _ kind size).mono ?_; rintro e w1 ⟨he, rfl⟩; rw [hsz] at he; subst he)) | ((with_reducible (show wpList _ _ _ (⟨_, Op.makeSlice _ _ _, _, _, _, _⟩ :: _) _ _)); go_loud (refine wpList_mkM rfl _ _ _ rfl _ infoB Try.underlying22 _ _ (size.toNat) rfl rfl (by omega) ?_; intro g1 w1 hg1 hM1 hE1)))
          refine bodyPost_ret (v := .tuple #[.agg #[.int .i64 0, .int .i64 0, .int .i64 0, .int .i64 0, .slice none 0 0, .slice none 0 0, .bool false, .slice none 0 0], .int .i64 20]) (by simp [results, Try.results13, go_sem]) rfl ?_
          exact IxR.zero 20 rfl (newI_z hal.out hpl.out (er := 20) HE.out (by decide)) HE.out.symm (by with_reducible repeat (first | exact Ext.refl _ | refine Ext.alloc ?_ _ | refine Ext.drewN ?_ _ | refine Ext.trans ?_ (by assumption)))
        by_cases h6 : 127 < attr
        · have HA := Lib.hid (attr_bad (pl := pn) (.inr (.inl h6)))
          have HE := Lib.hid (show newE n kind attr size an pn = 20 from newE_20 HB.out (by omega) HA.out)
          go_enter Try.func13, Try.ntmps13
          go_wp2_with (first | (go_at_call 27; go_loud (refine (sizedR_calls _ kind size).mono ?_; rintro e w1 ⟨he, rfl⟩; rw [hsz] at he; subst he)) | (go_at_call 26; go_loud (refine (sizedR_calls _ kind size).mono ?_; rintro e w1 ⟨he, rfl⟩; rw [hsz] at he; subst he)) | ((with_reducible (show wpList _ _ _ (⟨_, Op.makeSlice _ _ _, _, _, _, _⟩ :: _) _ _)); go_loud (refine wpList_mkM rfl _ _ _ rfl _ infoB Try.underlying22 _ _ (size.toNat) rfl rfl (by omega) ?_; intro g1 w1 hg1 hM1 hE1)))
          refine bodyPost_ret (v := .tuple #[.agg #[.int .i64 0, .int .i64 0, .int .i64 0, .int .i64 0, .slice none 0 0, .slice none 0 0, .bool false, .slice none 0 0], .int .i64 20]) (by simp [results, Try.results13, go_sem]) rfl ?_
          exact IxR.zero 20 rfl (newI_z hal.out hpl.out (er := 20) HE.out (by decide)) HE.out.symm (by with_reducible repeat (first | exact Ext.refl _ | refine Ext.alloc ?_ _ | refine Ext.drewN ?_ _ | refine Ext.trans ?_ (by assumption)))
        cases h21 : (bits BinOp.and IntKind.i64 attr 21 == 0) with
        | true =>
          have HA := Lib.hid (attr_bad (pl := pn) (.inr (.inr (.inl h21))))
          have HE := Lib.hid (show newE n kind attr size an pn = 20 from newE_20 HB.out (by omega) HA.out)
          go_enter Try.func13, Try.ntmps13
          go_wp2_with (first | (go_at_call 27; go_loud (refine (sizedR_calls _ kind size).mono ?_; rintro e w1 ⟨he, rfl⟩; rw [hsz] at he; subst he)) | (go_at_call 26; go_loud (refine (sizedR_calls _ kind size).mono ?_; rintro e w1 ⟨he, rfl⟩; rw [hsz] at he; subst he)) | ((with_reducible (show wpList _ _ _ (⟨_, Op.makeSlice _ _ _, _, _, _, _⟩ :: _) _ _)); go_loud (refine wpList_mkM rfl _ _ _ rfl _ infoB Try.underlying22 _ _ (size.toNat) rfl rfl (by omega) ?_; intro g1 w1 hg1 hM1 hE1)))
          refine bodyPost_ret (v := .tuple #[.agg #[.int .i64 0, .int .i64 0, .int .i64 0, .int .i64 0, .slice none 0 0, .slice none 0 0, .bool false, .slice none 0 0], .int .i64 20]) (by simp [results, Try.results13, go_sem]) rfl ?_
          exact IxR.zero 20 rfl (newI_z hal.out hpl.out (er := 20) HE.out (by decide)) HE.out.symm (by with_reducible repeat (first | exact Ext.refl _ | refine Ext.alloc ?_ _ | refine Ext.drewN ?_ _ | refine Ext.trans ?_ (by assumption)))
        | false =>
        cases h42 : (bits BinOp.and IntKind.i64 attr 42 == 0) with
        | true =>
          have HA := Lib.hid (attr_bad (pl := pn) (.inr (.inr (.inr (.inl h42)))))
          have HE := Lib.hid (show newE n kind attr size an pn = 20 from newE_20 HB.out (by omega) HA.out)
          go_enter Try.func13, Try.ntmps13
          go_wp2_with (first | (go_at_call 27; go_loud (refine (sizedR_calls _ kind size).mono ?_; rintro e w1 ⟨he, rfl⟩; rw [hsz] at he; subst he)) | (go_at_call 26; go_loud (refine (sizedR_calls _ kind size).mono ?_; rintro e w1 ⟨he, rfl⟩; rw [hsz] at he; subst he)) | ((with_reducible (show wpList _ _ _ (⟨_, Op.makeSlice _ _ _, _, _, _, _⟩ :: _) _ _)); go_loud (refine wpList_mkM rfl _ _ _ rfl _ infoB Try.underlying22 _ _ (size.toNat) rfl rfl (by omega) ?_; intro g1 w1 hg1 hM1 hE1)))
          refine bodyPost_ret (v := .tuple #[.agg #[.int .i64 0, .int .i64 0, .int .i64 0, .int .i64 0, .slice none 0 0, .slice none 0 0, .bool false, .slice none 0 0], .int .i64 20]) (by simp [results, Try.results13, go_sem]) rfl ?_
          exact IxR.zero 20 rfl (newI_z hal.out hpl.out (er := 20) HE.out (by decide)) HE.out.symm (by with_reducible repeat (first | exact Ext.refl _ | refine Ext.alloc ?_ _ | refine Ext.drewN ?_ _ | refine Ext.trans ?_ (by assumption)))
        | false =>
        cases h12 : (bits BinOp.and IntKind.i64 attr 12 != 0) with
        | true =>
          have HA := Lib.hid (attr_ok (pl := pn) (by omega) (by omega) h21 h42 (.inr hpz))
          have HE := Lib.hid (show newE n kind attr size an pn = 0 from newE_0 HB.out (by omega) HA.out)
          obtain ⟨s, rfl⟩ := Int.eq_ofNat_of_zero_le (show 0 ≤ size by omega)
          have hk0 := Blk.new w 28 #[.int .i64 0, .int .i64 0, .int .i64 0, .int .i64 0, .slice none 0 0, .slice none 0 0, .bool false, .slice none 0 0]
          go_enter Try.func13, Try.ntmps13
          go_wp2_with (first | (go_at_call 26; go_loud (refine (sizedR_calls _ kind (s : Int)).mono ?_; rintro e w1 ⟨he, rfl⟩; rw [hsz] at he; subst he)) | (go_at_call 27; go_loud (refine (sizedR_calls _ kind (s : Int)).mono ?_; rintro e w1 ⟨he, rfl⟩; rw [hsz] at he; subst he)) | ((with_reducible (show wpList _ _ _ (⟨_, Op.makeSlice _ _ _, _, _, _, _⟩ :: _) _ _)); go_loud (refine wpList_mkM rfl _ _ _ rfl _ infoB Try.underlying22 _ _ (s) rfl rfl (by omega) ?_; intro g1 w1 hg1 hM1 hE1)) | ((with_reducible (show wpList _ _ _ (⟨_, Op.store _ _ _, _, _, _, _⟩ :: _) _ _)); go_loud (refine wpList_stB rfl _ _ _ rfl _ rfl rfl (by refine Blk.ext (by assumption) ?_; (with_reducible repeat (first | exact Ext.refl _ | refine Ext.alloc ?_ _ | refine Ext.drewN ?_ _ | refine Ext.trans ?_ (by assumption)))) (by kernel_rfl) (by rfl) (by simp [Value.oneCell']) ?_; intro w2 hk2 hF2)))
          obtain ⟨q0, q1, q2, q3, q4, q5, q6, q7⟩ := hk2.c8
          refine bodyPost_ret (v := .tuple #[.agg #[.int .i64 n, .int .i64 kind, .int .i64 attr, .int .i64 s, .slice B pn pc, .slice A an ac, .bool false, .slice (some ⟨g1, 0, none⟩) s s], .int .i64 0]) (by simp [results, Try.results13, go_sem, q0, q1, q2, q3, q4, q5, q6, q7]) rfl ?_
          have hEw : Ext w w1 := (by with_reducible repeat (first | exact Ext.refl _ | refine Ext.alloc ?_ _ | refine Ext.drewN ?_ _ | refine Ext.trans ?_ (by assumption)))
          have hne : g1 ≠ w.heap.size := by have := hg1; simp at this; omega
          exact IxR.mk (x := ⟨n, kind, attr, s, pol, auth, false, List.replicate s 0⟩) rfl (by rw [newI_0 hal.out hpl.out HE.out]; simp) HE.out.symm ⟨(((hp.offs _ (fun k _ hk => (by omega : k ≠ w.heap.size))).ext hEw).fr hF2).mono (fun _ _ => trivial), (((ha.offs _ (fun k _ hk => (by omega : k ≠ w.heap.size))).ext hEw).fr hF2).mono (fun _ _ => trivial), (MB.bv (P := fun _ => True) (hM1.fr hF2 hne) trivial (by simp) (Nat.le_refl _) (by omega))⟩ (Ext.over hEw hF2 (Nat.le_refl _))
        | false =>
          have HA := Lib.hid (attr_ok (pl := pn) (by omega) (by omega) h21 h42 (.inl h12))
          have HE := Lib.hid (show newE n kind attr size an pn = 0 from newE_0 HB.out (by omega) HA.out)
          obtain ⟨s, rfl⟩ := Int.eq_ofNat_of_zero_le (show 0 ≤ size by omega)
          have hk0 := Blk.new w 28 #[.int .i64 0, .int .i64 0, .int .i64 0, .int .i64 0, .slice none 0 0, .slice none 0 0, .bool false, .slice none 0 0]
          go_enter Try.func13, Try.ntmps13
          go_wp2_with (first | (go_at_call 26; go_loud (refine (sizedR_calls _ kind (s : Int)).mono ?_; rintro e w1 ⟨he, rfl⟩; rw [hsz] at he; subst he)) | (go_at_call 27; go_loud (refine (sizedR_calls _ kind (s : Int)).mono ?_; rintro e w1 ⟨he, rfl⟩; rw [hsz] at he; subst he)) | ((with_reducible (show wpList _ _ _ (⟨_, Op.makeSlice _ _ _, _, _, _, _⟩ :: _) _ _)); go_loud (refine wpList_mkM rfl _ _ _ rfl _ infoB Try.underlying22 _ _ (s) rfl rfl (by omega) ?_; intro g1 w1 hg1 hM1 hE1)) | ((with_reducible (show wpList _ _ _ (⟨_, Op.store _ _ _, _, _, _, _⟩ :: _) _ _)); go_loud (refine wpList_stB rfl _ _ _ rfl _ rfl rfl (by refine Blk.ext (by assumption) ?_; (with_reducible repeat (first | exact Ext.refl _ | refine Ext.alloc ?_ _ | refine Ext.drewN ?_ _ | refine Ext.trans ?_ (by assumption)))) (by kernel_rfl) (by rfl) (by simp [Value.oneCell']) ?_; intro w2 hk2 hF2)))
          obtain ⟨q0, q1, q2, q3, q4, q5, q6, q7⟩ := hk2.c8
          refine bodyPost_ret (v := .tuple #[.agg #[.int .i64 n, .int .i64 kind, .int .i64 attr, .int .i64 s, .slice B pn pc, .slice A an ac, .bool false, .slice (some ⟨g1, 0, none⟩) s s], .int .i64 0]) (by simp [results, Try.results13, go_sem, q0, q1, q2, q3, q4, q5, q6, q7]) rfl ?_
          have hEw : Ext w w1 := (by with_reducible repeat (first | exact Ext.refl _ | refine Ext.alloc ?_ _ | refine Ext.drewN ?_ _ | refine Ext.trans ?_ (by assumption)))
          have hne : g1 ≠ w.heap.size := by have := hg1; simp at this; omega
          exact IxR.mk (x := ⟨n, kind, attr, s, pol, auth, false, List.replicate s 0⟩) rfl (by rw [newI_0 hal.out hpl.out HE.out]; simp) HE.out.symm ⟨(((hp.offs _ (fun k _ hk => (by omega : k ≠ w.heap.size))).ext hEw).fr hF2).mono (fun _ _ => trivial), (((ha.offs _ (fun k _ hk => (by omega : k ≠ w.heap.size))).ext hEw).fr hF2).mono (fun _ _ => trivial), (MB.bv (P := fun _ => True) (hM1.fr hF2 hne) trivial (by simp) (Nat.le_refl _) (by omega))⟩ (Ext.over hEw hF2 (Nat.le_refl _))
    · have h3c : pn ≠ 0 ∧ pn ≠ 32 := by omega
      have HB := Lib.hid (show badArg n kind size pn = true by unfold badArg; simp [h3c])
      have h3a : ((pn : Int) != 0) = true := by simp; omega
      have h3b : ((pn : Int) != 32) = true := by simp; omega
      clear h3 h3c
      have HE := Lib.hid (show newE n kind attr size an pn = 1 from newE_1 HB.out)
      go_enter Try.func13, Try.ntmps13
      go_wp2_with (first | (go_at_call 27; go_loud (refine (sizedR_calls _ kind size).mono ?_; rintro e w1 ⟨he, rfl⟩; rw [hsz] at he; subst he)) | (go_at_call 26; go_loud (refine (sizedR_calls _ kind size).mono ?_; rintro e w1 ⟨he, rfl⟩; rw [hsz] at he; subst he)) | ((with_reducible (show wpList _ _ _ (⟨_, Op.makeSlice _ _ _, _, _, _, _⟩ :: _) _ _)); go_loud (refine wpList_mkM rfl _ _ _ rfl _ infoB Try.underlying22 _ _ (size.toNat) rfl rfl (by omega) ?_; intro g1 w1 hg1 hM1 hE1)))
      refine bodyPost_ret (v := .tuple #[.agg #[.int .i64 0, .int .i64 0, .int .i64 0, .int .i64 0, .slice none 0 0, .slice none 0 0, .bool false, .slice none 0 0], .int .i64 1]) (by simp [results, Try.results13, go_sem]) rfl ?_
      exact IxR.zero 1 rfl (newI_z hal.out hpl.out (er := 1) HE.out (by decide)) HE.out.symm (by with_reducible repeat (first | exact Ext.refl _ | refine Ext.alloc ?_ _ | refine Ext.drewN ?_ _ | refine Ext.trans ?_ (by assumption)))
end Go.Proofs.Ytdekjkcnfebfnaa
