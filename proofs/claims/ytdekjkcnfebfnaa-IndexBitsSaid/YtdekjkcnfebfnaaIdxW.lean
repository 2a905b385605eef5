/- Indices: written, inside, Write, Read of the program; Same of the reference. -/
import Derived.Test.YtdekjkcnfebfnaaIdxS
namespace Go.Proofs.Ytdekjkcnfebfnaa
set_option linter.all false
open Go.RowKit
def insideS (dl : Nat) (off n : Int) : Bool := decide (0 ≤ off ∧ 0 ≤ n ∧ off + n ≤ dl)
def writeE' (x : Ix) (off : Int) (m : Nat) : Int := if x.kind ≠ 1 then 19 else if insideS x.data.length off m = true then 0 else 24
def writeI' (x : Ix) (off : Int) (l : List UInt8) : Ix := if writeE' x off l.length = 0 then { x with wr := true, data := spliceB x.data off.toNat l } else zeroIx
def readE' (x : Ix) (off size : Int) : Int := if x.wr = false then 22 else if insideS x.data.length off size = true then 0 else 24
def readB' (x : Ix) (off size : Int) : List UInt8 := if readE' x off size = 0 then (x.data.drop off.toNat).take size.toNat else []
theorem insideS_true {dl : Nat} {off n : Int} (h : insideS dl off n = true) : 0 ≤ off ∧ 0 ≤ n ∧ off + n ≤ dl := by unfold insideS at h; simpa using h
theorem insideS_cases (dl : Nat) (off n : Int) : (0 ≤ off ∧ 0 ≤ n ∧ off ≤ dl ∧ n ≤ dl - off ∧ insideS dl off n = true) ∨ (off < 0 ∧ insideS dl off n = false) ∨ (0 ≤ off ∧ n < 0 ∧ insideS dl off n = false) ∨ (0 ≤ off ∧ 0 ≤ n ∧ (dl : Int) < off ∧ insideS dl off n = false) ∨ (0 ≤ off ∧ 0 ≤ n ∧ off ≤ dl ∧ dl - off < n ∧ insideS dl off n = false) := by
  unfold insideS
  simp only [decide_eq_true_eq, decide_eq_false_iff_not]
  omega
set_option maxHeartbeats 1000000 in
theorem insideP_calls (w : World) (x : Ix) (pA : Option Addr) (pn pc : Nat) (aA : Option Addr) (an ac : Nat) (dA : Option Addr) (dn dc : Nat) (hdn : dn ≤ 35184372088832) (off n : Int) :
    Calls Try.prog 30 #[.agg #[.int .i64 x.n, .int .i64 x.kind, .int .i64 x.attr, .int .i64 x.size, .slice pA pn pc, .slice aA an ac, .bool x.wr, .slice dA dn dc], .int .i64 off, .int .i64 n] w fun e w' => e = .returned (.bool (insideS dn off n)) ∧ Ext w w' := by
  rcases insideS_cases dn off n with ⟨h1, h2, h3, h4, hI⟩ | ⟨h1, hI⟩ | ⟨h1, h2, hI⟩ | ⟨h1, h2, h3, hI⟩ | ⟨h1, h2, h3, h4, hI⟩
  all_goals have HI := Lib.hid hI
  all_goals clear hI
  · go_enter Try.func30, Try.ntmps30
    go_wp2
    go_ret
    exact ⟨by rw [HI.out]; rfl, (Ext.refl _).alloc _⟩
  · go_enter Try.func30, Try.ntmps30
    go_wp2
    go_ret
    exact ⟨by rw [HI.out]; rfl, (Ext.refl _).alloc _⟩
  · have h5 : decide (0 ≤ n) = false := by simp; omega
    go_enter Try.func30, Try.ntmps30
    go_wp2
    go_ret
    exact ⟨by rw [HI.out]; rfl, (Ext.refl _).alloc _⟩
  · have h5 : decide (off ≤ (dn : Int)) = false := by simp; omega
    go_enter Try.func30, Try.ntmps30
    go_wp2
    go_ret
    exact ⟨by rw [HI.out]; rfl, (Ext.refl _).alloc _⟩
  · have h5 : decide (n ≤ (dn : Int) - off) = false := by simp; omega
    go_enter Try.func30, Try.ntmps30
    go_wp2
    go_ret
    exact ⟨by rw [HI.out]; rfl, (Ext.refl _).alloc _⟩
set_option maxHeartbeats 1000000 in
theorem writtenP_calls (w : World) (x : Ix) (pA : Option Addr) (pn pc : Nat) (aA : Option Addr) (an ac : Nat) (dA : Option Addr) (dn dc : Nat) (eA : Option Addr) (en ec : Nat) :
    Calls Try.prog 31 #[.agg #[.int .i64 x.n, .int .i64 x.kind, .int .i64 x.attr, .int .i64 x.size, .slice pA pn pc, .slice aA an ac, .bool x.wr, .slice dA dn dc], .slice eA en ec] w fun e w' => e = .returned (.agg #[.int .i64 x.n, .int .i64 x.kind, .int .i64 x.attr, .int .i64 x.size, .slice pA pn pc, .slice aA an ac, .bool true, .slice eA en ec]) ∧ Ext w w' := by
  go_enter Try.func31, Try.ntmps31
  go_wp2
  refine bodyPost_ret (v := .agg #[.int .i64 x.n, .int .i64 x.kind, .int .i64 x.attr, .int .i64 x.size, .slice pA pn pc, .slice aA an ac, .bool true, .slice eA en ec]) (by simp [results, Try.results31, go_sem]) rfl ?_
  exact ⟨rfl, (by with_reducible repeat (first | exact Ext.refl _ | refine Ext.alloc ?_ _ | refine Ext.drewN ?_ _ | refine Ext.trans ?_ (by assumption)))⟩
section
variable {x : Ix} {off : Int} {l : List UInt8} {m : Nat}
theorem writeI_z {er : Int} (hm : l.length = m) (h : writeE' x off m = er) (h0 : er ≠ 0) : zeroIx = writeI' x off l := by unfold writeI'; rw [hm, h, if_neg h0]
theorem writeI_0 (hm : l.length = m) (h : writeE' x off m = 0) : writeI' x off l = { x with wr := true, data := spliceB x.data off.toNat l } := by unfold writeI'; rw [hm, h, if_pos rfl]
end
/-- The two boxes of a function that takes an index and hands one back. -/
theorem boxes (w : World) (t : TypeId) (cs zs : Array Value) : Blk ((w.alloc (.cells cs t)).alloc (.cells zs t)) w.heap.size t cs ∧ Blk ((w.alloc (.cells cs t)).alloc (.cells zs t)) (w.heap.size + 1) t zs :=
  ⟨(Blk.new w t cs).alloc _, Blk.new' (by simp)⟩
set_option maxHeartbeats 2000000 in
theorem writeP_calls {P PX : Nat → Prop} (w : World) (x : Ix) (pA : Option Addr) (pn pc : Nat) (aA : Option Addr) (an ac : Nat) (dA : Option Addr) (dn dc : Nat) (hx : IxV w P x pA pn pc aA an ac dA dn dc) (hdn : dn ≤ 35184372088832) (off : Int)
    (D : Option Addr) (m mc : Nat) (l : List UInt8) (hl : BV w PX D m mc l) (hm : m ≤ 35184372088832) :
    Calls Try.prog 16 #[.agg #[.int .i64 x.n, .int .i64 x.kind, .int .i64 x.attr, .int .i64 x.size, .slice pA pn pc, .slice aA an ac, .bool x.wr, .slice dA dn dc], .int .i64 off, .slice D m mc] w (IxR w (writeI' x off l) (writeE' x off m)) := by
  have HM := Lib.hid hl.len
  have HD := Lib.hid hx.2.2.len
  by_cases hk : x.kind = 1
  · have hk1 : (x.kind != 1) = false := by simp [hk]
    cases hi : insideS dn off m with
    | false =>
      have HI := Lib.hid hi
      have HE := Lib.hid (show writeE' x off m = 24 by unfold writeE'; rw [if_neg (by simp [hk]), HD.out, hi]; simp)
      clear hi hk
      have hbx := boxes w 28 #[.int .i64 x.n, .int .i64 x.kind, .int .i64 x.attr, .int .i64 x.size, .slice pA pn pc, .slice aA an ac, .bool x.wr, .slice dA dn dc] #[.int .i64 0, .int .i64 0, .int .i64 0, .int .i64 0, .slice none 0 0, .slice none 0 0, .bool false, .slice none 0 0]
      go_enter Try.func16, Try.ntmps16
      go_upto_region 3 with fail
      refine wp_forget (fun w2 => Blk w2 w.heap.size 28 #[.int .i64 x.n, .int .i64 x.kind, .int .i64 x.attr, .int .i64 x.size, .slice pA pn pc, .slice aA an ac, .bool x.wr, .slice dA dn dc] ∧ Blk w2 (w.heap.size + 1) 28 #[.int .i64 0, .int .i64 0, .int .i64 0, .int .i64 0, .slice none 0 0, .slice none 0 0, .bool false, .slice none 0 0] ∧ Ext w w2) ⟨hbx.1, hbx.2, (by with_reducible repeat (first | exact Ext.refl _ | refine Ext.alloc ?_ _ | refine Ext.drewN ?_ _ | refine Ext.trans ?_ (by assumption)))⟩ ?_
      clear hbx
      rintro w2 ⟨hkx, hkr, hE2⟩
      obtain ⟨q0, q1, q2, q3, q4, q5, q6, q7⟩ := hkr.c8
      go_wp2_with (first | ((with_reducible (show wpList _ _ _ (⟨_, Op.load _ _, _, _, _, _⟩ :: _) _ _)); refine wpList_ldB rfl _ _ rfl _ rfl (by refine Blk.ext (by assumption) ?_; (with_reducible repeat (first | exact Ext.refl _ | refine Ext.alloc ?_ _ | refine Ext.drewN ?_ _ | refine Ext.trans ?_ (by assumption)))) (by kernel_rfl) (by kernel_rfl) ?_) | (go_at_call 30; go_loud (refine (insideP_calls _ x pA pn pc aA an ac dA dn dc (by omega) off _).mono ?_; rintro e w3 ⟨he, hE3⟩; rw [HI.out] at he; subst he)) | ((with_reducible (show wpList _ _ _ (⟨_, Op.store _ _ _, _, _, _, _⟩ :: _) _ _)); go_loud (refine wpList_stB rfl _ _ _ rfl _ rfl rfl (by refine Blk.ext (by assumption) ?_; (with_reducible repeat (first | exact Ext.refl _ | refine Ext.alloc ?_ _ | refine Ext.drewN ?_ _ | refine Ext.trans ?_ (by assumption)))) (by kernel_rfl) (by rfl) (by simp [Value.oneCell']) ?_; intro w4 hk4 hF4)))
      obtain ⟨r0, r1, r2, r3, r4, r5, r6, r7⟩ := hk4.c8
      refine bodyPost_ret (v := .tuple #[.agg #[.int .i64 0, .int .i64 0, .int .i64 0, .int .i64 0, .slice none 0 0, .slice none 0 0, .bool false, .slice none 0 0], .int .i64 24]) (by simp [results, Try.results16, go_sem, r0, r1, r2, r3, r4, r5, r6, r7]) rfl ?_
      exact IxR.zero 24 rfl (writeI_z HM.out (er := 24) HE.out (by decide)) HE.out.symm (Ext.over (show Ext w w3 from (by with_reducible repeat (first | exact Ext.refl _ | refine Ext.alloc ?_ _ | refine Ext.drewN ?_ _ | refine Ext.trans ?_ (by assumption)))) hF4 (by omega))
    | true =>
      have HI := Lib.hid hi
      have HE := Lib.hid (show writeE' x off m = 0 by unfold writeE'; rw [if_neg (by simp [hk]), HD.out, hi]; simp)
      have hin := insideS_true hi
      clear hi hk
      obtain ⟨k, rfl⟩ := Int.eq_ofNat_of_zero_le hin.1
      have hbx := boxes w 28 #[.int .i64 x.n, .int .i64 x.kind, .int .i64 x.attr, .int .i64 x.size, .slice pA pn pc, .slice aA an ac, .bool x.wr, .slice dA dn dc] #[.int .i64 0, .int .i64 0, .int .i64 0, .int .i64 0, .slice none 0 0, .slice none 0 0, .bool false, .slice none 0 0]
      go_enter Try.func16, Try.ntmps16
      go_upto_region 3 with fail
      refine wp_forget (fun w2 => Blk w2 w.heap.size 28 #[.int .i64 x.n, .int .i64 x.kind, .int .i64 x.attr, .int .i64 x.size, .slice pA pn pc, .slice aA an ac, .bool x.wr, .slice dA dn dc] ∧ Blk w2 (w.heap.size + 1) 28 #[.int .i64 0, .int .i64 0, .int .i64 0, .int .i64 0, .slice none 0 0, .slice none 0 0, .bool false, .slice none 0 0] ∧ Ext w w2) ⟨hbx.1, hbx.2, (by with_reducible repeat (first | exact Ext.refl _ | refine Ext.alloc ?_ _ | refine Ext.drewN ?_ _ | refine Ext.trans ?_ (by assumption)))⟩ ?_
      clear hbx
      rintro w2 ⟨hkx, hkr, hE2⟩
      have hkn : k ≤ dn := by omega
      have hle := hx.2.2.le
      go_wp2_with (first | ((with_reducible (show wpList _ _ _ (⟨_, Op.load _ _, _, _, _, _⟩ :: _) _ _)); refine wpList_ldB rfl _ _ rfl _ rfl (by refine Blk.ext (by assumption) ?_; (with_reducible repeat (first | exact Ext.refl _ | refine Ext.alloc ?_ _ | refine Ext.drewN ?_ _ | refine Ext.trans ?_ (by assumption)))) (by kernel_rfl) (by kernel_rfl) ?_) | ((with_reducible (show wpList _ _ _ (⟨_, Op.load _ _, _, _, _, _⟩ :: _) _ _)); refine wpList_ldC rfl _ _ rfl _ rfl _ (by refine Eq.trans (Blk.cell (Blk.ext (by assumption) (by (with_reducible repeat (first | exact Ext.refl _ | refine Ext.alloc ?_ _ | refine Ext.drewN ?_ _ | refine Ext.trans ?_ (by assumption))))) _) ?_; rfl) (by kernel_rfl) ?_) | (go_at_call 30; go_loud (refine (insideP_calls _ x pA pn pc aA an ac dA dn dc (by omega) (k : Int) _).mono ?_; rintro e w3 ⟨he, hE3⟩; rw [HI.out] at he; subst he)) | (at_builtin; go_loud (refine wpList_appO rfl _ _ _ rfl _ infoB Try.underlying22 w3.heap.size _ _ _ [] rfl (OB.nil_ _ _ _) dA dn dc x.data rfl ((hx.2.2.ext hE2).ext hE3) (by omega) (Nat.le_refl _) ?_; intro S4 k4 w4 hO4 hB4; simp only [Nat.zero_add, List.nil_append] at hO4)) | ((with_reducible (show wpList _ _ _ (⟨_, Op.slice _ _ _ _ _, _, _, _, _⟩ :: _) _ _)); go_loud (refine wpList_cutO rfl _ _ _ rfl _ Try.underlying22 infoB S4 dn k4 rfl k _ rfl (by omega) ?_)) | ((with_reducible (show wpList _ _ _ (⟨_, Op.call ⟨Callee.builtin Builtin.copy, _, _⟩, _, _, _, _⟩ :: _) _ _)); go_loud (refine wpList_cpO rfl _ _ _ _ rfl _ Try.underlying22 infoB rfl ((hl.ext hE2).ext (hE3.trans (below_ext hB4 (Nat.le_refl _)))) hO4 k (by omega) rfl ?_; intro w5 hO5 hB5; have hE5 := Ext.step (below_ext hB4 (Nat.le_refl _)) hB5 (Nat.le_refl _))) | (go_at_call 31; go_loud (refine (writtenP_calls _ x pA pn pc aA an ac dA dn dc S4 dn k4).mono ?_; rintro e w6 ⟨rfl, hE6⟩)) | ((with_reducible (show wpList _ _ _ (⟨_, Op.store _ _ _, _, _, _, _⟩ :: _) _ _)); go_loud (refine wpList_stB rfl _ _ _ rfl _ rfl rfl (by refine Blk.ext (by assumption) ?_; (with_reducible repeat (first | exact Ext.refl _ | refine Ext.alloc ?_ _ | refine Ext.drewN ?_ _ | refine Ext.trans ?_ (by assumption)))) (by kernel_rfl) (by rfl) (by simp [Value.oneCell']) ?_; intro w7 hk7 hF7)))
      obtain ⟨r0, r1, r2, r3, r4, r5, r6, r7⟩ := hk7.c8
      refine bodyPost_ret (v := .tuple #[.agg #[.int .i64 x.n, .int .i64 x.kind, .int .i64 x.attr, .int .i64 x.size, .slice pA pn pc, .slice aA an ac, .bool true, .slice S4 dn k4], .int .i64 0]) (by simp [results, Try.results16, go_sem, r0, r1, r2, r3, r4, r5, r6, r7]) rfl ?_
      have hEw : Ext w w6 := (by with_reducible repeat (first | exact Ext.refl _ | refine Ext.alloc ?_ _ | refine Ext.drewN ?_ _ | refine Ext.trans ?_ (by assumption)))
      have hz3 : w.heap.size + 2 ≤ w3.heap.size := by have h1 := hkr.lt; have h2 := hE3.size; omega
      have hd6 : BV w6 (fun k => k ≠ w.heap.size + 1) S4 dn k4 (spliceB x.data k (l.take (dn - k))) := (OB.bv (P := fun k => k ≠ w.heap.size + 1) hO5 (fun q hq => by omega)).ext hE6
      have htk : l.take (dn - k) = l := List.take_of_length_le (by rw [HM.out]; omega)
      rw [htk] at hd6
      have hoff := fun (q : Nat) (_ : P q) (hq : q < w.heap.size) => (show q ≠ w.heap.size + 1 by omega)
      exact IxR.mk (x := { x with wr := true, data := spliceB x.data k l }) rfl (by rw [writeI_0 HM.out HE.out]; simp) HE.out.symm ⟨(((hx.1.offs _ hoff).ext hEw).fr hF7).mono (fun _ _ => trivial), (((hx.2.1.offs _ hoff).ext hEw).fr hF7).mono (fun _ _ => trivial), (hd6.fr hF7).mono (fun _ _ => trivial)⟩ (Ext.over hEw hF7 (by omega))
  · have hk1 : (x.kind != 1) = true := by simp [hk]
    have HE := Lib.hid (show writeE' x off m = 19 by unfold writeE'; rw [if_pos hk])
    have HI : Hid (insideS dn off m = insideS dn off m) := Lib.hid rfl
    clear hk
    go_enter Try.func16, Try.ntmps16
    go_wp2_with (first | (go_at_call 30; go_loud (refine (insideP_calls _ x pA pn pc aA an ac dA dn dc (by omega) off _).mono ?_; rintro e w3 ⟨he, hE3⟩; rw [HI.out] at he; subst he)))
    refine bodyPost_ret (v := .tuple #[.agg #[.int .i64 0, .int .i64 0, .int .i64 0, .int .i64 0, .slice none 0 0, .slice none 0 0, .bool false, .slice none 0 0], .int .i64 19]) (by simp [results, Try.results16, go_sem]) rfl ?_
    exact IxR.zero 19 rfl (writeI_z HM.out (er := 19) HE.out (by decide)) HE.out.symm (by with_reducible repeat (first | exact Ext.refl _ | refine Ext.alloc ?_ _ | refine Ext.drewN ?_ _ | refine Ext.trans ?_ (by assumption)))
end Go.Proofs.Ytdekjkcnfebfnaa
