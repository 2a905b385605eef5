/- Indices: Same; the statements' awake. -/
import Derived.Test.YtdekjkcnfebfnaaIdxR
import Derived.Test.YtdekjkcnfebfnaaIdxN
namespace Go.Proofs.Ytdekjkcnfebfnaa
set_option linter.all false
open Go.RowKit
theorem sameB {P P' : Nat → Prop} (w : World) (A B : Option Addr) (n c m d : Nat) (l r : List UInt8) (h : l = r) (ha : BV w P A n c l) (hb : BV w P' B m d r) :
    Calls Try.prog 20 #[.slice A n c, .slice B m d] w fun e w' => e = .returned (.bool true) ∧ Quiet w w' :=
  (same_calls w A B n c m d l r ha hb).mono fun e w' ⟨h1, h2⟩ => ⟨by rw [h1, h]; simp, h2⟩
set_option maxHeartbeats 2000000 in
theorem sameI_eq {P P' : Nat → Prop} (w : World) (x y : Ix) (hxy : x = y) (pA : Option Addr) (pn pc : Nat) (aA : Option Addr) (an ac : Nat) (dA : Option Addr) (dn dc : Nat) (hx : IxV w P x pA pn pc aA an ac dA dn dc)
    (qA : Option Addr) (qn qc : Nat) (bA : Option Addr) (bn bc : Nat) (eA : Option Addr) (en ec : Nat) (hy : IxV w P' y qA qn qc bA bn bc eA en ec) :
    Calls Try.prog 14 #[.agg #[.int .i64 x.n, .int .i64 x.kind, .int .i64 x.attr, .int .i64 x.size, .slice pA pn pc, .slice aA an ac, .bool x.wr, .slice dA dn dc], .agg #[.int .i64 y.n, .int .i64 y.kind, .int .i64 y.attr, .int .i64 y.size, .slice qA qn qc, .slice bA bn bc, .bool y.wr, .slice eA en ec]] w fun e w' => e = .returned (.bool true) ∧ Ext w w' := by
  subst hxy
  obtain ⟨h1, h2, h3⟩ := hx
  obtain ⟨k1, k2, k3⟩ := hy
  go_enter Try.func14, Try.ntmps14
  go_wp2_with fail
  go_loud (refine (sameB _ pA qA pn pc qn qc x.pol x.pol rfl (h1.ext (by with_reducible repeat (first | exact Ext.refl _ | refine Ext.alloc ?_ _ | refine Ext.drewN ?_ _ | refine Ext.trans ?_ (by assumption)))) (k1.ext (by with_reducible repeat (first | exact Ext.refl _ | refine Ext.alloc ?_ _ | refine Ext.drewN ?_ _ | refine Ext.trans ?_ (by assumption))))).mono ?_)
  rintro e w5 ⟨rfl, q1, rfl⟩
  go_wp2_with fail
  go_loud (refine (sameB _ aA bA an ac bn bc x.auth x.auth rfl (h2.ext (by with_reducible repeat (first | exact Ext.refl _ | refine Ext.alloc ?_ _ | refine Ext.drewN ?_ _ | refine Ext.trans ?_ (by assumption)))) (k2.ext (by with_reducible repeat (first | exact Ext.refl _ | refine Ext.alloc ?_ _ | refine Ext.drewN ?_ _ | refine Ext.trans ?_ (by assumption))))).mono ?_)
  rintro e w5 ⟨rfl, q2, rfl⟩
  go_wp2_with fail
  go_loud (refine (sameB _ dA eA dn dc en ec x.data x.data rfl (h3.ext (by with_reducible repeat (first | exact Ext.refl _ | refine Ext.alloc ?_ _ | refine Ext.drewN ?_ _ | refine Ext.trans ?_ (by assumption)))) (k3.ext (by with_reducible repeat (first | exact Ext.refl _ | refine Ext.alloc ?_ _ | refine Ext.drewN ?_ _ | refine Ext.trans ?_ (by assumption))))).mono ?_)
  rintro e w5 ⟨rfl, q3, rfl⟩
  go_wp2_with fail
  go_ret
  exact ⟨rfl, (by with_reducible repeat (first | exact Ext.refl _ | refine Ext.alloc ?_ _ | refine Ext.drewN ?_ _ | refine Ext.trans ?_ (by assumption)))⟩
/-- What an index's box holds. -/
def BoxI (w : World) (g : Nat) (x : Ix) (pA : Option Addr) (pn pc : Nat) (aA : Option Addr) (an ac : Nat) (dA : Option Addr) (dn dc : Nat) : Prop := Blk w g 28 #[.int .i64 x.n, .int .i64 x.kind, .int .i64 x.attr, .int .i64 x.size, .slice pA pn pc, .slice aA an ac, .bool x.wr, .slice dA dn dc]
theorem newE_awake : newE 1 1 3 4 0 0 = 0 := by decide
theorem newI_awake : newI 1 1 3 4 [] [] = ⟨1, 1, 3, 4, [], [], false, [0, 0, 0, 0]⟩ := newI_0 rfl rfl newE_awake
def ix0 : Ix := ⟨1, 1, 3, 4, [], [], false, [0, 0, 0, 0]⟩
def ix1 : Ix := ⟨1, 1, 3, 4, [], [], true, [0, 9, 0, 0]⟩
theorem writeE_awake : writeE' ix0 1 1 = 0 := by decide
theorem writeI_awake : writeI' ix0 1 [9] = ix1 := by rw [writeI_0 (m := 1) rfl writeE_awake]; rfl
theorem readE_awake : readE' ix1 0 4 = 0 := by decide
theorem readB_awake : readB' ix1 0 4 = [0, 9, 0, 0] := by rw [readB_0 readE_awake]; rfl
theorem lit1b (w : World) (t : TypeId) (v : Int) (b : UInt8) (h : v = (b.toNat : Int)) : BV (w.alloc (.cells #[.int .u8 v] t)) (fun _ => True) (some ⟨w.heap.size, 0, none⟩) 1 1 [b] := by
  subst h
  refine Row.of_own (base := w.heap.size) (e := t) ?_ (fun _ _ => trivial)
  have h := World.ownsRow_lit (e := t) (size := 1) (base := w.heap.size) w #[.int .u8 (b.toNat : Int)] 1 (Nat.le_refl _) (by simp [maxLen]) (by simp)
  simpa [u8s] using h
set_option maxHeartbeats 2000000 in
theorem awake_calls (w : World) : Calls Try.prog 9 #[] w fun e w' => e = .returned (.bool true) ∧ Ext w w' := by
  go_enter Try.func9, Try.ntmps9
  go_wp2_with fail
  go_loud (refine (newP_calls (P1 := fun _ => True) (P2 := fun _ => True) w 1 1 3 4 none 0 0 [] (BV.nil_ _ _) none 0 0 [] (BV.nil_ _ _)).mono ?_)
  rintro e w1 ⟨x1, e1, pA, pn, pc, aA, an, ac, dA, dn, dc, rfl, H1, hI1, hE1⟩
  obtain ⟨rfl, rfl⟩ : x1 = ⟨1, 1, 3, 4, [], [], false, [0, 0, 0, 0]⟩ ∧ e1 = 0 := by have := H1.out; exact ⟨this.1.trans newI_awake, this.2.trans newE_awake⟩
  obtain rfl : 4 = dn := hI1.2.2.len
  go_upto_region 2 with fail
  refine wp_forget (fun w9 => Blk w9 w1.heap.size 28 #[.int .i64 1, .int .i64 1, .int .i64 3, .int .i64 4, .slice pA pn pc, .slice aA an ac, .bool false, .slice dA 4 dc] ∧ Ext w1 w9) ⟨Blk.new _ _ _, (by with_reducible repeat (first | exact Ext.refl _ | refine Ext.alloc ?_ _ | refine Ext.drewN ?_ _ | refine Ext.trans ?_ (by assumption)))⟩ ?_
  rintro w9 ⟨hk9, hE9⟩
  go_wp2_with ((with_reducible (show wpList _ _ _ (⟨_, Op.load _ _, _, _, _, _⟩ :: _) _ _)); refine wpList_ldB rfl _ _ rfl _ rfl (by refine Blk.ext (by assumption) ?_; (with_reducible repeat (first | exact Ext.refl _ | refine Ext.alloc ?_ _ | refine Ext.drewN ?_ _ | refine Ext.trans ?_ (by assumption)))) (by kernel_rfl) (by kernel_rfl) ?_)
  go_loud (refine (writeP_calls _ ⟨1, 1, 3, 4, [], [], false, [0, 0, 0, 0]⟩ pA pn pc aA an ac dA 4 dc (hI1.ext (by with_reducible repeat (first | exact Ext.refl _ | refine Ext.alloc ?_ _ | refine Ext.drewN ?_ _ | refine Ext.trans ?_ (by assumption)))) (by omega) 1 _ 1 1 [9] (lit1b w9 _ 9 9 rfl) (by omega)).mono ?_)
  rintro e w2 ⟨x2, e2, pA2, pn2, pc2, aA2, an2, ac2, dA2, dn2, dc2, rfl, H2, hI2, hE2⟩
  obtain ⟨rfl, rfl⟩ : x2 = ⟨1, 1, 3, 4, [], [], true, [0, 9, 0, 0]⟩ ∧ e2 = 0 := by have := H2.out; exact ⟨this.1.trans writeI_awake, this.2.trans writeE_awake⟩
  obtain rfl : 4 = dn2 := hI2.2.2.len
  go_wp2_with fail
  go_loud (refine (readP_calls _ ⟨1, 1, 3, 4, [], [], true, [0, 9, 0, 0]⟩ pA2 pn2 pc2 aA2 an2 ac2 dA2 4 dc2 (hI2.ext (by with_reducible repeat (first | exact Ext.refl _ | refine Ext.alloc ?_ _ | refine Ext.drewN ?_ _ | refine Ext.trans ?_ (by assumption)))) (by omega) 0 4).mono ?_)
  rintro e w3 ⟨S3, n3, k3, l3, e3, rfl, H3, hO3, hE3⟩
  obtain ⟨rfl, rfl⟩ : l3 = [0, 9, 0, 0] ∧ e3 = 0 := by have := H3.out; exact ⟨this.1.trans readB_awake, this.2.trans readE_awake⟩
  obtain rfl : 4 = n3 := hO3.len
  obtain ⟨b, off, rfl, hl, hc⟩ := (OB.bv (P := fun _ => True) hO3 (fun _ _ => trivial)).at_ (show 1 < 4 by omega)
  have hc1 : w3.cell? ⟨b, off + 1, none⟩ = some (.int .u8 9) := hc
  clear hc
  go_wp2
  go_ret
  exact ⟨rfl, (by with_reducible repeat (first | exact Ext.refl _ | refine Ext.alloc ?_ _ | refine Ext.drewN ?_ _ | refine Ext.trans ?_ (by assumption)))⟩
end Go.Proofs.Ytdekjkcnfebfnaa
