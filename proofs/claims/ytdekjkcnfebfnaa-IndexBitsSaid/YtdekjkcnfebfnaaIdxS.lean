/- Non-volatile indices, in plain words; the parts that both texts share. -/
import Derived.Test.YtdekjkcnfebfnaaLib5
import Derived.Test.YtdekjkcnfebfnaaRef1
namespace Go.Proofs.Ytdekjkcnfebfnaa
set_option linter.all false
open Go.RowKit
structure Ix where
  n : Int
  kind : Int
  attr : Int
  size : Int
  pol : List UInt8
  auth : List UInt8
  wr : Bool
  data : List UInt8
def sizedS (kind size : Int) : Bool := if kind = 1 then decide (1 ≤ size ∧ size ≤ 128) else if kind = 2 ∨ kind = 3 then decide (size = 8) else if kind = 4 then decide (size = 32) else false
def badAttr (attr : Int) (pl : Nat) : Bool := decide (attr < 0) || decide (127 < attr) || (bits BinOp.and IntKind.i64 attr 21 == 0) || (bits BinOp.and IntKind.i64 attr 42 == 0) || (bits BinOp.and IntKind.i64 attr 12 != 0 && decide (pl = 0))
def badArg (n kind size : Int) (pl : Nat) : Bool := decide (n < 0) || decide (255 < n) || !sizedS kind size || (decide (pl ≠ 0) && decide (pl ≠ 32))
def zeroIx : Ix := ⟨0, 0, 0, 0, [], [], false, []⟩
def newE (n kind attr size : Int) (al pl : Nat) : Int := if badArg n kind size pl = true then 1 else if 32 < al then 4 else if badAttr attr pl = true then 20 else 0
def newI (n kind attr size : Int) (auth pol : List UInt8) : Ix :=
  if newE n kind attr size auth.length pol.length = 0 then ⟨n, kind, attr, size, pol, auth, false, List.replicate size.toNat 0⟩ else zeroIx
theorem sized_bound {kind size : Int} (h : sizedS kind size = true) : 1 ≤ size ∧ size ≤ 128 := by
  unfold sizedS at h
  repeat' split at h
  all_goals first | (simp at h; done) | (simp only [decide_eq_true_eq] at h; omega)
/-- An index that lies in blocks of P. -/
def IxV (w : World) (P : Nat → Prop) (x : Ix) (pA : Option Addr) (pn pc : Nat) (aA : Option Addr) (an ac : Nat) (dA : Option Addr) (dn dc : Nat) : Prop := BV w P pA pn pc x.pol ∧ BV w P aA an ac x.auth ∧ BV w P dA dn dc x.data
section
variable {w w' : World} {P P' : Nat → Prop} {x : Ix} {pA aA dA : Option Addr} {pn pc an ac dn dc : Nat}
theorem IxV.fr (h : IxV w P x pA pn pc aA an ac dA dn dc) (e : Fr P w w') : IxV w' P x pA pn pc aA an ac dA dn dc := ⟨h.1.fr e, h.2.1.fr e, h.2.2.fr e⟩
theorem IxV.ext (h : IxV w P x pA pn pc aA an ac dA dn dc) (e : Ext w w') : IxV w' P x pA pn pc aA an ac dA dn dc := ⟨h.1.ext e, h.2.1.ext e, h.2.2.ext e⟩
theorem IxV.mono (h : IxV w P x pA pn pc aA an ac dA dn dc) (hp : ∀ k, P k → P' k) : IxV w P' x pA pn pc aA an ac dA dn dc := ⟨h.1.mono hp, h.2.1.mono hp, h.2.2.mono hp⟩
theorem IxV.zero (w : World) (P : Nat → Prop) : IxV w P zeroIx none 0 0 none 0 0 none 0 0 := ⟨BV.nil_ _ _, BV.nil_ _ _, BV.nil_ _ _⟩
end
/-- What hands back an index and an error. -/
def IxR (w : World) (X : Ix) (E : Int) (e : Ending) (w' : World) : Prop :=
  ∃ x er pA pn pc aA an ac dA dn dc, e = .returned (.tuple #[.agg #[.int .i64 x.n, .int .i64 x.kind, .int .i64 x.attr, .int .i64 x.size, .slice pA pn pc, .slice aA an ac, .bool x.wr, .slice dA dn dc], .int .i64 er]) ∧ Hid (x = X ∧ er = E) ∧ IxV w' (fun _ => True) x pA pn pc aA an ac dA dn dc ∧ Ext w w'
theorem IxR.mk {w w' : World} {X x : Ix} {E er : Int} {e : Ending} {pA aA dA : Option Addr} {pn pc an ac dn dc : Nat} (he : e = .returned (.tuple #[.agg #[.int .i64 x.n, .int .i64 x.kind, .int .i64 x.attr, .int .i64 x.size, .slice pA pn pc, .slice aA an ac, .bool x.wr, .slice dA dn dc], .int .i64 er])) (hx : x = X) (her : er = E) (h : IxV w' (fun _ => True) x pA pn pc aA an ac dA dn dc) (hE : Ext w w') : IxR w X E e w' :=
  ⟨x, er, pA, pn, pc, aA, an, ac, dA, dn, dc, he, Lib.hid ⟨hx, her⟩, h, hE⟩
theorem IxR.zero {w w' : World} {X : Ix} {E : Int} {e : Ending} (er : Int) (he : e = .returned (.tuple #[.agg #[.int .i64 0, .int .i64 0, .int .i64 0, .int .i64 0, .slice none 0 0, .slice none 0 0, .bool false, .slice none 0 0], .int .i64 er])) (hx : zeroIx = X) (her : er = E) (hE : Ext w w') : IxR w X E e w' :=
  IxR.mk (x := zeroIx) he hx her (IxV.zero _ _) hE
/-! ### Helpers of the statements -/
theorem mod_calls (w : World) (n m : Int) (hm : 1 ≤ m) (hm2 : m ≤ 1099511627776) :
    Calls Try.prog 10 #[.int .i64 n, .int .i64 m] w fun e w' => e = .returned (.int .i64 (n % m)) ∧ w = w' := by
  have hm0 : m ≠ 0 := by omega
  have hb := Int.emod_nonneg n hm0
  have hb2 := Int.emod_lt_of_pos n (show 0 < m by omega)
  by_cases h0 : 0 ≤ n
  · go_enter Try.func10, Try.ntmps10
    go_wp2
    go_ret
    exact ⟨rfl, rfl⟩
  · have hr : n.tmod m = if n % m = 0 then 0 else n % m - m := by
      rw [Int.tmod_eq_emod]; split <;> split <;> omega
    by_cases hz : n % m = 0
    · go_enter Try.func10, Try.ntmps10
      go_wp2
      all_goals (go_ret; exact ⟨rfl, rfl⟩)
    · go_enter Try.func10, Try.ntmps10
      go_wp2
      all_goals (go_ret; exact ⟨rfl, rfl⟩)
def seedS (b : List UInt8) : List UInt8 := spliceB (List.replicate 32 0) 0 (b.take 32)
theorem seedS_len (b : List UInt8) : (seedS b).length = 32 := by
  unfold seedS; rw [spliceB_len _ _ _ (by simp; omega)]; simp
theorem goMin (m : Nat) : min (m : Int) 32 = ((min m 32 : Nat) : Int) := by omega
theorem seed_calls {P : Nat → Prop} (w : World) (A : Option Addr) (n c : Nat) (l : List UInt8) (ha : BV w P A n c l) :
    Calls Try.prog 11 #[.slice A n c] w fun e w' => ∃ g, e = .returned (.slice (some ⟨g, 0, none⟩) 32 32) ∧ w.heap.size ≤ g ∧ MB w' g 5 (seedS l) ∧ Ext w w' := by
  go_enter Try.func11, Try.ntmps11
  go_wp2_with (first | ((with_reducible (show wpList _ _ _ (⟨_, Op.makeSlice _ _ _, _, _, _, _⟩ :: _) _ _)); go_loud (refine wpList_mkM rfl _ _ _ rfl _ infoB Try.underlying22 _ _ (32) rfl rfl (by omega) ?_; intro g1 w1 hg1 hM1 hE1)) | ((with_reducible (show wpList _ _ _ (⟨_, Op.call ⟨Callee.builtin Builtin.copy, _, _⟩, _, _, _, _⟩ :: _) _ _)); go_loud (refine wpList_cpM rfl _ _ _ _ rfl _ Try.underlying22 infoB rfl rfl (ha.ext hE1) g1 0 (fun _ => rfl) hM1 (by simp) ?_; intro w2 hM2 hF2)))
  go_ret
  exact ⟨g1, rfl, hg1, hM2, Ext.over hE1 hF2 hg1⟩
theorem sizedP_calls (w : World) (kind size : Int) : Calls Try.prog 26 #[.int .i64 kind, .int .i64 size] w fun e w' => e = .returned (.bool (sizedS kind size)) ∧ w = w' := by
  by_cases h1 : kind = 1
  · subst h1
    have e : sizedS 1 size = decide (1 ≤ size ∧ size ≤ 128) := rfl
    rw [e]
    by_cases ha : 1 ≤ size
    · by_cases hb : size ≤ 128
      · have hd : decide (1 ≤ size ∧ size ≤ 128) = true := by simp; omega
        rw [hd]
        go_enter Try.func26, Try.ntmps26
        go_wp2
        go_ret
        exact ⟨rfl, rfl⟩
      · have hd : decide (1 ≤ size ∧ size ≤ 128) = false := by simp; omega
        rw [hd]
        have hb2 : decide (size ≤ 128) = false := by simp; omega
        go_enter Try.func26, Try.ntmps26
        go_wp2
        go_ret
        exact ⟨rfl, rfl⟩
    · have hd : decide (1 ≤ size ∧ size ≤ 128) = false := by simp; omega
      rw [hd]
      have ha2 : decide (1 ≤ size) = false := by simp; omega
      go_enter Try.func26, Try.ntmps26
      go_wp2
      go_ret
      exact ⟨rfl, rfl⟩
  by_cases h2 : kind = 2 ∨ kind = 3
  · have e : sizedS kind size = (size == 8) := by unfold sizedS; rw [if_neg h1, if_pos h2]; rfl
    rw [e]
    rcases h2 with rfl | rfl
    · go_enter Try.func26, Try.ntmps26
      go_wp2
      go_ret
      exact ⟨rfl, rfl⟩
    · go_enter Try.func26, Try.ntmps26
      go_wp2
      go_ret
      exact ⟨rfl, rfl⟩
  by_cases h4 : kind = 4
  · subst h4
    have e : sizedS 4 size = (size == 32) := rfl
    rw [e]
    go_enter Try.func26, Try.ntmps26
    go_wp2
    go_ret
    exact ⟨rfl, rfl⟩
  · have e : sizedS kind size = false := by unfold sizedS; rw [if_neg h1, if_neg h2, if_neg h4]
    rw [e]
    have k1 : (kind == 1) = false := by simp; omega
    have k2 : (kind == 2) = false := by simp; omega
    have k3 : (kind == 3) = false := by simp; omega
    have k4 : (kind == 4) = false := by simp; omega
    clear h1 h2 h4
    go_enter Try.func26, Try.ntmps26
    go_wp2
    go_ret
    exact ⟨rfl, rfl⟩
theorem sizedR_calls (w : World) (kind size : Int) : Calls Try.prog 27 #[.int .i64 kind, .int .i64 size] w fun e w' => e = .returned (.bool (sizedS kind size)) ∧ w = w' := by
  by_cases h1 : kind = 1
  · subst h1
    have e : sizedS 1 size = decide (1 ≤ size ∧ size ≤ 128) := rfl
    rw [e]
    by_cases ha : 1 ≤ size
    · by_cases hb : size ≤ 128
      · have hd : decide (1 ≤ size ∧ size ≤ 128) = true := by simp; omega
        rw [hd]
        go_enter Try.func27, Try.ntmps27
        go_wp2
        go_ret
        exact ⟨rfl, rfl⟩
      · have hd : decide (1 ≤ size ∧ size ≤ 128) = false := by simp; omega
        rw [hd]
        have hb2 : decide (size ≤ 128) = false := by simp; omega
        go_enter Try.func27, Try.ntmps27
        go_wp2
        go_ret
        exact ⟨rfl, rfl⟩
    · have hd : decide (1 ≤ size ∧ size ≤ 128) = false := by simp; omega
      rw [hd]
      have ha2 : decide (1 ≤ size) = false := by simp; omega
      go_enter Try.func27, Try.ntmps27
      go_wp2
      go_ret
      exact ⟨rfl, rfl⟩
  by_cases h2 : kind = 2 ∨ kind = 3
  · have e : sizedS kind size = (size == 8) := by unfold sizedS; rw [if_neg h1, if_pos h2]; rfl
    rw [e]
    rcases h2 with rfl | rfl
    · go_enter Try.func27, Try.ntmps27
      go_wp2
      go_ret
      exact ⟨rfl, rfl⟩
    · go_enter Try.func27, Try.ntmps27
      go_wp2
      go_ret
      exact ⟨rfl, rfl⟩
  by_cases h4 : kind = 4
  · subst h4
    have e : sizedS 4 size = (size == 32) := rfl
    rw [e]
    go_enter Try.func27, Try.ntmps27
    go_wp2
    go_ret
    exact ⟨rfl, rfl⟩
  · have e : sizedS kind size = false := by unfold sizedS; rw [if_neg h1, if_neg h2, if_neg h4]
    rw [e]
    have k1 : (kind == 1) = false := by simp; omega
    have k2 : (kind == 2) = false := by simp; omega
    have k3 : (kind == 3) = false := by simp; omega
    have k4 : (kind == 4) = false := by simp; omega
    clear h1 h2 h4
    go_enter Try.func27, Try.ntmps27
    go_wp2
    go_ret
    exact ⟨rfl, rfl⟩
end Go.Proofs.Ytdekjkcnfebfnaa
