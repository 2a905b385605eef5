/- The reference's SHA-256: pad, bytes. -/
import Derived.Test.YtnbgieccindpnaaDoorHashR
namespace Go.Proofs.YtnbgieccindpnaaDoor
set_option linter.all false
set_option maxRecDepth 20000
open Go.RowKit
theorem lit1z (w : World) (t : TypeId) (z : Int) (x : UInt8) (h : z = (x.toNat : Int)) : BV (w.alloc (.cells #[.int .u8 z] t)) (fun _ => True) (some ⟨w.heap.size, 0, none⟩) 1 1 [x] := by
  subst h
  refine Row.of_own (base := w.heap.size) (e := t) ?_ (fun _ _ => trivial)
  have h := World.ownsRow_lit (e := t) (size := 1) (base := w.heap.size) w #[.int .u8 (x.toNat : Int)] 1 (Nat.le_refl _) (by simp [maxLen]) (by simp)
  simpa [u8s] using h
/-- what stands when so many length bytes are left -/
def lenUp (b : List UInt8) (v left : Nat) : List UInt8 := b ++ (be8 v 8).take (8 - left)
theorem lenUp_step (b : List UInt8) (v j : Nat) (h : j < 8) : lenUp b v j = lenUp b v (j + 1) ++ [UInt8.ofNat (v / 256 ^ j % 256)] := by
  unfold lenUp
  have key : ∀ (s j : Nat), j < s → (be8 v s).take (s - j) = (be8 v s).take (s - (j + 1)) ++ [UInt8.ofNat (v / 256 ^ j % 256)] := by
    intro s
    induction s with
    | zero => intro j h; omega
    | succ s ih =>
      intro j h
      by_cases hj : j = s
      · subst hj; simp [be8]
      · have := ih j (by omega)
        rw [show s + 1 - j = (s - j) + 1 by omega, show s + 1 - (j + 1) = (s - (j + 1)) + 1 by omega]
        simp [be8, this]
  rw [key 8 j h, List.append_assoc]
theorem lenUp_all (b : List UInt8) (v : Nat) : lenUp b v 0 = b ++ be8 v 8 := by
  unfold lenUp; rw [List.take_of_length_le]; rw [be8_len]; omega
theorem lenUp_len (b : List UInt8) (v j : Nat) : (lenUp b v j).length ≤ b.length + 8 := by
  unfold lenUp; rw [List.length_append, List.length_take, be8_len]; omega
/-- the zeros that are laid so far -/
def zs (b : List UInt8) (k : Nat) : List UInt8 := (b ++ [128]) ++ List.replicate k 0
theorem zs_len (b : List UInt8) (k : Nat) : (zs b k).length = b.length + 1 + k := by simp [zs]; omega
theorem zs_step (b : List UInt8) (k : Nat) : zs b (k + 1) = zs b k ++ [0] := by simp [zs, List.replicate_succ']
theorem zs_pad (b : List UInt8) : zs b (padN b.length) ++ be8 (b.length * 8) 8 = padS b := rfl
theorem len_byte (n j : Nat) : ((n : Int) * 8 / 2 ^ (8 * j) % 256) = ((UInt8.ofNat (n * 8 / 256 ^ j % 256)).toNat : Int) := by
  rw [UInt8.toNat_ofNat']
  have e : (2 : Int) ^ (8 * j) = ((256 ^ j : Nat) : Int) := by
    have e1 : (2 : Nat) ^ (8 * j) = 256 ^ j := by rw [Nat.pow_mul]
    rw [← e1]; simp
  have e2 : (n : Int) * 8 / ((256 ^ j : Nat) : Int) = ((n * 8 / 256 ^ j : Nat) : Int) := by
    rw [show (n : Int) * 8 = ((n * 8 : Nat) : Int) by omega]; exact (Int.natCast_ediv _ _).symm
  rw [e, e2]
  omega
def slen (v : Value) : Nat := match v with | .slice _ m _ => m | _ => 0
set_option maxHeartbeats 1000000 in
theorem padR_calls {P : Nat → Prop} (w : World) (A : Option Addr) (n c : Nat) (l : List UInt8) (ha : BV w P A n c l) (hn : n ≤ 35184372088832) :
    Calls Tryd.prog 97 #[.slice A n c] w fun e w' => ∃ S m k, e = .returned (.slice S m k) ∧ OB w' w.heap.size 5 S m k (padS l) ∧ Ext w w' := by
  have HL := Lib.hid ha.len
  go_enter Tryd.func97, Tryd.ntmps97
  go_wp2_with (first | (at_builtin; go_loud (refine wpList_app0 rfl (.tmp 6) (.tmp 7) _ rfl _ infoB Tryd.underlying22 rfl (OB.lit0 w 5 5 (Nat.le_refl _)) (by simp) rfl (ha.ext ((Ext.refl _).alloc _)) (by omega) ?_; intro S1 k1 w1 hO1 hE1; have hEa : Ext w w1 := ((Ext.refl _).alloc _).trans hE1)) | (at_builtin; go_loud (refine wpList_appO rfl (.tmp 8) (.tmp 9) _ rfl _ infoB Tryd.underlying22 w.heap.size _ _ _ l rfl (hO1.ext ((Ext.refl _).alloc _)) (some ⟨w1.heap.size, 0, none⟩) 1 1 [128] rfl (lit1z w1 _ 128 128 rfl) (by omega) (by have := hEa.size; simp; omega) ?_; intro S2 k2 w2 hO2 hB2; have hEb : Ext w w2 := Ext.step (hEa.alloc _) hB2 (Nat.le_refl _))))
  go_loopw [3] (fun v wr => ∃ (k : Nat) (S : Option Addr) (m kk : Nat), v = .slice S m kk ∧ OB wr w.heap.size 5 S m kk (zs l k) ∧ k ≤ padN n ∧ Ext w wr) (fun v _ => (n + 1 + padN n) - slen v)
  case atStart => exact ⟨0, S2, n + 1, k2, rfl, by simpa [zs] using hO2, Nat.zero_le _, hEb⟩
  case round =>
    obtain ⟨k, S, m, kk, rfl, hO, hk, hE⟩ := hrel
    clear hEa hEb hE1 hO1 hO2 hB2
    have hm : m = n + 1 + k := by have h1 := hO.len; rw [zs_len, HL.out] at h1; omega
    have HM := Lib.hid hm
    by_cases hkk : k < padN n
    · have ht : (((m : Nat) : Int) % 64 != 56) = true := by unfold padN at hkk; simp; omega
      have hpn : padN n < 64 := by unfold padN; omega
      clear hm
      go_wp2_with (at_builtin; go_loud (refine wpList_appO rfl (.tmp 15) (.tmp 16) _ rfl _ infoB Tryd.underlying22 w.heap.size _ _ _ (zs l k) rfl (hO.ext ((Ext.refl _).alloc _)) (some ⟨wr.heap.size, 0, none⟩) 1 1 [0] rfl (lit1z wr _ 0 0 rfl) (by have := HM.out; omega) (by have := hE.size; simp; omega) ?_; intro S4 k4 w4 hO4 hB4; rw [← zs_step] at hO4))
      go_roundw
      case rel => exact ⟨k + 1, S4, m + 1, k4, rfl, hO4, hkk, Ext.step (hE.alloc _) hB4 (Nat.le_refl _)⟩
      case measure => have := HM.out; simp [slen]; omega
    · have hkp : k = padN n := by omega
      have ht : (((m : Nat) : Int) % 64 != 56) = false := by subst hkp; unfold padN at hm; simp; omega
      have hpn : m ≤ n + 65 := by unfold padN at hkp; omega
      have HKP := Lib.hid hkp
      clear hm hkp hkk hk
      obtain ⟨wo, rfl⟩ : ∃ wo : World, wo = wr := ⟨_, rfl⟩
      go_wp2_with fail
      go_loopw [3, 5] (fun v i wr => ∃ (j : Nat) (S : Option Addr) (m kk : Nat), j ≤ 8 ∧ i = .int .i64 (j - 1 : Int) ∧ v = .slice S m kk ∧ OB wr w.heap.size 5 S m kk (lenUp (zs l k) (n * 8) j) ∧ Ext w wr) (fun _ i _ => (intOf i + 1).toNat)
      case atStart => exact ⟨8, S, m, kk, by omega, rfl, rfl, by simpa [lenUp] using hO, hE⟩
      case round =>
        clear hO hE
        obtain ⟨j, S, m', kk, hj, rfl, rfl, hO, hE⟩ := hrel
        have hml : m' ≤ n + 73 := by have h1 := hO.len; have h2 := lenUp_len (zs l k) (n * 8) j; rw [zs_len, HL.out] at h2; have := HM.out; omega
        cases j with
        | zero =>
          have hz : ¬ (0 : Int) ≤ ((0 : Nat) : Int) - 1 := by omega
          go_wp2
          go_ret
          exact ⟨S, m', kk, rfl, by have h := hO; rw [lenUp_all, HKP.out, ← HL.out, zs_pad] at h; exact h, hE⟩
        | succ j =>
          go_wp2_with (at_builtin; go_loud (refine wpList_appO rfl (.tmp 26) (.tmp 33) _ rfl _ infoB Tryd.underlying22 w.heap.size _ _ _ (lenUp (zs l k) (n * 8) (j + 1)) rfl (hO.ext ((Ext.refl _).alloc _)) (some ⟨wr.heap.size, 0, none⟩) 1 1 [UInt8.ofNat (n * 8 / 256 ^ j % 256)] rfl (lit1z wr _ _ _ (len_byte n j)) (by omega) (by have := hE.size; simp; omega) ?_; intro S4 k4 w4 hO4 hB4; rw [← lenUp_step _ _ _ (by omega)] at hO4))
          go_roundw
          case rel => exact ⟨j, S4, m' + 1, k4, by omega, by go_num, rfl, hO4, Ext.step (hE.alloc _) hB4 (Nat.le_refl _)⟩
          case measure => (simp [intOf]; try omega)
end Go.Proofs.YtnbgieccindpnaaDoor
