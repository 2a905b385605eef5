/- The reference's SHA-256: bytes. -/
import Derived.Test.YtnbgieccindpnaaDoorHashR2
namespace Go.Proofs.YtnbgieccindpnaaDoor
set_option linter.all false
set_option maxRecDepth 20000
open Go.RowKit
/-- A []uint32 that reads as l. -/
def UV (w : World) (P : Nat → Prop) (A : Option Addr) (n c : Nat) (l : List UInt32) : Prop := Row w P 1 A n c (u32s l)
section
variable {w w' : World} {P P' : Nat → Prop} {n c k : Nat} {A : Option Addr} {l : List UInt32}
theorem UV.fr (h : UV w P A n c l) (e : Fr P w w') : UV w' P A n c l := Row.fr h e
theorem UV.len (h : UV w P A n c l) : l.length = n := by simpa [u32s] using h.1
theorem UV.le (h : UV w P A n c l) : n ≤ c ∧ c ≤ 9223372036854775807 := ⟨h.2.1, h.2.2.1⟩
theorem UV.get (h : UV w P A n c l) (hk : k < n) : ∃ b off x, A = some ⟨b, off, none⟩ ∧ l[k]? = some x ∧ b < w.heap.size ∧ w.cell? ⟨b, off + k, none⟩ = some (.int .u32 (x.toNat : Int)) := by
  obtain ⟨b, off, rfl, hb, _, hc⟩ := h.2.2.2 (by omega)
  have hl : k < l.length := by rw [h.len]; exact hk
  exact ⟨b, off, l[k], rfl, by simp [hl], hb, hc k _ (by simp [u32s, hl])⟩
/-- Block g holds the words l and nothing else. -/
def WB (w : World) (g : Nat) (t : TypeId) (l : List UInt32) : Prop := Blk w g t (u32s l).toArray
theorem WB.cell {g : Nat} {t : TypeId} (h : WB w g t l) {i : Nat} {x : UInt32} (hx : l[i]? = some x) : w.cell? ⟨g, i, none⟩ = some (.int .u32 (x.toNat : Int)) := by rw [Blk.cell h i]; simp [u32s, hx]
theorem WB.ext {g : Nat} {t : TypeId} (h : WB w g t l) (e : Ext w w') : WB w' g t l := Blk.ext h e
theorem WB.fr {g : Nat} {t : TypeId} (h : WB w g t l) (e : Fr P w w') (hg : P g) : WB w' g t l := Blk.fr h e hg
theorem WB.lt {g : Nat} {t : TypeId} (h : WB w g t l) : g < w.heap.size := Blk.lt h
theorem WB.uv {g : Nat} {t : TypeId} (h : WB w g t l) (hg : P g) (hn : l.length = n) (hc : n ≤ c) (hc2 : c ≤ 9223372036854775807) : UV w P (some ⟨g, 0, none⟩) n c l :=
  ⟨by simp [u32s, hn], hc, hc2, fun _ => ⟨g, 0, rfl, h.lt, hg, fun i v hv => by rw [Nat.zero_add]; rw [Blk.cell h i]; simpa using hv⟩⟩
end
theorem lit4z (w : World) (t : TypeId) (a b c d : Int) (x : UInt32) (ha : a = (x.toNat : Int) / 16777216 % 256) (hb : b = (x.toNat : Int) / 65536 % 256) (hc : c = (x.toNat : Int) / 256 % 256) (hd : d = (x.toNat : Int) % 256) :
    BV (w.alloc (.cells #[.int .u8 a, .int .u8 b, .int .u8 c, .int .u8 d] t)) (fun _ => True) (some ⟨w.heap.size, 0, none⟩) 4 4 (bytes4 x) := by
  subst ha hb hc hd
  refine Row.of_own (base := w.heap.size) (e := t) ?_ (fun _ _ => trivial)
  have h := World.ownsRow_lit (e := t) (size := 1) (base := w.heap.size) w #[.int .u8 ((x.toNat : Int) / 16777216 % 256), .int .u8 ((x.toNat : Int) / 65536 % 256), .int .u8 ((x.toNat : Int) / 256 % 256), .int .u8 ((x.toNat : Int) % 256)] 4 (Nat.le_refl _) (by simp [maxLen]) (by simp)
  have e : u8s (bytes4 x) = [.int .u8 ((x.toNat : Int) / 16777216 % 256), .int .u8 ((x.toNat : Int) / 65536 % 256), .int .u8 ((x.toNat : Int) / 256 % 256), .int .u8 ((x.toNat : Int) % 256)] := by
    simp only [u8s, bytes4, List.map, UInt8.toNat_ofNat']
    congr 1
    · congr 1; omega
    · congr 1
      · congr 1; omega
      · congr 1
        · congr 1; omega
        · congr 1; congr 1; omega
  rw [e]
  simpa using h
set_option maxHeartbeats 1000000 in
theorem bytesR_calls {P : Nat → Prop} (w : World) (A : Option Addr) (n c : Nat) (l : List UInt32) (ha : UV w P A n c l) (hn : n ≤ 1000000) :
    Calls Tryd.prog 100 #[.slice A n c] w fun e w' => ∃ S m k, e = .returned (.slice S m k) ∧ OB w' w.heap.size 5 S m k (bytesS l) ∧ Ext w w' := by
  have HL := Lib.hid ha.len
  have hle := ha.le
  go_enter Tryd.func100, Tryd.ntmps100
  go_wp2_with fail
  go_loopw [3, 4] (fun v i wr => ∃ (j : Nat) (S : Option Addr) (m kk : Nat), j ≤ n ∧ i = .int .i64 j ∧ v = .slice S m kk ∧ OB wr w.heap.size 5 S m kk (bytesS (l.take j)) ∧ Ext w wr) (fun _ i _ => n - (intOf i).toNat)
  case atStart => exact ⟨0, none, 0, 0, Nat.zero_le _, rfl, rfl, OB.nil_ _ _ _, Ext.refl _⟩
  case round =>
    obtain ⟨j, S, m, kk, hj, rfl, rfl, hO, hE⟩ := hrel
    by_cases hlt : j < n
    · obtain ⟨b, off, x, rfl, hx, hb, hc0⟩ := ha.get hlt
      have HX := Lib.hid hx
      clear hx
      have hml : m ≤ 4 * n := by have h1 := hO.len; rw [bytesS_len, List.length_take] at h1; omega
      have hux := u32_lt x
      go_upto_region 5 with fail
      refine wp_region_planG Ext (.read 0 (.read 1 (.read 2 (.read 3 (.read 4 (.read 5 (.read 6 (.read 7 (.read 8 (.read 9 (.read 10 (.read 11 (.read 12 (.read 13 (.read 14 (.read 15 (.read 16 (.read 17 (.read 18 (.read 19 (.read 20 (.read 21 (.read 22 (.read 23 (.call false 24 .tail .none))))))))))))))))))))))))) 25 (by kernel_rfl) (by kernel_rfl) (by kernel_rfl) Ext.refl (fun _ _ _ => Ext.trans) Ext (Ext.drew (Ext.refl _)) (fun wR hR => ?_)
      apply run_readI rfl (by first | exact Ext.refl _ | exact Quiet.refl _ | exact Fr.refl _ _ | exact Keeps.refl _ _ | exact trivial)
      · intro w1 hS
        go_wp2
        exact is_done
      apply run_readI rfl (by first | exact Ext.refl _ | exact Quiet.refl _ | exact Fr.refl _ _ | exact Keeps.refl _ _ | exact trivial)
      · intro w1 hS
        go_wp2
        exact is_done
      apply run_readI rfl (by first | exact Ext.refl _ | exact Quiet.refl _ | exact Fr.refl _ _ | exact Keeps.refl _ _ | exact trivial)
      · intro w1 hS
        go_wp2
        exact is_done
      apply run_readI rfl (by first | exact Ext.refl _ | exact Quiet.refl _ | exact Fr.refl _ _ | exact Keeps.refl _ _ | exact trivial)
      · intro w1 hS
        go_wp2
        exact is_done
      apply run_readI rfl (by first | exact Ext.refl _ | exact Quiet.refl _ | exact Fr.refl _ _ | exact Keeps.refl _ _ | exact trivial)
      · intro w1 hS
        have hc1 : w1.cell? _ = _ := ((hE.trans (hR.trans hS)).cells.1 _ _ hb).trans hc0
        go_wp2_with (first | ((with_reducible (show wpList _ _ _ (⟨_, Op.load _ _, _, _, _, _⟩ :: _) _ _)); refine wpList_ldC rfl _ _ rfl _ rfl _ (by refine Eq.trans (Blk.cell (Blk.ext (by assumption) (by (with_reducible repeat (first | exact Ext.refl _ | refine Ext.alloc ?_ _ | refine Ext.drewN ?_ _ | refine Ext.trans ?_ (by assumption))))) _) ?_; rfl) (by kernel_rfl) ?_) | ((with_reducible (show wpList _ _ _ (⟨_, Op.load _ _, _, _, _, _⟩ :: _) _ _)); refine wpList_ldB rfl _ _ rfl _ rfl (by refine Blk.ext (by assumption) ?_; (with_reducible repeat (first | exact Ext.refl _ | refine Ext.alloc ?_ _ | refine Ext.drewN ?_ _ | refine Ext.trans ?_ (by assumption)))) (by kernel_rfl) (by kernel_rfl) ?_))
        exact is_done
      apply run_readI rfl (by first | exact Ext.refl _ | exact Quiet.refl _ | exact Fr.refl _ _ | exact Keeps.refl _ _ | exact trivial)
      · intro w1 hS
        go_wp2
        exact is_done
      apply run_readI rfl (by first | exact Ext.refl _ | exact Quiet.refl _ | exact Fr.refl _ _ | exact Keeps.refl _ _ | exact trivial)
      · intro w1 hS
        go_wp2
        exact is_done
      apply run_readI rfl (by first | exact Ext.refl _ | exact Quiet.refl _ | exact Fr.refl _ _ | exact Keeps.refl _ _ | exact trivial)
      · intro w1 hS
        go_wp2
        exact is_done
      apply run_readI rfl (by first | exact Ext.refl _ | exact Quiet.refl _ | exact Fr.refl _ _ | exact Keeps.refl _ _ | exact trivial)
      · intro w1 hS
        go_wp2
        exact is_done
      apply run_readI rfl (by first | exact Ext.refl _ | exact Quiet.refl _ | exact Fr.refl _ _ | exact Keeps.refl _ _ | exact trivial)
      · intro w1 hS
        go_wp2
        exact is_done
      apply run_readI rfl (by first | exact Ext.refl _ | exact Quiet.refl _ | exact Fr.refl _ _ | exact Keeps.refl _ _ | exact trivial)
      · intro w1 hS
        have hc1 : w1.cell? _ = _ := ((hE.trans (hR.trans hS)).cells.1 _ _ hb).trans hc0
        go_wp2_with (first | ((with_reducible (show wpList _ _ _ (⟨_, Op.load _ _, _, _, _, _⟩ :: _) _ _)); refine wpList_ldC rfl _ _ rfl _ rfl _ (by refine Eq.trans (Blk.cell (Blk.ext (by assumption) (by (with_reducible repeat (first | exact Ext.refl _ | refine Ext.alloc ?_ _ | refine Ext.drewN ?_ _ | refine Ext.trans ?_ (by assumption))))) _) ?_; rfl) (by kernel_rfl) ?_) | ((with_reducible (show wpList _ _ _ (⟨_, Op.load _ _, _, _, _, _⟩ :: _) _ _)); refine wpList_ldB rfl _ _ rfl _ rfl (by refine Blk.ext (by assumption) ?_; (with_reducible repeat (first | exact Ext.refl _ | refine Ext.alloc ?_ _ | refine Ext.drewN ?_ _ | refine Ext.trans ?_ (by assumption)))) (by kernel_rfl) (by kernel_rfl) ?_))
        exact is_done
      apply run_readI rfl (by first | exact Ext.refl _ | exact Quiet.refl _ | exact Fr.refl _ _ | exact Keeps.refl _ _ | exact trivial)
      · intro w1 hS
        go_wp2
        exact is_done
      apply run_readI rfl (by first | exact Ext.refl _ | exact Quiet.refl _ | exact Fr.refl _ _ | exact Keeps.refl _ _ | exact trivial)
      · intro w1 hS
        go_wp2
        exact is_done
      apply run_readI rfl (by first | exact Ext.refl _ | exact Quiet.refl _ | exact Fr.refl _ _ | exact Keeps.refl _ _ | exact trivial)
      · intro w1 hS
        go_wp2
        exact is_done
      apply run_readI rfl (by first | exact Ext.refl _ | exact Quiet.refl _ | exact Fr.refl _ _ | exact Keeps.refl _ _ | exact trivial)
      · intro w1 hS
        go_wp2
        exact is_done
      apply run_readI rfl (by first | exact Ext.refl _ | exact Quiet.refl _ | exact Fr.refl _ _ | exact Keeps.refl _ _ | exact trivial)
      · intro w1 hS
        go_wp2
        exact is_done
      apply run_readI rfl (by first | exact Ext.refl _ | exact Quiet.refl _ | exact Fr.refl _ _ | exact Keeps.refl _ _ | exact trivial)
      · intro w1 hS
        have hc1 : w1.cell? _ = _ := ((hE.trans (hR.trans hS)).cells.1 _ _ hb).trans hc0
        go_wp2_with (first | ((with_reducible (show wpList _ _ _ (⟨_, Op.load _ _, _, _, _, _⟩ :: _) _ _)); refine wpList_ldC rfl _ _ rfl _ rfl _ (by refine Eq.trans (Blk.cell (Blk.ext (by assumption) (by (with_reducible repeat (first | exact Ext.refl _ | refine Ext.alloc ?_ _ | refine Ext.drewN ?_ _ | refine Ext.trans ?_ (by assumption))))) _) ?_; rfl) (by kernel_rfl) ?_) | ((with_reducible (show wpList _ _ _ (⟨_, Op.load _ _, _, _, _, _⟩ :: _) _ _)); refine wpList_ldB rfl _ _ rfl _ rfl (by refine Blk.ext (by assumption) ?_; (with_reducible repeat (first | exact Ext.refl _ | refine Ext.alloc ?_ _ | refine Ext.drewN ?_ _ | refine Ext.trans ?_ (by assumption)))) (by kernel_rfl) (by kernel_rfl) ?_))
        exact is_done
      apply run_readI rfl (by first | exact Ext.refl _ | exact Quiet.refl _ | exact Fr.refl _ _ | exact Keeps.refl _ _ | exact trivial)
      · intro w1 hS
        go_wp2
        exact is_done
      apply run_readI rfl (by first | exact Ext.refl _ | exact Quiet.refl _ | exact Fr.refl _ _ | exact Keeps.refl _ _ | exact trivial)
      · intro w1 hS
        go_wp2
        exact is_done
      apply run_readI rfl (by first | exact Ext.refl _ | exact Quiet.refl _ | exact Fr.refl _ _ | exact Keeps.refl _ _ | exact trivial)
      · intro w1 hS
        go_wp2
        exact is_done
      apply run_readI rfl (by first | exact Ext.refl _ | exact Quiet.refl _ | exact Fr.refl _ _ | exact Keeps.refl _ _ | exact trivial)
      · intro w1 hS
        go_wp2
        exact is_done
      apply run_readI rfl (by first | exact Ext.refl _ | exact Quiet.refl _ | exact Fr.refl _ _ | exact Keeps.refl _ _ | exact trivial)
      · intro w1 hS
        go_wp2
        exact is_done
      apply run_readI rfl (by first | exact Ext.refl _ | exact Quiet.refl _ | exact Fr.refl _ _ | exact Keeps.refl _ _ | exact trivial)
      · intro w1 hS
        have hc1 : w1.cell? _ = _ := ((hE.trans (hR.trans hS)).cells.1 _ _ hb).trans hc0
        go_wp2_with (first | ((with_reducible (show wpList _ _ _ (⟨_, Op.load _ _, _, _, _, _⟩ :: _) _ _)); refine wpList_ldC rfl _ _ rfl _ rfl _ (by refine Eq.trans (Blk.cell (Blk.ext (by assumption) (by (with_reducible repeat (first | exact Ext.refl _ | refine Ext.alloc ?_ _ | refine Ext.drewN ?_ _ | refine Ext.trans ?_ (by assumption))))) _) ?_; rfl) (by kernel_rfl) ?_) | ((with_reducible (show wpList _ _ _ (⟨_, Op.load _ _, _, _, _, _⟩ :: _) _ _)); refine wpList_ldB rfl _ _ rfl _ rfl (by refine Blk.ext (by assumption) ?_; (with_reducible repeat (first | exact Ext.refl _ | refine Ext.alloc ?_ _ | refine Ext.drewN ?_ _ | refine Ext.trans ?_ (by assumption)))) (by kernel_rfl) (by kernel_rfl) ?_))
        exact is_done
      apply run_readI rfl (by first | exact Ext.refl _ | exact Quiet.refl _ | exact Fr.refl _ _ | exact Keeps.refl _ _ | exact trivial)
      · intro w1 hS
        go_wp2
        exact is_done
      refine run_call1 rfl ?_ run_none
      go_wp2
      refine nx_done rfl (by with_reducible repeat (first | exact Ext.refl _ | refine Ext.alloc ?_ _ | refine Ext.drewN ?_ _ | refine Ext.trans ?_ (by assumption))) ?_
      try simp only [Act.put, List.setIfInBounds_toArray, List.set]
      refine run_tail rfl ?_
      refine wpList_appO rfl (.tmp 11) (.tmp 35) _ rfl _ infoB Tryd.underlying22 w.heap.size _ _ _ (bytesS (l.take j)) rfl ((hO.ext hR).ext ((Ext.refl _).alloc _)) (some ⟨wR.heap.size, 0, none⟩) 4 4 (bytes4 x) rfl (lit4z wR _ _ _ _ _ x (by omega) (by omega) (by omega) (by omega)) (by omega) (by have := hE.size; have := hR.size; simp; omega) ?_
      intro S4 k4 w4 hO4 hB4
      clear hc0
      go_wp2
      have hstep : bytesS (l.take j) ++ bytes4 x = bytesS (l.take (j + 1)) := by
        have hk := (List.getElem?_eq_some_iff.1 HX.out).1
        rw [List.take_succ_eq_append_getElem hk, (List.getElem?_eq_some_iff.1 HX.out).2, bytesS_app]; simp [bytesS]
      rw [hstep] at hO4
      clear hstep
      go_roundw
      case rel => exact ⟨j + 1, S4, m + 4, k4, by omega, by go_num, rfl, hO4, Ext.step ((hE.trans hR).alloc _) hB4 (Nat.le_refl _)⟩
      case measure => (simp [intOf]; try omega)
    · obtain rfl : n = j := by omega
      go_wp2
      go_ret
      exact ⟨S, m, kk, rfl, by rw [List.take_of_length_le (by rw [HL.out]; exact Nat.le_refl _)] at hO; exact hO, hE⟩
end Go.Proofs.YtnbgieccindpnaaDoor
