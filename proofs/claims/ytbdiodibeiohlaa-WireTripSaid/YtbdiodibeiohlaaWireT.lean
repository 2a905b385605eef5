/- Two readers side by side. -/
import Derived.Test.YtbdiodibeiohlaaLawBlob
import Derived.Test.YtbdiodibeiohlaaWireRB
import Derived.Test.YtbdiodibeiohlaaWireQ2
import Derived.Test.YtbdiodibeiohlaaPlan
namespace Go.Proofs.Ytbdiodibeiohlaa
set_option linter.all false
open Go.RowKit
theorem BV.offs {w : World} {P : Nat → Prop} {n c : Nat} {A : Option Addr} {l : List UInt8} (h : BV w P A n c l) (P' : Nat → Prop) (hp : ∀ k, P k → k < w.heap.size → P' k) : BV w P' A n c l :=
  ⟨h.1, h.2.1, h.2.2.1, fun hn => let ⟨b, off, hA, hb, hP, hc⟩ := h.2.2.2 hn; ⟨b, off, hA, hb, hp b hP hb, hc⟩⟩
/-- The program's reader g and the reference's reader g', which share nothing that either writes. -/
structure TR (w : World) (g g' : Nat) (A : Option Addr) (n c : Nat) (A' : Option Addr) (n' c' : Nat) (r s : Rd) : Prop where
  ne : g ≠ g'
  b : Blk w g 50 #[.slice A n c, .int .i64 r.at_, .int .i64 r.e]
  v : BV w (fun k => k ≠ g ∧ k ≠ g') A n c r.b
  i : r.at_ ≤ n ∧ n ≤ 35184372088832
  b' : Blk w g' 35 #[.slice A' n' c', .int .i64 s.at_, .int .i64 s.e]
  v' : BV w (fun k => k ≠ g ∧ k ≠ g') A' n' c' s.b
  i' : s.at_ ≤ n' ∧ n' ≤ 35184372088832
section
variable {w w' : World} {g g' n c n' c' : Nat} {A A' : Option Addr} {r s r2 s2 : Rd}
theorem TR.left (h : TR w g g' A n c A' n' c' r s) : RD 50 w g A n c r := ⟨h.b, h.v.mono (fun k hk => hk.1), h.i⟩
theorem TR.right (h : TR w g g' A n c A' n' c' r s) : RD 35 w g' A' n' c' s := ⟨h.b', h.v'.mono (fun k hk => hk.2), h.i'⟩
theorem TR.ext (h : TR w g g' A n c A' n' c' r s) (e : Ext w w') : TR w' g g' A n c A' n' c' r s := ⟨h.ne, h.b.ext e, h.v.ext e, h.i, h.b'.ext e, h.v'.ext e, h.i'⟩
theorem TR.stepL (h : TR w g g' A n c A' n' c' r s) (hr : RD 50 w' g A n c r2) (hb : r2.b = r.b) (f : Fr (fun k => k ≠ g) w w') : TR w' g g' A n c A' n' c' r2 s :=
  ⟨h.ne, hr.1, by rw [hb]; exact h.v.fr (f.mono fun k hk => hk.1), hr.2.2, h.b'.fr f h.ne.symm, h.v'.fr (f.mono fun k hk => hk.1), h.i'⟩
theorem TR.stepR (h : TR w g g' A n c A' n' c' r s) (hr : RD 35 w' g' A' n' c' s2) (hb : s2.b = s.b) (f : Fr (fun k => k ≠ g') w w') : TR w' g g' A n c A' n' c' r s2 :=
  ⟨h.ne, h.b.fr f h.ne, h.v.fr (f.mono fun k hk => hk.2), h.i, hr.1, by rw [hb]; exact h.v'.fr (f.mono fun k hk => hk.2), hr.2.2⟩
theorem TR.new {w2 : World} {l l' : List UInt8} (h : RD 50 w2 g A n c ⟨l, 0, 0⟩) (e : Ext w2 w) (hg : w2.heap.size ≤ g') (h' : RD 35 w g' A' n' c' ⟨l', 0, 0⟩) (hv' : BV w (fun k => k ≠ g ∧ k ≠ g') A' n' c' l') : TR w g g' A n c A' n' c' ⟨l, 0, 0⟩ ⟨l', 0, 0⟩ := by
  have hne : g ≠ g' := by have := h.1.lt; omega
  exact ⟨hne, h.1.ext e, (h.2.1.offs _ (fun k hk hlt => ⟨hk, by omega⟩)).ext e, h.2.2, h'.1, hv', h'.2.2⟩
end
theorem newR2 {P : Nat → Prop} (w : World) (A : Option Addr) (n c : Nat) (l : List UInt8) (ha : BV w P A n c l) (hn : n ≤ 35184372088832) :
    Calls Try.prog 14 #[.slice A n c] w fun e w' => ∃ g, e = .returned (.pointer (some ⟨g, 0, none⟩)) ∧ w.heap.size ≤ g ∧ RD 35 w' g A n c ⟨l, 0, 0⟩ ∧ BV w' (fun k => P k ∧ k ≠ g) A n c l ∧ Ext w w' := by
  go_enter Try.func14, Try.ntmps14
  go_wp2
  go_ret
  exact ⟨w.heap.size, rfl, Nat.le_refl _, ⟨Blk.new _ _ _, (ha.off (Nat.le_refl _)).ext ((Ext.refl _).alloc _), Nat.zero_le _, hn⟩, (ha.offs _ (fun k hk hlt => ⟨hk, by omega⟩)).ext ((Ext.refl _).alloc _), (Ext.refl _).alloc _⟩
theorem rdUint_b (r : Rd) (k : Int) : (rdUint r k).1.b = r.b := by unfold rdUint; repeat' split
                                                                   all_goals rfl
theorem rdRaw_b (r : Rd) (k : Int) : (rdRaw r k).1.b = r.b := by unfold rdRaw; repeat' split
                                                                 all_goals rfl
theorem rdBlob_b (r : Rd) (k : Int) : (rdBlob r k).1.b = r.b := by unfold rdBlob; repeat' split
                                                                   all_goals rfl
end Go.Proofs.Ytbdiodibeiohlaa
