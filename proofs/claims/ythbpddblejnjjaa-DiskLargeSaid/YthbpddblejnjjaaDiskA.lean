/- The law's awake. -/
import Derived.Test.YthbpddblejnjjaaDiskP
namespace Go.Proofs.Ythbpddblejnjjaa
set_option linter.all false
open Go.RowKit
set_option linter.unusedVariables false
set_option linter.unusedSimpArgs false

theorem newP_calls' (P : Nat → Prop) (w : World) (hP : Anew w P) (k : Int) (n : Nat) (hn : min k.toNat 64 = n) : Calls Try.prog 22 #[.int .i64 k] w (DOne P w n (newS k)) := by
  subst hn; exact newP_calls P w hP k
theorem lit1 (w : World) (t : TypeId) (a : Nat) (ha : a < 256) : BV (w.alloc (.cells #[.int .u8 (a : Int)] t)) (fun _ => True) (some ⟨w.heap.size, 0, none⟩) 1 1 [UInt8.ofNat a] := by
  refine Row.of_own (base := w.heap.size) (e := t) ?_ (fun _ _ => trivial)
  have h := World.ownsRow_lit (e := t) (size := 1) (base := w.heap.size) w #[.int .u8 (a : Int)] 1 (Nat.le_refl _) (by simp [maxLen]) (by simp)
  have h1 : ((UInt8.ofNat a).toNat : Int) = a := by simp only [UInt8.toNat_ofNat']; omega
  simp only [u8s, List.map, h1]
  exact h
theorem awakeS : (writeS (newS 2) 1 [5]).wr = 1 ∧ putE (newS 2) 1 1 = 0 ∧ readS (writeS (newS 2) 1 [5]) 1 = [5] ∧ readE (writeS (newS 2) 1 [5]) 1 = 0 ∧ Small (writeS (newS 2) 1 [5]) 1 := by
  refine ⟨by decide, by decide, by decide, by decide, ?_⟩
  exact small_write (j := 0) ⟨by decide, by decide, by decide⟩ (by decide)

set_option maxRecDepth 20000 in
set_option maxHeartbeats 1000000 in
theorem awake_calls (w : World) : Calls Try.prog 9 #[] w fun e w' => e = .returned (.bool true) ∧ Ext w w' := by
  go_enter Try.func9, Try.ntmps9
  go_wp2_with (first | (go_at_call 22; go_loud (refine (newP_calls' (fun k => w.heap.size ≤ k) _ (fun k hk => hk) 2 2 rfl).mono ?_; rintro e w1 ⟨A1, c1, d1, rfl, H1, hb1, hE1⟩; have hz1 := hE1.size)) | (go_at_call 17; go_loud (refine (write_calls (fun k => w.heap.size ≤ k) _ (by intro k hk; simp at hk; omega) A1 2 c1 d1 (hb1.ext ((Ext.refl _).alloc _)) (by omega) _ 1 1 [5] (lit1 w1 _ 5 (by omega)) (by omega) 1 (by rw [H1.out]; first | done | decide) (by rw [H1.out]; first | done | decide) (by rw [H1.out]; first | done | decide)).mono ?_; rintro e w2 ⟨A2, c2, d2, e2, rfl, H2, hb2, hE2⟩; have hd2 : Hid (d2 = writeS (newS 2) 1 [5]) := Lib.hid (by rw [H2.out.1, H1.out]); have he2 : e2 = 0 := (by rw [H2.out.2, H1.out]; first | done | decide); subst he2)) | (go_at_call 12; go_loud (refine (readP_calls _ A2 2 c2 d2 (hb2.ext ((Ext.refl _).alloc _)) (by omega) (by rw [hd2.out]; first | done | decide) 1).mono ?_; rintro e w3 ⟨S, n3, k3, l3, e3, rfl, H3, hO3, hE3⟩; have hwr : d2.wr = 1 := (by rw [hd2.out]; first | done | decide); have he3 : e3 = 0 := (by rw [H3.out.2, hd2.out]; first | done | decide); subst he3; have hl3 : l3 = [5] := (by rw [H3.out.1, hd2.out]; first | done | decide); subst hl3; have hn3 : n3 = 1 := (by have := hO3.len; simp at this; omega); subst hn3; obtain ⟨b3, o3, rfl, hl4, hc4⟩ := (OB.bv (P := fun _ => True) hO3 (fun _ _ => trivial)).at_ (k := 0) (by omega); have hc5 : w3.cell? ⟨b3, o3, none⟩ = some (.int .u8 5) := hc4; obtain ⟨q0, q1, q2, q3, q4⟩ := ((Blk.new w2 27 #[.slice A2 2 c2, .int .i64 d2.wr, .int .i64 d2.ct, .int .i64 d2.tn, .bool d2.off]).ext hE3).c5)))
  go_ret
  exact ⟨rfl, ((hE1.trans ((Ext.refl _).alloc _)).trans hE2).trans (((Ext.refl _).alloc _).trans hE3)⟩
end Go.Proofs.Ythbpddblejnjjaa
