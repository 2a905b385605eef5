/- The readers: New, Left, Err, End; need of the reference. -/
import Derived.Test.YtnbgieccindpnaaDoorWireR
namespace Go.Proofs.YtnbgieccindpnaaDoor
set_option linter.all false
set_option maxRecDepth 20000
open Go.RowKit
/-- What is handed back: a fresh reader. -/
def NewRd (t : TypeId) (w : World) (l : List UInt8) (e : Ending) (w' : World) : Prop := ∃ g A n c, e = .returned (.pointer (some ⟨g, 0, none⟩)) ∧ w.heap.size ≤ g ∧ RD t w' g A n c ⟨l, 0, 0⟩ ∧ Ext w w'
theorem newP_rd {P : Nat → Prop} (w : World) (A : Option Addr) (n c : Nat) (l : List UInt8) (ha : BV w P A n c l) (hn : n ≤ 35184372088832) :
    Calls Tryd.prog 65 #[.slice A n c] w (NewRd 113 w l) := by
  go_enter Tryd.func65, Tryd.ntmps65
  go_wp2_with (at_builtin; refine wpList_appB (w0 := w) rfl _ _ _ rfl _ infoB Tryd.underlying22 _ _ _ [] rfl (OB.nil_ _ _ _) A n c l rfl ha (by omega) (Ext.refl _) ?_; intro S1 k1 w1 hO1 hE1; simp only [Nat.zero_add, List.nil_append] at hO1)
  go_ret
  exact ⟨w1.heap.size, S1, n, k1, rfl, hE1.size, ⟨Blk.new _ _ _, ((OB.bv (P := fun _ => True) hO1 (fun _ _ => trivial)).off (Nat.le_refl _)).ext ((Ext.refl _).alloc _), Nat.zero_le _, hn⟩, hE1.alloc _⟩
theorem newR_rd {P : Nat → Prop} (w : World) (A : Option Addr) (n c : Nat) (l : List UInt8) (ha : BV w P A n c l) (hn : n ≤ 35184372088832) :
    Calls Tryd.prog 91 #[.slice A n c] w (NewRd 127 w l) := by
  go_enter Tryd.func91, Tryd.ntmps91
  go_wp2
  go_ret
  exact ⟨w.heap.size, A, n, c, rfl, Nat.le_refl _, ⟨Blk.new _ _ _, (ha.off (Nat.le_refl _)).ext ((Ext.refl _).alloc _), Nat.zero_le _, hn⟩, (Ext.refl _).alloc _⟩
set_option maxHeartbeats 1000000 in
theorem rLeft_calls (w : World) (g : Nat) (A : Option Addr) (n c : Nat) (l : List UInt8) (p : Nat) (er : Int) (h : RD 113 w g A n c ⟨l, p, er⟩) :
    Calls Tryd.prog 69 #[.pointer (some ⟨g, 0, none⟩)] w fun e w' => e = .returned (.int .i64 (rdLeft ⟨l, p, er⟩)) ∧ Quiet w w' := by
  have h' := Lib.hid h
  obtain ⟨hb, hv, hp, hn⟩ := h
  obtain ⟨c0, c1, c2⟩ := hb.c3
  have hf := hb.free
  have hl := Lib.hid hv.len
  simp only at hp hl
  clear hb
  have hle := hv.le
  go_enter Tryd.func69, Tryd.ntmps69
  go_wp2_with fail
  go_quiet (fail)
  go_wp2
  go_ret
  exact ⟨by simp [rdLeft, hl.out], (Quiet.refl _).drewN _⟩
set_option maxHeartbeats 1000000 in
theorem rEnd_calls (w : World) (g : Nat) (A : Option Addr) (n c : Nat) (l : List UInt8) (p : Nat) (er : Int) (h : RD 113 w g A n c ⟨l, p, er⟩) :
    Calls Tryd.prog 89 #[.pointer (some ⟨g, 0, none⟩)] w fun e w' => e = .returned (.int .i64 (rdEnd ⟨l, p, er⟩)) ∧ Quiet w w' := by
  have h' := Lib.hid h
  obtain ⟨hb, hv, hp, hn⟩ := h
  obtain ⟨c0, c1, c2⟩ := hb.c3
  have hf := hb.free
  have hl := Lib.hid hv.len
  simp only at hp hl
  clear hb
  by_cases he : er = 0
  · subst he
    by_cases h1 : p < n
    · have hlt : rdLeft ⟨l, p, 0⟩ = (n : Int) - p := by simp [rdLeft, hl.out]
      have HX := Lib.hid hlt
      have hx : decide (0 < rdLeft ⟨l, p, 0⟩) = true := by rw [hlt]; simp; omega
      clear hlt
      go_enter Tryd.func89, Tryd.ntmps89
      go_wp2_with (go_at_call 69; go_loud (refine (rLeft_calls w g A n c l p 0 h'.out).mono ?_; rintro e w1 ⟨rfl, q, rfl⟩))
      all_goals (first | (go_ret; exact ⟨ret_int (a := 3) (by unfold rdEnd; rw [if_pos ⟨rfl, by rw [HX.out]; omega⟩]), ⟨_, rfl⟩⟩) | (exfalso; have := HX.out; simp at *; omega))
    · have hlt : rdLeft ⟨l, p, 0⟩ = (n : Int) - p := by simp [rdLeft, hl.out]
      have HX := Lib.hid hlt
      have hx : decide (0 < rdLeft ⟨l, p, 0⟩) = false := by rw [hlt]; simp; omega
      clear hlt
      go_enter Tryd.func89, Tryd.ntmps89
      go_wp2_with (go_at_call 69; go_loud (refine (rLeft_calls w g A n c l p 0 h'.out).mono ?_; rintro e w1 ⟨rfl, q, rfl⟩))
      all_goals (first | (go_ret; exact ⟨ret_int (a := 0) (by unfold rdEnd; rw [if_neg (by rw [HX.out]; omega)]), ⟨_, rfl⟩⟩) | (exfalso; have := HX.out; simp at *; omega))
  · have he' : (er == 0) = false := by simp [he]
    have HE := Lib.hid he
    clear he
    go_enter Tryd.func89, Tryd.ntmps89
    go_wp2
    go_ret
    exact ⟨ret_int (a := er) (by unfold rdEnd; rw [if_neg (fun h => HE.out h.1)]), Quiet.refl _⟩
set_option maxHeartbeats 1000000 in
theorem sLeft_calls (w : World) (g : Nat) (A : Option Addr) (n c : Nat) (l : List UInt8) (p : Nat) (er : Int) (h : RD 127 w g A n c ⟨l, p, er⟩) :
    Calls Tryd.prog 107 #[.pointer (some ⟨g, 0, none⟩)] w fun e w' => e = .returned (.int .i64 (rdLeft ⟨l, p, er⟩)) ∧ Quiet w w' := by
  have h' := Lib.hid h
  obtain ⟨hb, hv, hp, hn⟩ := h
  obtain ⟨c0, c1, c2⟩ := hb.c3
  have hf := hb.free
  have hl := Lib.hid hv.len
  simp only at hp hl
  clear hb
  have hle := hv.le
  go_enter Tryd.func107, Tryd.ntmps107
  go_wp2_with fail
  go_quiet (fail)
  go_wp2
  go_ret
  exact ⟨by simp [rdLeft, hl.out], (Quiet.refl _).drewN _⟩
set_option maxHeartbeats 1000000 in
theorem sEnd_calls (w : World) (g : Nat) (A : Option Addr) (n c : Nat) (l : List UInt8) (p : Nat) (er : Int) (h : RD 127 w g A n c ⟨l, p, er⟩) :
    Calls Tryd.prog 94 #[.pointer (some ⟨g, 0, none⟩)] w fun e w' => e = .returned (.int .i64 (rdEnd ⟨l, p, er⟩)) ∧ Quiet w w' := by
  have h' := Lib.hid h
  obtain ⟨hb, hv, hp, hn⟩ := h
  obtain ⟨c0, c1, c2⟩ := hb.c3
  have hf := hb.free
  have hl := Lib.hid hv.len
  simp only at hp hl
  clear hb
  by_cases he : er = 0
  · subst he
    by_cases h1 : p < n
    · have hlt : rdLeft ⟨l, p, 0⟩ = (n : Int) - p := by simp [rdLeft, hl.out]
      have HX := Lib.hid hlt
      have hx : decide (0 < rdLeft ⟨l, p, 0⟩) = true := by rw [hlt]; simp; omega
      clear hlt
      go_enter Tryd.func94, Tryd.ntmps94
      go_wp2_with (go_at_call 107; go_loud (refine (sLeft_calls w g A n c l p 0 h'.out).mono ?_; rintro e w1 ⟨rfl, q, rfl⟩))
      all_goals (first | (go_ret; exact ⟨ret_int (a := 3) (by unfold rdEnd; rw [if_pos ⟨rfl, by rw [HX.out]; omega⟩]), ⟨_, rfl⟩⟩) | (exfalso; have := HX.out; simp at *; omega))
    · have hlt : rdLeft ⟨l, p, 0⟩ = (n : Int) - p := by simp [rdLeft, hl.out]
      have HX := Lib.hid hlt
      have hx : decide (0 < rdLeft ⟨l, p, 0⟩) = false := by rw [hlt]; simp; omega
      clear hlt
      go_enter Tryd.func94, Tryd.ntmps94
      go_wp2_with (go_at_call 107; go_loud (refine (sLeft_calls w g A n c l p 0 h'.out).mono ?_; rintro e w1 ⟨rfl, q, rfl⟩))
      all_goals (first | (go_ret; exact ⟨ret_int (a := 0) (by unfold rdEnd; rw [if_neg (by rw [HX.out]; omega)]), ⟨_, rfl⟩⟩) | (exfalso; have := HX.out; simp at *; omega))
  · have he' : (er == 0) = false := by simp [he]
    have HE := Lib.hid he
    clear he
    go_enter Tryd.func94, Tryd.ntmps94
    go_wp2
    go_ret
    exact ⟨ret_int (a := er) (by unfold rdEnd; rw [if_neg (fun h => HE.out h.1)]), Quiet.refl _⟩
theorem rErr_calls (w : World) (g : Nat) (A : Option Addr) (n c : Nat) (l : List UInt8) (p : Nat) (er : Int) (h : RD 113 w g A n c ⟨l, p, er⟩) :
    Calls Tryd.prog 68 #[.pointer (some ⟨g, 0, none⟩)] w fun e w' => e = .returned (.int .i64 er) ∧ w = w' := by
  have h' := Lib.hid h
  obtain ⟨hb, hv, hp, hn⟩ := h
  obtain ⟨c0, c1, c2⟩ := hb.c3
  have hf := hb.free
  have hl := Lib.hid hv.len
  simp only at hp hl
  clear hb
  go_enter Tryd.func68, Tryd.ntmps68
  go_wp2
  go_ret
  exact ⟨rfl, rfl⟩
end Go.Proofs.YtnbgieccindpnaaDoor
