/- The readers of the wire: Blob. -/
import Derived.Test.YtnbgieccindpnaaDoorWireR
namespace Go.Proofs.YtnbgieccindpnaaDoor
set_option linter.all false
set_option maxRecDepth 20000
open Go.RowKit
set_option maxHeartbeats 1000000 in
theorem rBlob_calls (w : World) (g : Nat) (A : Option Addr) (n c : Nat) (l : List UInt8) (p : Nat) (er most : Int) (h : RD 113 w g A n c ⟨l, p, er⟩) :
    Calls Tryd.prog 70 #[.pointer (some ⟨g, 0, none⟩), .int .i64 most] w (RdB 113 w g A n c (rdBlob ⟨l, p, er⟩ most)) := by
  have h' := Lib.hid h
  obtain ⟨hb, hv, hp, hn⟩ := h
  obtain ⟨c0, c1, c2⟩ := hb.c3
  have hf := hb.free
  have hl := Lib.hid hv.len
  simp only at hp hl
  clear hb
  by_cases he : er = 0
  · subst he
    by_cases h3 : p + 2 ≤ n
    · go_enter Tryd.func70, Tryd.ntmps70
      go_wp2_with fail
      go_loud (refine (take_yes w g A n c l _ rfl _ _ p 2 h'.out rfl rfl h3).mono ?_)
      rintro e w1 ⟨A', rfl, hcut, rfl⟩
      have hbl := Lib.hid hcut.len
      generalize hbs : (l.drop p).take 2 = bs at *
      have HBS := Lib.hid hbs
      clear hbs
      obtain ⟨b, off, rfl, hl0, hc0⟩ := hcut.at_ (show 0 < 2 by omega)
      obtain ⟨b', off', hbo, hl1, hc1⟩ := hcut.at_ (show 1 < 2 by omega)
      injection hbo with hbo; injection hbo with hbo1 hbo2; subst hbo1; subst hbo2
      clear hcut
      rw [Nat.add_zero] at hc0
      generalize hx0 : bs[0] = x0 at *
      generalize hx1 : bs[1] = x1 at *
      have HX0 := Lib.hid hx0
      have HX1 := Lib.hid hx1
      clear hx0 hx1
      go_wp2_with fail
      go_quiet (fail)
      go_upto_region 9 with fail
      simp only [head2]
      have hq0 : beV bs = x0.toNat * 256 + x1.toNat := by rw [beV_two bs hl0 hl1 hbl.out, HX0.out, HX1.out]
      generalize hq : x0.toNat * 256 + x1.toNat = q at *
      have HQ := Lib.hid hq0
      have hq1 : q ≤ 65535 := by have := x0.toNat_lt; have := x1.toNat_lt; omega
      clear hq hq0
      refine wp_forget (fun w2 => RD 113 w2 g A n c ⟨l, p, 0⟩ ∧ Ext w w2) ⟨h'.out.fr ((Ext.refl _).drewN _), (Ext.refl _).drewN _⟩ ?_
      clear hc0 hc1 c0 c1 c2 hf hv
      rintro w2 ⟨hR, hE2⟩
      have hR' := Lib.hid hR
      obtain ⟨hb, hv, _, _⟩ := hR
      obtain ⟨c0, c1, c2⟩ := hb.c3
      have hf := hb.free
      clear hb
      by_cases hm : most < (q : Int)
      · go_wp2_with (go_at_call 87; go_loud (refine (fail_calls w2 g A n c _ _ hR'.out).mono ?_; rintro e w9 ⟨rfl, rfl⟩))
        go_ret
        exact RdB.mk (S := none) (m := 0) (k := 0) (by unfold rdBlob; rw [if_neg (by simp), if_neg (by simp only [hl.out]; omega), if_pos (by simp only [HBS.out, HQ.out]; exact hm)]) (hR'.out.fail 4) (OB.nil_ _ _ _) ((Ext.fr hE2).trans (fr_cell _ _ _ _))
      · by_cases h4 : p + 2 + q ≤ n
        · go_wp2_with (first | (go_at_call 88; go_loud (refine (take_yes w2 g A n c l _ rfl _ _ (p + 2) q hR'.out (by simp) rfl h4).mono ?_; rintro e w1 ⟨A', rfl, hcut, rfl⟩)) | (at_builtin; go_loud (refine wpList_appB (w0 := w2.setCell ⟨g, 1, none⟩ (.int .i64 ((p : Int) + (2 + q)))) rfl _ _ _ rfl _ infoB Tryd.underlying22 _ _ _ [] rfl (OB.nil_ _ _ _) A' q (c - (p + 2)) ((l.drop (p + 2)).take q) rfl (hcut.fr (fr_cell _ _ _ _)) (by omega) (Ext.refl _) ?_; intro S1 k1 w1 hO1 hE1; simp only [Nat.zero_add, List.nil_append] at hO1)))
          go_ret
          exact RdB.mk (S := S1) (m := q) (k := k1) (l := (l.drop (p + 2)).take q) (r := ⟨l, p + (2 + q), 0⟩) (by unfold rdBlob; simp only [HBS.out, HQ.out]; rw [if_neg (by simp), if_neg (by simp only [hl.out]; omega), if_neg (by omega), if_neg (by simp only [hl.out]; omega)]) ((hR'.out.move (q := p + (2 + q)) (by simp) (by omega)).fr hE1) (by have := hE2.size; exact OB.mono (by simpa using hO1) this) (((Ext.fr hE2).trans (fr_cell _ _ _ _)).ext hE1)
        · go_wp2_with (first | (go_at_call 88; go_loud (refine (take_no w2 g A n c _ _ _ hR'.out (by omega) (by omega) (by omega)).mono ?_; rintro e w1 ⟨rfl, rfl⟩)) | (go_at_call 87; go_loud (refine (fail_calls w2 g A n c _ _ hR'.out).mono ?_; rintro e w9 ⟨rfl, rfl⟩)))
          go_ret
          exact RdB.mk (S := none) (m := 0) (k := 0) (by unfold rdBlob; simp only [HBS.out, HQ.out]; rw [if_neg (by simp), if_neg (by simp only [hl.out]; omega), if_neg (by omega), if_pos (by simp only [hl.out]; omega)]) (hR'.out.fail 2) (OB.nil_ _ _ _) ((Ext.fr hE2).trans (fr_cell _ _ _ _))
    · go_enter Tryd.func70, Tryd.ntmps70
      go_wp2_with (first | (go_at_call 88; go_loud (refine (take_no w g A n c _ _ _ h'.out (by omega) (by omega) (by omega)).mono ?_; rintro e w1 ⟨rfl, rfl⟩)) | (go_at_call 87; go_loud (refine (fail_calls w g A n c _ _ h'.out).mono ?_; rintro e w9 ⟨rfl, rfl⟩)))
      go_ret
      exact RdB.mk (S := none) (m := 0) (k := 0) (by unfold rdBlob; rw [if_neg (by simp), if_pos (by simp only [hl.out]; omega)]) (h'.out.fail 2) (OB.nil_ _ _ _) (fr_cell _ _ _ _)
  · have he' : (er != 0) = true := by simp [he]
    have HE := Lib.hid he
    clear he
    go_enter Tryd.func70, Tryd.ntmps70
    go_wp2
    go_ret
    exact RdB.mk (S := none) (m := 0) (k := 0) (by unfold rdBlob; rw [if_pos HE.out]) h'.out (OB.nil_ _ _ _) (Fr.refl _ _)
end Go.Proofs.YtnbgieccindpnaaDoor
