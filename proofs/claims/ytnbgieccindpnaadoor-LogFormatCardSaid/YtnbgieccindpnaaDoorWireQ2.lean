/- The reference's reader: need, Uint, Raw, Blob. -/
import Derived.Test.YtnbgieccindpnaaDoorWireQ
namespace Go.Proofs.YtnbgieccindpnaaDoor
set_option linter.all false
set_option maxRecDepth 20000
open Go.RowKit
set_option maxHeartbeats 1000000 in
theorem sBlob_calls (w : World) (g : Nat) (A : Option Addr) (n c : Nat) (l : List UInt8) (p : Nat) (er most : Int) (h : RD 127 w g A n c ⟨l, p, er⟩) :
    Calls Tryd.prog 93 #[.pointer (some ⟨g, 0, none⟩), .int .i64 most] w (RdB 127 w g A n c (rdBlob ⟨l, p, er⟩ most)) := by
  have h' := Lib.hid h
  obtain ⟨hb, hv, hp, hn⟩ := h
  obtain ⟨c0, c1, c2⟩ := hb.c3
  have hf := hb.free
  have hl := Lib.hid hv.len
  simp only at hp hl
  clear hb
  by_cases he : er = 0
  · subst he
    by_cases h3 : p + 2 ≤ n
    · obtain ⟨b, off, rfl, hl0, hc0⟩ := hv.at_ (show p < n by omega)
      obtain ⟨b', off', hbo, hl1, hc1⟩ := hv.at_ (show p + 1 < n by omega)
      injection hbo with hbo; injection hbo with hbo1 hbo2; subst hbo1; subst hbo2
      have hbl : Hid (((l.drop p).take 2).length = 2) := Lib.hid (by rw [List.length_take, List.length_drop, hl.out]; omega)
      generalize hbs : (l.drop p).take 2 = bs at *
      have hz0 : 0 < bs.length := by rw [hbl.out]; omega
      have hz1 : 1 < bs.length := by rw [hbl.out]; omega
      have hx0 : l[p] = bs[0] := by simp only [← hbs, List.getElem_take, List.getElem_drop, Nat.add_zero]
      have hx1 : l[p + 1] = bs[1] := by simp only [← hbs, List.getElem_take, List.getElem_drop]
      have HV := Lib.hid (beV_two bs hz0 hz1 hbl.out)
      have HBS := Lib.hid hbs
      clear hbs
      rw [hx0] at hc0
      rw [hx1] at hc1
      clear hx0 hx1
      generalize bs[0] = x0 at *
      generalize bs[1] = x1 at *
      clear hz0 hz1
      have hs1 : IntKind.i64.wrap ((p : Int) + 1) = (p : Int) + 1 := IntWalk.i64_in _ (by omega)
      have hs2 : 0 ≤ (p : Int) + 1 := by omega
      have hs3 : ((p : Int) + 1).toNat = p + 1 := by omega
      go_enter Tryd.func93, Tryd.ntmps93
      go_wp2_with (first | (go_at_call 106; go_loud (refine (need_yes w g _ n c l p 2 h'.out (by omega)).mono ?_; rintro e w1 ⟨rfl, q1, rfl⟩)))
      go_quiet (fail)
      clear hs1 hs2 hs3
      go_upto_region 4 with fail
      simp only [head2]
      have hq0 := HV.out
      generalize hq : x0.toNat * 256 + x1.toNat = q at *
      have HQ := Lib.hid hq0
      have hq1 : q ≤ 65535 := by have := x0.toNat_lt; have := x1.toNat_lt; omega
      clear hq hq0 HV
      refine wp_forget (fun w2 => RD 127 w2 g (some ⟨b, off, none⟩) n c ⟨l, p, 0⟩ ∧ Ext w w2) ⟨h'.out.fr (by first | exact Ext.drewN (Ext.refl _) _ | exact Ext.drewN (Ext.drewN (Ext.refl _) _) _), by first | exact Ext.drewN (Ext.refl _) _ | exact Ext.drewN (Ext.drewN (Ext.refl _) _) _⟩ ?_
      clear hc0 hc1 c0 c1 c2 hf hv
      rintro w2 ⟨hR, hE2⟩
      have hR' := Lib.hid hR
      obtain ⟨hb, hv, _, _⟩ := hR
      obtain ⟨c0, c1, c2⟩ := hb.c3
      have hf := hb.free
      clear hb
      by_cases hm : most < (q : Int)
      · go_wp2
        go_ret
        exact RdB.mk (S := none) (m := 0) (k := 0) (by unfold rdBlob; rw [if_neg (by simp), if_neg (by simp only [hl.out]; omega), if_pos (by simp only [HBS.out, HQ.out]; exact hm)]) (hR'.out.fail 4) (OB.nil_ _ _ _) ((Ext.fr hE2).trans (fr_cell _ _ _ _))
      · by_cases h4 : p + 2 + q ≤ n
        · go_upto_region 10 with (first | (go_at_call 106; go_loud (refine (need_yes w2 g _ n c l p (2 + q) hR'.out (by omega)).mono ?_; rintro e w1 ⟨rfl, q1, rfl⟩)))
          refine wp_forget (fun w3 => RD 127 w3 g (some ⟨b, off, none⟩) n c ⟨l, p + (2 + q), 0⟩ ∧ Fr (fun k => k ≠ g) w w3) ⟨by first | exact ((hR'.out.fr (Ext.drewN (Ext.refl _) _)).move (q := p + (2 + q)) (by simp) (by omega)) | exact ((hR'.out.move (q := p + (2 + q)) (by simp) (by omega)).fr (Ext.drewN (Ext.refl _) _)), (Ext.fr hE2).trans (by first | exact ((Fr.refl _ _).drewN _).trans (fr_cell _ _ _ _) | exact (fr_cell _ _ _ _).drewN _)⟩ ?_
          clear c0 c1 c2 hf hv hE2
          rintro w3 ⟨hR3, hF3⟩
          have hB3 := hR3.1
          have hV3 := hR3.2.1
          simp only at hB3 hV3
          refine wp_region_f (fun i v w' => match i with | 0 => ∃ g', v = .slice (some ⟨g', 0, none⟩) 0 0 ∧ OB w' w3.heap.size 5 (some ⟨g', 0, none⟩) 0 0 [] | 1 => v = .pointer (some ⟨g, 0, none⟩) | 2 => v = .pointer (some ⟨g, 0, none⟩) | 3 => v = .pointer (some ⟨g, 0, none⟩) | 4 => v = .slice (some ⟨b, off, none⟩) n c | 5 => v = .pointer (some ⟨g, 0, none⟩) | 6 => v = .pointer (some ⟨g, 0, none⟩) | 7 => v = .pointer (some ⟨g, 1, none⟩) | 8 => v = .int .i64 ((p + (2 + q) : Nat) : Int) | 9 => v = .int .i64 (q : Int) | 10 => v = .int .i64 ((p + 2 : Nat) : Int) | 11 => v = .pointer (some ⟨g, 0, none⟩) | 12 => v = .pointer (some ⟨g, 0, none⟩) | 13 => v = .pointer (some ⟨g, 1, none⟩) | 14 => v = .int .i64 ((p + (2 + q) : Nat) : Int) | 15 => ∃ A', v = .slice A' q (c - (p + 2)) ∧ BV w' (fun k => k ≠ g) A' q (c - (p + 2)) ((l.drop (p + 2)).take q) | _ => True) 16 (by kernel_rfl) (by kernel_rfl) ?_ ?_
          · simp only [List.take_succ_cons, List.take_zero]
            refine steps_cons (fun vs w1 hS0 hF => ?_) ?_
            · clear hF
              have hS := Ext.drewL hS0
              clear hS0
              simp only [fillA, List.take, List.drop, Act.put, List.setIfInBounds_toArray, List.set, Nat.zero_add, Nat.reduceAdd]
              refine ⟨?_⟩
              go_wp2
              exact ⟨rfl, (by with_reducible repeat (first | exact Ext.refl _ | refine Ext.alloc ?_ _ | refine Ext.drewN ?_ _ | refine Ext.trans ?_ (by assumption))), Keep.mk_ (⟨_, rfl, OB.lit0 w1 0 5 hS.size⟩)⟩
            refine steps_cons (fun vs w1 hS0 hF => ?_) ?_
            · clear hF
              have hS := Ext.drewL hS0
              clear hS0
              simp only [fillA, List.take, List.drop, Act.put, List.setIfInBounds_toArray, List.set, Nat.zero_add, Nat.reduceAdd]
              refine ⟨?_⟩
              go_wp2
              exact ⟨rfl, (by with_reducible repeat (first | exact Ext.refl _ | refine Ext.alloc ?_ _ | refine Ext.drewN ?_ _ | refine Ext.trans ?_ (by assumption))), Keep.mk_ (rfl)⟩
            refine steps_cons (fun vs w1 hS0 hF => ?_) ?_
            · obtain ⟨u1, p1, x1⟩ := (hF.at_ 1 (by kernel_rfl)).ex
              have h1 : vs 1 = .pointer (some ⟨g, 0, none⟩) := p1
              clear x1 p1
              clear hF
              have hS := Ext.drewL hS0
              clear hS0
              simp only [fillA, List.take, List.drop, Act.put, List.setIfInBounds_toArray, List.set, Nat.zero_add, Nat.reduceAdd, h1]
              refine ⟨?_⟩
              go_wp2
              exact ⟨rfl, (by with_reducible repeat (first | exact Ext.refl _ | refine Ext.alloc ?_ _ | refine Ext.drewN ?_ _ | refine Ext.trans ?_ (by assumption))), Keep.mk_ (rfl)⟩
            refine steps_cons (fun vs w1 hS0 hF => ?_) ?_
            · obtain ⟨u2, p2, x2⟩ := (hF.at_ 2 (by kernel_rfl)).ex
              have h2 : vs 2 = .pointer (some ⟨g, 0, none⟩) := p2
              clear x2 p2
              clear hF
              have hS := Ext.drewL hS0
              clear hS0
              simp only [fillA, List.take, List.drop, Act.put, List.setIfInBounds_toArray, List.set, Nat.zero_add, Nat.reduceAdd, h2]
              refine ⟨?_⟩
              go_wp2
              exact ⟨rfl, (by with_reducible repeat (first | exact Ext.refl _ | refine Ext.alloc ?_ _ | refine Ext.drewN ?_ _ | refine Ext.trans ?_ (by assumption))), Keep.mk_ (rfl)⟩
            refine steps_cons (fun vs w1 hS0 hF => ?_) ?_
            · obtain ⟨u3, p3, x3⟩ := (hF.at_ 3 (by kernel_rfl)).ex
              have h3 : vs 3 = .pointer (some ⟨g, 0, none⟩) := p3
              clear x3 p3
              clear hF
              have hS := Ext.drewL hS0
              clear hS0
              simp only [fillA, List.take, List.drop, Act.put, List.setIfInBounds_toArray, List.set, Nat.zero_add, Nat.reduceAdd, h3]
              refine ⟨?_⟩
              go_wp2_with (((with_reducible (show wpList _ _ _ (⟨_, Op.load _ _, _, _, _, _⟩ :: _) _ _)); refine wpList_ldC rfl _ _ rfl _ rfl _ (by refine Eq.trans (Blk.cell (Blk.ext (by assumption) (by (with_reducible repeat (first | exact Ext.refl _ | refine Ext.alloc ?_ _ | refine Ext.drewN ?_ _ | refine Ext.trans ?_ (by assumption))))) _) ?_; rfl) (by kernel_rfl) ?_))
              exact ⟨rfl, (by with_reducible repeat (first | exact Ext.refl _ | refine Ext.alloc ?_ _ | refine Ext.drewN ?_ _ | refine Ext.trans ?_ (by assumption))), Keep.mk_ (rfl)⟩
            refine steps_cons (fun vs w1 hS0 hF => ?_) ?_
            · clear hF
              have hS := Ext.drewL hS0
              clear hS0
              simp only [fillA, List.take, List.drop, Act.put, List.setIfInBounds_toArray, List.set, Nat.zero_add, Nat.reduceAdd]
              refine ⟨?_⟩
              go_wp2
              exact ⟨rfl, (by with_reducible repeat (first | exact Ext.refl _ | refine Ext.alloc ?_ _ | refine Ext.drewN ?_ _ | refine Ext.trans ?_ (by assumption))), Keep.mk_ (rfl)⟩
            refine steps_cons (fun vs w1 hS0 hF => ?_) ?_
            · obtain ⟨u5, p5, x5⟩ := (hF.at_ 5 (by kernel_rfl)).ex
              have h5 : vs 5 = .pointer (some ⟨g, 0, none⟩) := p5
              clear x5 p5
              clear hF
              have hS := Ext.drewL hS0
              clear hS0
              simp only [fillA, List.take, List.drop, Act.put, List.setIfInBounds_toArray, List.set, Nat.zero_add, Nat.reduceAdd, h5]
              refine ⟨?_⟩
              go_wp2
              exact ⟨rfl, (by with_reducible repeat (first | exact Ext.refl _ | refine Ext.alloc ?_ _ | refine Ext.drewN ?_ _ | refine Ext.trans ?_ (by assumption))), Keep.mk_ (rfl)⟩
            refine steps_cons (fun vs w1 hS0 hF => ?_) ?_
            · obtain ⟨u6, p6, x6⟩ := (hF.at_ 6 (by kernel_rfl)).ex
              have h6 : vs 6 = .pointer (some ⟨g, 0, none⟩) := p6
              clear x6 p6
              clear hF
              have hS := Ext.drewL hS0
              clear hS0
              simp only [fillA, List.take, List.drop, Act.put, List.setIfInBounds_toArray, List.set, Nat.zero_add, Nat.reduceAdd, h6]
              refine ⟨?_⟩
              go_wp2
              exact ⟨rfl, (by with_reducible repeat (first | exact Ext.refl _ | refine Ext.alloc ?_ _ | refine Ext.drewN ?_ _ | refine Ext.trans ?_ (by assumption))), Keep.mk_ (rfl)⟩
            refine steps_cons (fun vs w1 hS0 hF => ?_) ?_
            · obtain ⟨u7, p7, x7⟩ := (hF.at_ 7 (by kernel_rfl)).ex
              have h7 : vs 7 = .pointer (some ⟨g, 1, none⟩) := p7
              clear x7 p7
              clear hF
              have hS := Ext.drewL hS0
              clear hS0
              simp only [fillA, List.take, List.drop, Act.put, List.setIfInBounds_toArray, List.set, Nat.zero_add, Nat.reduceAdd, h7]
              refine ⟨?_⟩
              go_wp2_with (((with_reducible (show wpList _ _ _ (⟨_, Op.load _ _, _, _, _, _⟩ :: _) _ _)); refine wpList_ldC rfl _ _ rfl _ rfl _ (by refine Eq.trans (Blk.cell (Blk.ext (by assumption) (by (with_reducible repeat (first | exact Ext.refl _ | refine Ext.alloc ?_ _ | refine Ext.drewN ?_ _ | refine Ext.trans ?_ (by assumption))))) _) ?_; rfl) (by kernel_rfl) ?_))
              exact ⟨rfl, (by with_reducible repeat (first | exact Ext.refl _ | refine Ext.alloc ?_ _ | refine Ext.drewN ?_ _ | refine Ext.trans ?_ (by assumption))), Keep.mk_ (rfl)⟩
            refine steps_cons (fun vs w1 hS0 hF => ?_) ?_
            · clear hF
              have hS := Ext.drewL hS0
              clear hS0
              simp only [fillA, List.take, List.drop, Act.put, List.setIfInBounds_toArray, List.set, Nat.zero_add, Nat.reduceAdd]
              refine ⟨?_⟩
              go_wp2
              exact ⟨rfl, (by with_reducible repeat (first | exact Ext.refl _ | refine Ext.alloc ?_ _ | refine Ext.drewN ?_ _ | refine Ext.trans ?_ (by assumption))), Keep.mk_ (rfl)⟩
            refine steps_cons (fun vs w1 hS0 hF => ?_) ?_
            · obtain ⟨u8, p8, x8⟩ := (hF.at_ 8 (by kernel_rfl)).ex
              have h8 : vs 8 = .int .i64 ((p + (2 + q) : Nat) : Int) := p8
              clear x8 p8
              obtain ⟨u9, p9, x9⟩ := (hF.at_ 9 (by kernel_rfl)).ex
              have h9 : vs 9 = .int .i64 (q : Int) := p9
              clear x9 p9
              clear hF
              have hS := Ext.drewL hS0
              clear hS0
              simp only [fillA, List.take, List.drop, Act.put, List.setIfInBounds_toArray, List.set, Nat.zero_add, Nat.reduceAdd, h8, h9]
              refine ⟨?_⟩
              go_wp2
              exact ⟨rfl, (by with_reducible repeat (first | exact Ext.refl _ | refine Ext.alloc ?_ _ | refine Ext.drewN ?_ _ | refine Ext.trans ?_ (by assumption))), Keep.mk_ ((congrArg (Value.int .i64) (by first | (push_cast; omega) | omega | (simp; omega))))⟩
            refine steps_cons (fun vs w1 hS0 hF => ?_) ?_
            · clear hF
              have hS := Ext.drewL hS0
              clear hS0
              simp only [fillA, List.take, List.drop, Act.put, List.setIfInBounds_toArray, List.set, Nat.zero_add, Nat.reduceAdd]
              refine ⟨?_⟩
              go_wp2
              exact ⟨rfl, (by with_reducible repeat (first | exact Ext.refl _ | refine Ext.alloc ?_ _ | refine Ext.drewN ?_ _ | refine Ext.trans ?_ (by assumption))), Keep.mk_ (rfl)⟩
            refine steps_cons (fun vs w1 hS0 hF => ?_) ?_
            · obtain ⟨u11, p11, x11⟩ := (hF.at_ 11 (by kernel_rfl)).ex
              have h11 : vs 11 = .pointer (some ⟨g, 0, none⟩) := p11
              clear x11 p11
              clear hF
              have hS := Ext.drewL hS0
              clear hS0
              simp only [fillA, List.take, List.drop, Act.put, List.setIfInBounds_toArray, List.set, Nat.zero_add, Nat.reduceAdd, h11]
              refine ⟨?_⟩
              go_wp2
              exact ⟨rfl, (by with_reducible repeat (first | exact Ext.refl _ | refine Ext.alloc ?_ _ | refine Ext.drewN ?_ _ | refine Ext.trans ?_ (by assumption))), Keep.mk_ (rfl)⟩
            refine steps_cons (fun vs w1 hS0 hF => ?_) ?_
            · obtain ⟨u12, p12, x12⟩ := (hF.at_ 12 (by kernel_rfl)).ex
              have h12 : vs 12 = .pointer (some ⟨g, 0, none⟩) := p12
              clear x12 p12
              clear hF
              have hS := Ext.drewL hS0
              clear hS0
              simp only [fillA, List.take, List.drop, Act.put, List.setIfInBounds_toArray, List.set, Nat.zero_add, Nat.reduceAdd, h12]
              refine ⟨?_⟩
              go_wp2
              exact ⟨rfl, (by with_reducible repeat (first | exact Ext.refl _ | refine Ext.alloc ?_ _ | refine Ext.drewN ?_ _ | refine Ext.trans ?_ (by assumption))), Keep.mk_ (rfl)⟩
            refine steps_cons (fun vs w1 hS0 hF => ?_) ?_
            · obtain ⟨u13, p13, x13⟩ := (hF.at_ 13 (by kernel_rfl)).ex
              have h13 : vs 13 = .pointer (some ⟨g, 1, none⟩) := p13
              clear x13 p13
              clear hF
              have hS := Ext.drewL hS0
              clear hS0
              simp only [fillA, List.take, List.drop, Act.put, List.setIfInBounds_toArray, List.set, Nat.zero_add, Nat.reduceAdd, h13]
              refine ⟨?_⟩
              go_wp2_with (((with_reducible (show wpList _ _ _ (⟨_, Op.load _ _, _, _, _, _⟩ :: _) _ _)); refine wpList_ldC rfl _ _ rfl _ rfl _ (by refine Eq.trans (Blk.cell (Blk.ext (by assumption) (by (with_reducible repeat (first | exact Ext.refl _ | refine Ext.alloc ?_ _ | refine Ext.drewN ?_ _ | refine Ext.trans ?_ (by assumption))))) _) ?_; rfl) (by kernel_rfl) ?_))
              exact ⟨rfl, (by with_reducible repeat (first | exact Ext.refl _ | refine Ext.alloc ?_ _ | refine Ext.drewN ?_ _ | refine Ext.trans ?_ (by assumption))), Keep.mk_ (rfl)⟩
            refine steps_cons (fun vs w1 hS0 hF => ?_) ?_
            · obtain ⟨u4, p4, x4⟩ := (hF.at_ 4 (by kernel_rfl)).ex
              have h4 : vs 4 = .slice (some ⟨b, off, none⟩) n c := p4
              clear x4 p4
              obtain ⟨u10, p10, x10⟩ := (hF.at_ 10 (by kernel_rfl)).ex
              have h10 : vs 10 = .int .i64 ((p + 2 : Nat) : Int) := p10
              clear x10 p10
              obtain ⟨u14, p14, x14⟩ := (hF.at_ 14 (by kernel_rfl)).ex
              have h14 : vs 14 = .int .i64 ((p + (2 + q) : Nat) : Int) := p14
              clear x14 p14
              clear hF
              have hS := Ext.drewL hS0
              clear hS0
              simp only [fillA, List.take, List.drop, Act.put, List.setIfInBounds_toArray, List.set, Nat.zero_add, Nat.reduceAdd, h4, h10, h14]
              refine ⟨?_⟩
              go_wp2_with (((with_reducible (show wpList _ _ _ (⟨_, Op.slice _ _ _ _ _, _, _, _, _⟩ :: _) _ _)); go_loud (refine wpList_cutB rfl _ _ _ _ rfl _ Tryd.underlying22 infoB rfl (by refine BV.ext (by assumption) ?_; (with_reducible repeat (first | exact Ext.refl _ | refine Ext.alloc ?_ _ | refine Ext.drewN ?_ _ | refine Ext.trans ?_ (by assumption)))) (p + 2) (p + (2 + q)) _ _ rfl rfl (by omega) (by omega) ?_; intro A' hcut)))
              exact ⟨rfl, (by with_reducible repeat (first | exact Ext.refl _ | refine Ext.alloc ?_ _ | refine Ext.drewN ?_ _ | refine Ext.trans ?_ (by assumption))), Keep.mk_ ((by have e1 : p + (2 + q) - (p + 2) = q := (by omega); simp only [e1] at hcut ⊢; exact ⟨A', rfl, hcut⟩))⟩
            exact trivial
          · intro vs w2 hE2 hF
            obtain ⟨u0, p0, x0⟩ := (hF.at_ 0 (by omega)).ex
            obtain ⟨g0, h0, o0⟩ := p0
            replace o0 := o0.ext x0
            clear x0
            obtain ⟨u1, p1, x1⟩ := (hF.at_ 1 (by omega)).ex
            have h1 : vs 1 = .pointer (some ⟨g, 0, none⟩) := p1
            clear x1 p1
            obtain ⟨u2, p2, x2⟩ := (hF.at_ 2 (by omega)).ex
            have h2 : vs 2 = .pointer (some ⟨g, 0, none⟩) := p2
            clear x2 p2
            obtain ⟨u3, p3, x3⟩ := (hF.at_ 3 (by omega)).ex
            have h3 : vs 3 = .pointer (some ⟨g, 0, none⟩) := p3
            clear x3 p3
            obtain ⟨u4, p4, x4⟩ := (hF.at_ 4 (by omega)).ex
            have h4 : vs 4 = .slice (some ⟨b, off, none⟩) n c := p4
            clear x4 p4
            obtain ⟨u5, p5, x5⟩ := (hF.at_ 5 (by omega)).ex
            have h5 : vs 5 = .pointer (some ⟨g, 0, none⟩) := p5
            clear x5 p5
            obtain ⟨u6, p6, x6⟩ := (hF.at_ 6 (by omega)).ex
            have h6 : vs 6 = .pointer (some ⟨g, 0, none⟩) := p6
            clear x6 p6
            obtain ⟨u7, p7, x7⟩ := (hF.at_ 7 (by omega)).ex
            have h7 : vs 7 = .pointer (some ⟨g, 1, none⟩) := p7
            clear x7 p7
            obtain ⟨u8, p8, x8⟩ := (hF.at_ 8 (by omega)).ex
            have h8 : vs 8 = .int .i64 ((p + (2 + q) : Nat) : Int) := p8
            clear x8 p8
            obtain ⟨u9, p9, x9⟩ := (hF.at_ 9 (by omega)).ex
            have h9 : vs 9 = .int .i64 (q : Int) := p9
            clear x9 p9
            obtain ⟨u10, p10, x10⟩ := (hF.at_ 10 (by omega)).ex
            have h10 : vs 10 = .int .i64 ((p + 2 : Nat) : Int) := p10
            clear x10 p10
            obtain ⟨u11, p11, x11⟩ := (hF.at_ 11 (by omega)).ex
            have h11 : vs 11 = .pointer (some ⟨g, 0, none⟩) := p11
            clear x11 p11
            obtain ⟨u12, p12, x12⟩ := (hF.at_ 12 (by omega)).ex
            have h12 : vs 12 = .pointer (some ⟨g, 0, none⟩) := p12
            clear x12 p12
            obtain ⟨u13, p13, x13⟩ := (hF.at_ 13 (by omega)).ex
            have h13 : vs 13 = .pointer (some ⟨g, 1, none⟩) := p13
            clear x13 p13
            obtain ⟨u14, p14, x14⟩ := (hF.at_ 14 (by omega)).ex
            have h14 : vs 14 = .int .i64 ((p + (2 + q) : Nat) : Int) := p14
            clear x14 p14
            obtain ⟨u15, p15, x15⟩ := (hF.at_ 15 (by omega)).ex
            obtain ⟨A15, h15, b15⟩ := p15
            replace b15 := b15.ext x15
            clear x15
            clear hF
            simp only [fillA, List.take, List.drop, Act.put, List.setIfInBounds_toArray, List.set, Nat.zero_add, Nat.reduceAdd, h0, h1, h2, h3, h4, h5, h6, h7, h8, h9, h10, h11, h12, h13, h14, h15]
            refine ⟨?_⟩
            go_wp2_with (at_builtin; go_loud (refine wpList_app0 rfl _ _ _ rfl _ infoB Tryd.underlying22 rfl o0 hE2.size rfl b15 (by omega) ?_; intro S5 k5 w5 hO5 hE5))
            go_ret
            exact RdB.mk (x := rdBlob ⟨l, p, 0⟩ most) (S := S5) (m := q) (k := k5) (l := (l.drop (p + 2)).take q) (r := ⟨l, p + (2 + q), 0⟩) (by unfold rdBlob; simp only [HBS.out, HQ.out]; rw [if_neg (by simp), if_neg (by simp only [hl.out]; omega), if_neg (by omega), if_neg (by simp only [hl.out]; omega)]) (hR3.fr (hE2.trans hE5)) (hO5.mono hF3.size) (hF3.ext (hE2.trans hE5))
        · go_wp2_with (first | (go_at_call 106; go_loud (refine (need_no w2 g _ n c l p (2 + q) hR'.out (by omega)).mono ?_; rintro e w1 ⟨rfl, hR1, hF1⟩)))
          go_ret
          exact RdB.mk (S := none) (m := 0) (k := 0) (by unfold rdBlob; simp only [HBS.out, HQ.out]; rw [if_neg (by simp), if_neg (by simp only [hl.out]; omega), if_neg (by omega), if_pos (by simp only [hl.out]; omega)]) hR1 (OB.nil_ _ _ _) ((Ext.fr hE2).trans hF1)
    · go_enter Tryd.func93, Tryd.ntmps93
      go_wp2_with (first | (go_at_call 106; go_loud (refine (need_no w g A n c l p 2 h'.out (by omega)).mono ?_; rintro e w1 ⟨rfl, hR1, hF1⟩)))
      go_ret
      exact RdB.mk (S := none) (m := 0) (k := 0) (by unfold rdBlob; rw [if_neg (by simp), if_pos (by simp only [hl.out]; omega)]) hR1 (OB.nil_ _ _ _) hF1
  · have he' : (er == 0) = false := by simp [he]
    have he2 : (er != 0) = true := by simp [he]
    have HE := Lib.hid he
    clear he
    go_enter Tryd.func93, Tryd.ntmps93
    go_wp2
    go_ret
    exact RdB.mk (S := none) (m := 0) (k := 0) (by unfold rdBlob; rw [if_pos HE.out]) h'.out (OB.nil_ _ _ _) (Fr.refl _ _)
end Go.Proofs.YtnbgieccindpnaaDoor
