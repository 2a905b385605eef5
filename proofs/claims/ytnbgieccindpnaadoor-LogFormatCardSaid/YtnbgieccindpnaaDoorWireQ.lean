/- The reference's reader: need, Uint, Raw, Blob. -/
import Derived.Test.YtnbgieccindpnaaDoorWireL
namespace Go.Proofs.YtnbgieccindpnaaDoor
set_option linter.all false
set_option maxRecDepth 20000
open Go.RowKit
set_option maxHeartbeats 1000000 in
theorem need_yes (w : World) (g : Nat) (A : Option Addr) (n c : Nat) (l : List UInt8) (p : Nat) (k : Int) (h : RD 127 w g A n c ⟨l, p, 0⟩) (hk : (p : Int) + k ≤ n) :
    Calls Tryd.prog 106 #[.pointer (some ⟨g, 0, none⟩), .int .i64 k] w fun e w' => e = .returned (.bool true) ∧ Quiet w w' := by
  have h' := Lib.hid h
  obtain ⟨hb, hv, hp, hn⟩ := h
  obtain ⟨c0, c1, c2⟩ := hb.c3
  have hf := hb.free
  have hl := Lib.hid hv.len
  simp only at hp hl
  clear hb
  have hle := hv.le
  have hx : decide ((n : Int) - p < k) = false := by simp; omega
  go_enter Tryd.func106, Tryd.ntmps106
  go_wp2_with fail
  go_quiet (fail)
  go_wp2
  go_ret
  exact ⟨rfl, (Quiet.refl _).drewN _⟩
set_option maxHeartbeats 1000000 in
theorem need_no (w : World) (g : Nat) (A : Option Addr) (n c : Nat) (l : List UInt8) (p : Nat) (k : Int) (h : RD 127 w g A n c ⟨l, p, 0⟩) (hk : (n : Int) < p + k) :
    Calls Tryd.prog 106 #[.pointer (some ⟨g, 0, none⟩), .int .i64 k] w fun e w' => e = .returned (.bool false) ∧ RD 127 w' g A n c ⟨l, p, 2⟩ ∧ Fr (fun k => k ≠ g) w w' := by
  have h' := Lib.hid h
  obtain ⟨hb, hv, hp, hn⟩ := h
  obtain ⟨c0, c1, c2⟩ := hb.c3
  have hf := hb.free
  have hl := Lib.hid hv.len
  simp only at hp hl
  clear hb
  have hle := hv.le
  have hx : decide ((n : Int) - p < k) = true := by simp; omega
  go_enter Tryd.func106, Tryd.ntmps106
  go_wp2_with fail
  go_quiet (fail)
  go_wp2
  go_ret
  first
    | exact ⟨rfl, (h'.out.fail 2).fr (Ext.drewN (Ext.refl _) _), (fr_cell _ _ _ _).drewN _⟩
    | exact ⟨rfl, (h'.out.fr (Ext.drewN (Ext.refl _) _)).fail 2, ((Fr.refl _ _).drewN _).trans (fr_cell _ _ _ _)⟩
def geBig (x : Int) : Bool := decide (9223372036854775808 ≤ x)
theorem geBig_eq (n : Nat) : geBig (n : Int) = tooBig n := by
  unfold geBig tooBig
  rw [decide_eq_decide]
  omega
theorem wrap_small {n : Nat} (h : tooBig n = false) : wrap64 (n : Int) = n := by
  unfold tooBig at h
  simp only [decide_eq_false_iff_not] at h
  unfold wrap64
  omega
theorem run_geq_63 {P : Program} (w : World) (t : TypeId) (x : Int) : (binOp .geq t (.int .u64 x) (.int .u64 9223372036854775808)).run P w = .ok (.bool (geBig x)) w := by
  unfold geBig
  simp [binOp, Op.intCmp]
theorem wpList_geq63 {P : Program} {ops : Array Oper} {rest : List Oper} {o : Oper} {a : Act} {w : World} {Q : Exit → Act → World → Prop} (hgd : Region.wanted o (yielded ops a.tmps) = true) (t t' : TypeId) (x : Operand) (ho : o.op = .binOp .geq t x (.const (.int .u64 9223372036854775808)) t') (v : Int) (hx : a.eval x = .int .u64 v)
    (h : wpList P ops Q rest (a.put o.dst (.bool (geBig v))) w) : wpList P ops Q (o :: rest) a w := by
  refine BigFrame.wpList_want hgd fun K hK => ?_
  have hc : a.eval (.const (.int .u64 9223372036854775808)) = .int .u64 9223372036854775808 := rfl
  unfold Oper.wp execOp
  simp only [ho, hx, hc, Sem.run_bind, run_geq_63, Sem.run_pure, Result.andThen_ok]
  exact hK _ _ h
set_option maxHeartbeats 1000000 in
theorem sUint_calls (w : World) (g : Nat) (A : Option Addr) (n c : Nat) (l : List UInt8) (p : Nat) (er size : Int) (h : RD 127 w g A n c ⟨l, p, er⟩) :
    Calls Tryd.prog 92 #[.pointer (some ⟨g, 0, none⟩), .int .i64 size] w (RdI 127 w g A n c (rdUint ⟨l, p, er⟩ size)) := by
  have h' := Lib.hid h
  obtain ⟨hb, hv, hp, hn⟩ := h
  obtain ⟨c0, c1, c2⟩ := hb.c3
  have hf := hb.free
  have hl := Lib.hid hv.len
  simp only at hp hl
  clear hb
  by_cases he : er = 0
  · subst he
    by_cases h1 : 1 ≤ size ∧ size ≤ 8
    · obtain ⟨h1, h2⟩ := h1
      obtain ⟨s, rfl⟩ := Int.eq_ofNat_of_zero_le (show 0 ≤ size by omega)
      by_cases h3 : p + s ≤ n
      · go_enter Tryd.func92, Tryd.ntmps92
        go_wp2_with (first | (go_at_call 106; go_loud (refine (need_yes w g A n c l p s h'.out (by omega)).mono ?_; rintro e w1 ⟨rfl, hQ1⟩)))
        have hbl : Hid (((l.drop p).take s).length = s) := Lib.hid (by rw [List.length_take, List.length_drop, hl.out]; omega)
        generalize hbs : (l.drop p).take s = bs at *
        have HBS := Lib.hid hbs
        clear hbs c0 c1 c2
        go_loopw [5, 6] (fun v i wr => ∃ j : Nat, j ≤ s ∧ i = .int .i64 j ∧ v = .int .u64 (beV (bs.take j) : Nat) ∧ Quiet w wr) (fun _ i _ => s - (intOf i).toNat)
        case atStart => exact ⟨0, Nat.zero_le _, rfl, rfl, hQ1⟩
        case round =>
          obtain ⟨j, hj, rfl, rfl, hQ⟩ := hrel
          have hRr := h'.out.fr hQ.ext
          obtain ⟨c0, c1, c2⟩ := hRr.1.c3
          by_cases hlt : j < s
          · obtain ⟨b, off, rfl, hlj, hcj⟩ := hRr.2.1.at_ (show p + j < n by omega)
            have hj2 : j < bs.length := by rw [hbl.out]; exact hlt
            have hx : l[p + j] = bs[j] := by simp only [← HBS.out, List.getElem_take, List.getElem_drop]
            simp only [hx] at hcj
            have HX := Lib.hid (beV_step bs j hj2 (by omega))
            clear hx
            generalize hy : bs[j] = y at *
            clear hy
            have hs1 : IntKind.i64.wrap ((p : Int) + j) = (p : Int) + j := IntWalk.i64_in _ (by omega)
            have hs2 : 0 ≤ (p : Int) + j := by omega
            have hs3 : ((p : Int) + j).toNat = p + j := by omega
            go_wp2_with fail
            go_quiet (fail)
            clear hs1 hs2 hs3
            go_wp2
            go_roundw
            case rel => exact ⟨j + 1, by omega, by go_num, by rw [HX.out], hQ.drewN _⟩
            case measure => (simp [intOf]; try omega)
          · obtain rfl : j = s := by omega
            have hfull : bs.take j = bs := List.take_of_length_le (by rw [hbl.out]; exact Nat.le_refl _)
            rw [hfull]
            clear hfull
            have hfr := hRr.1.free
            have HRr := Lib.hid hRr
            clear hRr hv
            go_wp2_with (go_loud (refine wpList_geq63 rfl _ _ _ rfl _ rfl ?_))
            · have hbig : tooBig (beV bs) = true := by rw [← geBig_eq]; assumption
              go_ret
              exact RdI.mk (v := 0) (by unfold rdUint; rw [if_neg (by simp), if_neg (by omega), if_neg (by rw [hl.out]; simp only [Int.toNat_natCast]; omega), if_pos (by simp only [Int.toNat_natCast, HBS.out]; exact hbig)]) (HRr.out.fail 4) ((Ext.fr hQ.ext).trans (fr_cell _ _ _ _))
            · have hbig : tooBig (beV bs) = false := by rw [← geBig_eq]; assumption
              go_ret
              exact RdI.mk (x := rdUint ⟨l, p, 0⟩ j) (v := wrap64 (beV bs : Nat)) (r := ⟨l, p + j, 0⟩) (by rw [wrap_small hbig]; unfold rdUint; rw [if_neg (by simp), if_neg (by omega), if_neg (by rw [hl.out]; simp only [Int.toNat_natCast]; omega), if_neg (by simp only [Int.toNat_natCast, HBS.out, hbig]; simp)]; simp only [Int.toNat_natCast, HBS.out]) (HRr.out.move (p := (p : Int) + j) (q := p + j) (by simp) h3) ((Ext.fr hQ.ext).trans (fr_cell _ _ _ _))
      · go_enter Tryd.func92, Tryd.ntmps92
        go_wp2_with (first | (go_at_call 106; go_loud (refine (need_no w g A n c l p s h'.out (by omega)).mono ?_; rintro e w1 ⟨rfl, hR1, hF1⟩)))
        go_ret
        exact RdI.mk (v := 0) (by unfold rdUint; rw [if_neg (by simp), if_neg (by omega), if_pos (by rw [hl.out]; simp only [Int.toNat_natCast]; omega)]) hR1 hF1
    · go_enter Tryd.func92, Tryd.ntmps92
      go_wp2
      all_goals
        go_ret
        exact RdI.mk (v := 0) (by unfold rdUint; rw [if_neg (by simp), if_pos (by omega)]) (h'.out.fail 1) (fr_cell _ _ _ _)
  · have he' : (er == 0) = false := by simp [he]
    have he2 : (er != 0) = true := by simp [he]
    have HE := Lib.hid he
    clear he
    go_enter Tryd.func92, Tryd.ntmps92
    go_wp2
    go_ret
    exact RdI.mk (v := 0) (by unfold rdUint; rw [if_pos HE.out]) h'.out (Fr.refl _ _)
end Go.Proofs.YtnbgieccindpnaaDoor
