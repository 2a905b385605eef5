/- The readers of the wire: contracts of the methods. -/
import Derived.Test.YtnbgieccindpnaaDoorWireU
namespace Go.Proofs.YtnbgieccindpnaaDoor
set_option linter.all false
set_option maxRecDepth 20000
open Go.RowKit

/-- A reader in its box. -/
def RD (t : TypeId) (w : World) (g : Nat) (A : Option Addr) (n c : Nat) (r : Rd) : Prop :=
  Blk w g t #[.slice A n c, .int .i64 r.at_, .int .i64 r.e] ∧ BV w (fun k => k ≠ g) A n c r.b ∧ r.at_ ≤ n ∧ n ≤ 35184372088832
section
variable {t : TypeId} {w w' : World} {g n c : Nat} {A : Option Addr} {r : Rd}
theorem RD.fr (h : RD t w g A n c r) (e : Ext w w') : RD t w' g A n c r := ⟨h.1.ext e, h.2.1.ext e, h.2.2⟩
theorem fr_cell (w : World) (g i : Nat) (v : Value) : Fr (fun k => k ≠ g) w (w.setCell ⟨g, i, none⟩ v) := (Fr.refl _ _).setCell (.inl (by simp)) v
theorem RD.fail (h : RD t w g A n c r) (k : Int) : RD t (w.setCell ⟨g, 2, none⟩ (.int .i64 k)) g A n c { r with e := k } := by
  refine ⟨?_, h.2.1.fr (fr_cell _ _ _ _), h.2.2⟩
  have := h.1.set_ 2 (.int .i64 k)
  simpa using this
theorem RD.move (h : RD t w g A n c r) {p : Int} {q : Nat} (hp : p = q) (hq : q ≤ n) : RD t (w.setCell ⟨g, 1, none⟩ (.int .i64 p)) g A n c { r with at_ := q } := by
  refine ⟨?_, h.2.1.fr (fr_cell _ _ _ _), hq, h.2.2.2⟩
  have := h.1.set_ 1 (.int .i64 p)
  subst hp
  simpa using this
end

theorem take_yes (w : World) (g : Nat) (A : Option Addr) (n c : Nat) (l : List UInt8) (r : Rd) (hl : r.b = l) (P K : Int) (p k : Nat) (h : RD 113 w g A n c r) (hP : P = p) (hK : K = k) (hk : p + k ≤ n) :
    Calls Tryd.prog 88 #[.pointer (some ⟨g, 0, none⟩), .int .i64 P, .int .i64 K] w fun e w' => ∃ A', e = .returned (.tuple #[.slice A' k (c - p), .int .i64 0]) ∧ BV w (fun k => k ≠ g) A' k (c - p) ((l.drop p).take k) ∧ w = w' := by
  subst hP hK hl
  obtain ⟨hb, hv, hp, hn⟩ := h
  obtain ⟨c0, c1, c2⟩ := hb.c3
  have hle := hv.le
  go_enter Tryd.func88, Tryd.ntmps88
  go_wp2_with ((with_reducible (show wpList _ _ _ (⟨_, Op.slice _ _ _ _ _, _, _, _, _⟩ :: _) _ _)); go_loud (refine wpList_cutB rfl _ _ _ _ rfl _ Tryd.underlying22 infoB rfl hv p (p + k) _ _ rfl rfl (by omega) hk ?_; intro A' hcut))
  go_ret2
  exact ⟨A', rfl, by simpa using hcut, rfl⟩
theorem take_no (w : World) (g : Nat) (A : Option Addr) (n c : Nat) (r : Rd) (p k : Int) (h : RD 113 w g A n c r) (hp0 : 0 ≤ p) (hp1 : p ≤ n) (hk : (n : Int) - p < k) :
    Calls Tryd.prog 88 #[.pointer (some ⟨g, 0, none⟩), .int .i64 p, .int .i64 k] w fun e w' => e = .returned (.tuple #[.slice none 0 0, .int .i64 2]) ∧ w = w' := by
  obtain ⟨hb, hv, hp, hn⟩ := h
  obtain ⟨c0, c1, c2⟩ := hb.c3
  have hle := hv.le
  go_enter Tryd.func88, Tryd.ntmps88
  go_wp2
  go_ret2
  exact ⟨rfl, rfl⟩
theorem fail_calls (w : World) (g : Nat) (A : Option Addr) (n c : Nat) (r : Rd) (k : Int) (h : RD 113 w g A n c r) :
    Calls Tryd.prog 87 #[.pointer (some ⟨g, 0, none⟩), .int .i64 k] w fun e w' => e = .returned (.tuple #[]) ∧ w.setCell ⟨g, 2, none⟩ (.int .i64 k) = w' := by
  obtain ⟨c0, c1, c2⟩ := h.1.c3
  have hf := h.1.free
  go_enter Tryd.func87, Tryd.ntmps87
  go_wp2
  go_end0
  exact ⟨rfl, rfl⟩
/-- What a method of a reader leaves behind. -/
def RdI (t : TypeId) (w : World) (g : Nat) (A : Option Addr) (n c : Nat) (x : Rd × Int) (e : Ending) (w' : World) : Prop := ∃ v r, e = .returned (.int .i64 v) ∧ Hid (v = x.2 ∧ r = x.1) ∧ RD t w' g A n c r ∧ Fr (fun k => k ≠ g) w w'
theorem RdI.mk {t : TypeId} {w w' : World} {g n c : Nat} {A : Option Addr} {x : Rd × Int} {v : Int} {r : Rd} (hx : x = (r, v)) (h : RD t w' g A n c r) (hf : Fr (fun k => k ≠ g) w w') : RdI t w g A n c x (.returned (.int .i64 v)) w' := ⟨v, r, rfl, ⟨by rw [hx], by rw [hx]⟩, h, hf⟩
set_option maxHeartbeats 1000000 in
theorem rUint_calls (w : World) (g : Nat) (A : Option Addr) (n c : Nat) (l : List UInt8) (p : Nat) (er size : Int) (h : RD 113 w g A n c ⟨l, p, er⟩) :
    Calls Tryd.prog 67 #[.pointer (some ⟨g, 0, none⟩), .int .i64 size] w (RdI 113 w g A n c (rdUint ⟨l, p, er⟩ size)) := by
  have h' := Lib.hid h
  obtain ⟨hb, hv, hp, hn⟩ := h
  obtain ⟨c0, c1, c2⟩ := hb.c3
  have hf := hb.free
  have hl := Lib.hid hv.len
  simp only at hp hl
  clear hb
  by_cases he : er = 0
  · subst he
    by_cases h1 : 1 ≤ size ∧ size ≤ 8
    · obtain ⟨h1, h2⟩ := h1
      obtain ⟨s, rfl⟩ := Int.eq_ofNat_of_zero_le (show 0 ≤ size by omega)
      by_cases h3 : p + s ≤ n
      · go_enter Tryd.func67, Tryd.ntmps67
        go_wp2_with (first | (go_at_call 88; go_loud (refine (take_yes w g A n c l _ rfl _ _ p s h'.out rfl rfl h3).mono ?_; rintro e w1 ⟨A', rfl, hcut, rfl⟩)))
        have hbl := Lib.hid hcut.len
        generalize hbs : (l.drop p).take s = bs at *
        have HBS := Lib.hid hbs
        clear hbs
        go_loopw [7, 40] (fun v i wr => ∃ j : Nat, j ≤ s ∧ i = .int .i64 j ∧ v = .int .u64 (beV (bs.take j) : Nat) ∧ w = wr) (fun _ i _ => s - (intOf i).toNat)
        case atStart => exact ⟨0, Nat.zero_le _, rfl, rfl, rfl⟩
        case round =>
          obtain ⟨j, hj, rfl, rfl, rfl⟩ := hrel
          by_cases hlt : j < s
          · obtain ⟨b, off, rfl, hlj, hcj⟩ := hcut.at_ hlt
            go_wp2
            go_round
            case rel => exact ⟨j + 1, by omega, by go_num, by rw [beV_step bs j hlj (by omega)], trivial⟩
            case measure => (simp [intOf]; try omega)
          · obtain rfl : j = s := by omega
            have hfull : bs.take j = bs := List.take_of_length_le (by rw [hbl.out]; exact Nat.le_refl _)
            rw [hfull]
            have HU := Lib.hid hfull
            clear hfull hcut
            go_wp2_with (go_at_call 87; go_loud (refine (fail_calls w g A n c _ _ h'.out).mono ?_; rintro e w9 ⟨rfl, rfl⟩))
            · have hbig : tooBig (beV bs) = true := by unfold tooBig; simp only [decide_eq_true_eq]; omega
              go_ret
              exact RdI.mk (v := 0) (by unfold rdUint; rw [if_neg (by simp), if_neg (by omega), if_neg (by rw [hl.out]; simp only [Int.toNat_natCast]; omega), if_pos (by simp only [Int.toNat_natCast, HBS.out]; exact hbig)]) (h'.out.fail 4) (fr_cell _ _ _ _)
            · have hbig : tooBig (beV bs) = false := by unfold tooBig; simp only [decide_eq_false_iff_not]; omega
              go_ret
              exact RdI.mk (v := (beV bs : Nat)) (by unfold rdUint; rw [if_neg (by simp), if_neg (by omega), if_neg (by rw [hl.out]; simp only [Int.toNat_natCast]; omega), if_neg (by simp only [Int.toNat_natCast, HBS.out, hbig]; simp)]; simp only [Int.toNat_natCast, HBS.out]) (h'.out.move (q := p + j) (by simp) h3) (fr_cell _ _ _ _)
      · have hq : ((n : Int) - p < s) := by omega
        go_enter Tryd.func67, Tryd.ntmps67
        go_wp2_with (first | (go_at_call 88; go_loud (refine (take_no w g A n c _ _ _ h'.out (by omega) (by omega) hq).mono ?_; rintro e w1 ⟨rfl, rfl⟩)) | (go_at_call 87; go_loud (refine (fail_calls w g A n c _ _ h'.out).mono ?_; rintro e w9 ⟨rfl, rfl⟩)))
        go_ret
        exact RdI.mk (by unfold rdUint; rw [if_neg (by simp), if_neg (by omega), if_pos (by rw [hl.out]; simp only [Int.toNat_natCast]; omega)]) (h'.out.fail 2) (fr_cell _ _ _ _)
    · go_enter Tryd.func67, Tryd.ntmps67
      go_wp2_with (go_at_call 87; go_loud (refine (fail_calls w g A n c _ _ h'.out).mono ?_; rintro e w9 ⟨rfl, rfl⟩))
      all_goals
        go_ret
        exact RdI.mk (by unfold rdUint; rw [if_neg (by simp), if_pos (by omega)]) (h'.out.fail 1) (fr_cell _ _ _ _)
  · have he' : (er != 0) = true := by simp [he]
    have HE := Lib.hid he
    clear he
    go_enter Tryd.func67, Tryd.ntmps67
    go_wp2
    go_ret
    exact RdI.mk (by unfold rdUint; rw [if_pos HE.out]) h'.out (Fr.refl _ _)

/-- What a method of a reader leaves behind that hands back bytes. -/
def RdB (t : TypeId) (w : World) (g : Nat) (A : Option Addr) (n c : Nat) (x : Rd × List UInt8) (e : Ending) (w' : World) : Prop :=
  ∃ S m k l r, e = .returned (.slice S m k) ∧ Hid (l = x.2 ∧ r = x.1) ∧ RD t w' g A n c r ∧ OB w' w.heap.size 5 S m k l ∧ Fr (fun k => k ≠ g) w w'
theorem RdB.mk {t : TypeId} {w w' : World} {g n c m k : Nat} {A S : Option Addr} {x : Rd × List UInt8} {l : List UInt8} {r : Rd} (hx : x = (r, l)) (h : RD t w' g A n c r) (ho : OB w' w.heap.size 5 S m k l) (hf : Fr (fun k => k ≠ g) w w') : RdB t w g A n c x (.returned (.slice S m k)) w' :=
  ⟨S, m, k, l, r, rfl, ⟨by rw [hx], by rw [hx]⟩, h, ho, hf⟩
set_option maxHeartbeats 1000000 in
theorem rRaw_calls (w : World) (g : Nat) (A : Option Addr) (n c : Nat) (l : List UInt8) (p : Nat) (er k : Int) (h : RD 113 w g A n c ⟨l, p, er⟩) :
    Calls Tryd.prog 66 #[.pointer (some ⟨g, 0, none⟩), .int .i64 k] w (RdB 113 w g A n c (rdRaw ⟨l, p, er⟩ k)) := by
  have h' := Lib.hid h
  obtain ⟨hb, hv, hp, hn⟩ := h
  obtain ⟨c0, c1, c2⟩ := hb.c3
  have hf := hb.free
  have hl := Lib.hid hv.len
  simp only at hp hl
  clear hb
  by_cases he : er = 0
  · subst he
    by_cases h1 : 0 ≤ k
    · obtain ⟨s, rfl⟩ := Int.eq_ofNat_of_zero_le h1
      by_cases h3 : p + s ≤ n
      · go_enter Tryd.func66, Tryd.ntmps66
        go_wp2_with (first | (go_at_call 88; go_loud (refine (take_yes w g A n c l _ rfl _ _ p s h'.out rfl rfl h3).mono ?_; rintro e w1 ⟨A', rfl, hcut, rfl⟩)) | (at_builtin; go_loud (refine wpList_appB (w0 := w.setCell ⟨g, 1, none⟩ (.int .i64 ((p : Int) + s))) rfl _ _ _ rfl _ infoB Tryd.underlying22 _ _ _ [] rfl (OB.nil_ _ _ _) A' s (c - p) ((l.drop p).take s) rfl (hcut.fr (fr_cell _ _ _ _)) (by omega) (Ext.refl _) ?_; intro S1 k1 w1 hO1 hE1; simp only [Nat.zero_add, List.nil_append] at hO1)))
        go_ret
        exact RdB.mk (S := S1) (m := s) (k := k1) (l := (l.drop p).take s) (r := ⟨l, p + s, 0⟩) (by unfold rdRaw; rw [if_neg (by simp), if_neg (by omega), if_neg (by simp only [hl.out]; omega)]; simp only [Int.toNat_natCast]) ((h'.out.move (q := p + s) (by simp) h3).fr hE1) (by simpa using hO1) ((fr_cell _ _ _ _).ext hE1)
      · have hq : ((n : Int) - p < s) := by omega
        go_enter Tryd.func66, Tryd.ntmps66
        go_wp2_with (first | (go_at_call 88; go_loud (refine (take_no w g A n c _ _ _ h'.out (by omega) (by omega) hq).mono ?_; rintro e w1 ⟨rfl, rfl⟩)) | (go_at_call 87; go_loud (refine (fail_calls w g A n c _ _ h'.out).mono ?_; rintro e w9 ⟨rfl, rfl⟩)))
        go_ret
        exact RdB.mk (S := none) (m := 0) (k := 0) (by unfold rdRaw; rw [if_neg (by simp), if_neg (by omega), if_pos (by simp only [hl.out]; omega)]) (h'.out.fail 2) (OB.nil_ _ _ _) (fr_cell _ _ _ _)
    · go_enter Tryd.func66, Tryd.ntmps66
      go_wp2_with (go_at_call 87; go_loud (refine (fail_calls w g A n c _ _ h'.out).mono ?_; rintro e w9 ⟨rfl, rfl⟩))
      go_ret
      exact RdB.mk (S := none) (m := 0) (k := 0) (by unfold rdRaw; rw [if_neg (by simp), if_pos (by omega)]) (h'.out.fail 1) (OB.nil_ _ _ _) (fr_cell _ _ _ _)
  · have he' : (er != 0) = true := by simp [he]
    have HE := Lib.hid he
    clear he
    go_enter Tryd.func66, Tryd.ntmps66
    go_wp2
    go_ret
    exact RdB.mk (S := none) (m := 0) (k := 0) (by unfold rdRaw; rw [if_pos HE.out]) h'.out (OB.nil_ _ _ _) (Fr.refl _ _)
end Go.Proofs.YtnbgieccindpnaaDoor
