/- The reference's helpers on byte strings: Copy, Same, Lists. -/
import Derived.Test.YtnbgieccindpnaaDoorProg
import Derived.Test.YtnbgieccindpnaaDoorLib
namespace Go.Proofs.YtnbgieccindpnaaDoor
set_option linter.all false
set_option maxRecDepth 20000
open Go.RowKit
set_option linter.unusedVariables false
set_option linter.unusedSimpArgs false
theorem infoB : (Tryd.prog.info? 5).map (fun i => (i.zero, i.size, i.bytes)) = some (some (.int .u8 0), 1, 1) := by kernel_rfl


set_option maxHeartbeats 400000 in
theorem same_calls {P P' : Nat → Prop} (w : World) (A B : Option Addr) (n c m d : Nat) (l r : List UInt8) (ha : BV w P A n c l) (hb : BV w P' B m d r) :
    Calls Tryd.prog 18 #[.slice A n c, .slice B m d] w fun e w' => e = .returned (.bool (decide (l = r))) ∧ Quiet w w' := by
  have hle := ha.le
  have HL := Lib.hid ha.len
  have HR := Lib.hid hb.len
  by_cases hnm : n = m
  · subst hnm
    have hq : (!((n : Int) == (n : Int))) = false := by simp
    go_enter Tryd.func18, Tryd.ntmps18
    go_wp2
    go_loopw [5] (fun i wr => ∃ k : Nat, k ≤ n ∧ i = .int .i64 k ∧ l.take k = r.take k ∧ Quiet w wr) (fun i _ => n - (intOf i).toNat)
    case atStart => exact ⟨0, Nat.zero_le _, rfl, by simp, Quiet.refl _⟩
    case round =>
      obtain ⟨k, hk, rfl, hlr, hE⟩ := hrel
      have HLR := Lib.hid hlr
      clear hlr
      by_cases hlt : k < n
      · obtain ⟨b, off, rfl, hl, hcl⟩ := (ha.ext hE.ext).at_ hlt
        obtain ⟨b', off', rfl, hr, hcr⟩ := (hb.ext hE.ext).at_ hlt
        clear ha hb
        by_cases hx : l[k] = r[k]
        · have hx' : (((l[k].toNat : Int)) != ((r[k].toNat : Int))) = false := by rw [hx]; simp
          have HX := Lib.hid hx
          clear hx
          go_wp2_with fail
          go_quiet (fail)
          go_wp2
          go_roundw
          case rel =>
            refine ⟨k + 1, by omega, by go_num, ?_, hE.drewN nq⟩
            rw [List.take_succ_eq_append_getElem hl, List.take_succ_eq_append_getElem hr, HLR.out, HX.out]
          case measure => simp [intOf]; omega
        · have hx' : (((l[k].toNat : Int)) != ((r[k].toNat : Int))) = true := by
            rw [bne_iff_ne]; intro h; exact hx (UInt8.toNat_inj.1 (by omega))
          have HX := Lib.hid hx
          clear hx
          go_wp2_with fail
          go_quiet (fail)
          go_wp2
          go_ret
          refine ⟨?_, hE.drewN nq⟩
          have hne : l ≠ r := by
            rintro rfl
            exact HX.out rfl
          simp [hne]
      · go_wp2
        go_ret
        refine ⟨?_, hE⟩
        have heq : l = r := by
          have h := HLR.out
          have h1 := HL.out
          have h2 := HR.out
          rwa [List.take_of_length_le (by omega), List.take_of_length_le (by omega)] at h
        simp [heq]
  · have hq : (((n : Int)) != ((m : Int))) = true := by rw [bne_iff_ne]; omega
    go_enter Tryd.func18, Tryd.ntmps18
    go_wp2
    go_ret
    refine ⟨?_, Quiet.refl _⟩
    have hne : l ≠ r := by
      rintro rfl
      have h1 := HL.out
      have h2 := HR.out
      omega
    simp [hne]

set_option maxHeartbeats 800000 in
theorem lists_calls {P P' : Nat → Prop} (w : World) (A B : Option Addr) (n c m d : Nat) (l r : List (List UInt8)) (ha : BL w P A n c l) (hb : BL w P' B m d r) :
    Calls Tryd.prog 72 #[.slice A n c, .slice B m d] w fun e w' => e = .returned (.bool (decide (l = r))) ∧ Quiet w w' := by
  have hle := ha.le
  have HL := Lib.hid ha.len
  have HR := Lib.hid hb.len
  by_cases hnm : n = m
  · subst hnm
    have hq : (!((n : Int) == (n : Int))) = false := by simp
    go_enter Tryd.func72, Tryd.ntmps72
    go_wp2
    go_loopw [5] (fun i wr => ∃ k : Nat, k ≤ n ∧ i = .int .i64 k ∧ l.take k = r.take k ∧ Quiet w wr) (fun i _ => n - (intOf i).toNat)
    case atStart => exact ⟨0, Nat.zero_le _, rfl, by simp, Quiet.refl _⟩
    case round =>
      obtain ⟨k, hk, rfl, hlr, hE⟩ := hrel
      have HLR := Lib.hid hlr
      clear hlr
      by_cases hlt : k < n
      · obtain ⟨b, off, rfl, hl, A1, n1, c1, hcl, hbl⟩ := (ha.ext hE.ext).at_ hlt
        obtain ⟨b', off', rfl, hr, A2, n2, c2, hcr, hbr⟩ := (hb.ext hE.ext).at_ hlt
        clear ha hb
        have hcall := fun a => quiet_call (a := a) (same_calls (wr.drewN a) A1 A2 n1 c1 n2 c2 l[k] r[k] (hbl.ext ((Ext.refl wr).drewN a)) (hbr.ext ((Ext.refl wr).drewN a)))
        have HC := Lib.hid hcall
        clear hcall
        by_cases hx : l[k] = r[k]
        · have hx' : decide (l[k] = r[k]) = true := by simp [hx]
          have HX := Lib.hid hx
          clear hx
          go_wp2_with fail
          go_quiet ((go_at_call 18; exact HC.out _))
          go_wp2
          go_roundw
          case rel =>
            refine ⟨k + 1, by omega, by go_num, ?_, hE.drewN nq⟩
            rw [List.take_succ_eq_append_getElem hl, List.take_succ_eq_append_getElem hr, HLR.out, HX.out]
          case measure => simp [intOf]; omega
        · have hx' : decide (l[k] = r[k]) = false := by simp [hx]
          have HX := Lib.hid hx
          clear hx
          go_wp2_with fail
          go_quiet ((go_at_call 18; exact HC.out _))
          go_wp2
          go_ret
          refine ⟨?_, hE.drewN nq⟩
          have hne : l ≠ r := by
            rintro rfl
            exact HX.out rfl
          simp [hne]
      · go_wp2
        go_ret
        refine ⟨?_, hE⟩
        have heq : l = r := by
          have h := HLR.out
          have h1 := HL.out
          have h2 := HR.out
          rwa [List.take_of_length_le (by omega), List.take_of_length_le (by omega)] at h
        simp [heq]
  · have hq : (((n : Int)) != ((m : Int))) = true := by rw [bne_iff_ne]; omega
    go_enter Tryd.func72, Tryd.ntmps72
    go_wp2
    go_ret
    refine ⟨?_, Quiet.refl _⟩
    have hne : l ≠ r := by
      rintro rfl
      have h1 := HL.out
      have h2 := HR.out
      omega
    simp [hne]
end Go.Proofs.YtnbgieccindpnaaDoor
