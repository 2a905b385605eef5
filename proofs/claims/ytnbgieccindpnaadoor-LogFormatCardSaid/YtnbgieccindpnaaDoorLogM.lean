/- LogM: merged. -/
import Derived.Test.YtnbgieccindpnaaDoorEvM
import Derived.Scope
/- LogM: merged. -/
/- Logs: heads. -/
namespace Go.Proofs.YtnbgieccindpnaaDoor
set_option linter.all false
set_option maxRecDepth 20000
open Go.RowKit
section
variable {P : Program} {n : Nat} {Q : Exit → Act → World → Prop} {e : Env} {w : World}
theorem Wc.scope {c : Code} (h : Wc P n c (Exit.noGoto Q) e w) : Wc P n (.scope c) Q e w := fun a ha => wp_scope_straight (h a ha)
theorem Wx.scR (h : Wx n Q .ret e w) : Wx n (Exit.noGoto Q) .ret e w := h
end
def magicS : List UInt8 := [83, 87, 76, 49]
def rngH (a n : Int) : Prop := 1 ≤ a ∧ a ≤ 3 ∧ 0 ≤ n ∧ n ≤ 1099511627776
instance (a n : Int) : Decidable (rngH a n) := inferInstanceAs (Decidable (_ ∧ _))
def hdS (a n : Int) : List UInt8 := if rngH a n then magicS ++ (beS a 1 ++ beS n 6) else []
theorem hdS_y {a n : Int} (h : rngH a n) : hdS a n = magicS ++ (beS a 1 ++ beS n 6) := by unfold hdS; rw [if_pos h]
theorem hdS_n {a n : Int} (h : ¬ rngH a n) : hdS a n = [] := by unfold hdS; rw [if_neg h]
theorem hdS_len {a n : Int} (h : rngH a n) : (hdS a n).length = 11 := by rw [hdS_y h, List.length_append, List.length_append, beS_len, beS_len]; rfl
theorem hdS_le (a n : Int) : (hdS a n).length ≤ 11 := by
  by_cases h : rngH a n
  · rw [hdS_len h]; exact Nat.le_refl _
  · rw [hdS_n h]; exact Nat.zero_le _
def HdR (w : World) (a n : Int) (e : Ending) (w' : World) : Prop := ∃ S m k, e = .returned (.slice S m k) ∧ OB w' w.heap.size 5 S m k (hdS a n) ∧ Ext w w'
theorem HdR.no {w w' : World} {a n : Int} (h : ¬ rngH a n) (hE : Ext w w') : HdR w a n (.returned (resV [.slice none 0 0])) w' := ⟨none, 0, 0, rfl, by rw [hdS_n h]; exact OB.nil_ _ _ _, hE⟩
set_option maxRecDepth 20000 in
set_option maxHeartbeats 1000000 in
theorem headP (w : World) (a n : Int) : Calls Tryd.prog 14 #[.int .i64 a, .int .i64 n] w (HdR w a n) := by
  refine calls_enter Tryd.func14 rfl Tryd.ntmps14 rfl ?_
  have hE : Ext w w := Ext.refl w
  refine vs fun K1 hK1 => vR [(0, _), (1, _)] ?_
  refine vA ?_
  refine vn (hK1 _ _ ?_)
  refine Wc.seq (fun K2 hK2 => ?_)
  refine vs fun K3 hK3 => vR [(0, _), (1, _)] ?_
  refine vM ?_
  refine vl (Gives.lss rfl rfl rfl) ?_
  refine vM ?_
  refine Wl.guard rfl rfl rfl (fun h7 => ?_) (fun h7 => ?_)
  · first | replace h7 := dF h7 | replace h7 := nF h7 | skip
    refine vM ?_
    refine vl (Gives.gtr rfl rfl rfl) ?_
    refine vU ?_
    refine vM ?_
    refine Wl.guard rfl rfl rfl (fun h11 => ?_) (fun h11 => ?_)
    · first | replace h11 := dF h11 | replace h11 := nF h11 | skip
      refine vM ?_
      refine vl (Gives.lss rfl rfl rfl) ?_
      refine vU ?_
      refine vM ?_
      refine Wl.guard rfl rfl rfl (fun h15 => ?_) (fun h15 => ?_)
      · first | replace h15 := dF h15 | replace h15 := nF h15 | skip
        refine vM ?_
        refine vl (Gives.gtr rfl rfl rfl) ?_
        refine vU ?_
        refine vn (hK3 _ _ ?_)
        refine Wc.cond _ rfl (fun h18 => ?_) (fun h18 => ?_)
        · first | replace h18 := dT h18 | replace h18 := nT h18 | skip
          refine vs fun K4 hK4 => vR [] ?_
          refine vA ?_
          refine vn (hK4 _ _ ?_)
          refine Wc.ret ?_
          refine Wx.thenR ?_
          refine Wx.ret [_] ⟨rfl, trivial⟩ ?_
          first | exact HdR.no (fun h => by unfold rngH at h; omega) hE | exact ⟨S2, m2, k2, rfl, by rw [hdS_y (by unfold rngH; omega)]; rw [uintS_ok _ _ 6 (by omega) (by omega), uintS_ok _ _ 1 (by omega) (by omega), List.append_assoc] at hO2; exact hO2.mono hzE, hE⟩
        first | replace h18 := dF h18 | replace h18 := nF h18 | skip
        refine Wc.skip ?_
        refine Wx.thenN (hK2 _ _ ?_)
        refine vs fun K5 hK5 => vR [(0, _), (1, _)] ?_
        refine Wl.does rfl rfl rfl (Does.lit rfl Tryd.underlying22 infoB2 rfl rfl rfl rfl rfl) ?_
        rintro _ w30 ⟨g30, rfl, hs30, hk30, hx30⟩
        have hgw : w.heap.size ≤ g30 := Nat.le_trans hE.size hs30
        replace hE := hE.trans hx30
        refine Wl.does rfl rfl rfl (Does.convB (l := magicS) rfl Tryd.underlying22 Tryd.underlying5 rfl hk30 rfl rfl rfl (by omega)) ?_
        rintro _ w31 ⟨rfl, hB0, hF31⟩
        replace hE := Ext.over hE hF31 hgw
        refine vM ?_
        refine Wl.call rfl rfl rfl rfl Tryd.func34 rfl (by kernel_rfl) rfl (uint_calls _ (some ⟨g30, 0, none⟩) 4 4 magicS hB0 (by omega) 1 a) ?_
        rintro x1 w33 ⟨S1, m1, k1, rfl, hO1, hx33⟩
        refine ⟨_, rfl, ?_⟩
        have hm1 := hO1.len
        have hm1' := uintS_len magicS 1 a
        have hm4 : magicS.length = 4 := rfl
        replace hE := hE.trans hx33
        refine vM ?_
        refine Wl.call rfl rfl rfl rfl Tryd.func34 rfl (by kernel_rfl) rfl (uint_calls _ S1 m1 k1 _ (hO1.bv (P := fun _ => True) fun _ _ => trivial) (by omega) 6 n) ?_
        rintro x2 w35 ⟨S2, m2, k2, rfl, hO2, hx35⟩
        refine ⟨_, rfl, ?_⟩
        have hzE := hE.size
        replace hE := hE.trans hx35
        refine vA ?_
        refine vn (hK5 _ _ ?_)
        refine Wc.ret ?_
        refine Wx.ret [_] ⟨rfl, trivial⟩ ?_
        first | exact HdR.no (fun h => by unfold rngH at h; omega) hE | exact ⟨S2, m2, k2, rfl, by rw [hdS_y (by unfold rngH; omega)]; rw [uintS_ok _ _ 6 (by omega) (by omega), uintS_ok _ _ 1 (by omega) (by omega), List.append_assoc] at hO2; exact hO2.mono hzE, hE⟩
      first | replace h15 := dT h15 | replace h15 := nT h15 | skip
      refine vP ?_
      refine vP ?_
      refine vT ?_
      refine vn (hK3 _ _ ?_)
      refine Wc.condT rfl rfl ?_
      refine vs fun K6 hK6 => vR [] ?_
      refine vA ?_
      refine vn (hK6 _ _ ?_)
      refine Wc.ret ?_
      refine Wx.thenR ?_
      refine Wx.ret [_] ⟨rfl, trivial⟩ ?_
      first | exact HdR.no (fun h => by unfold rngH at h; omega) hE | exact ⟨S2, m2, k2, rfl, by rw [hdS_y (by unfold rngH; omega)]; rw [uintS_ok _ _ 6 (by omega) (by omega), uintS_ok _ _ 1 (by omega) (by omega), List.append_assoc] at hO2; exact hO2.mono hzE, hE⟩
    first | replace h11 := dT h11 | replace h11 := nT h11 | skip
    refine vP ?_
    refine vP ?_
    refine vT ?_
    refine vM ?_
    refine Wl.guardF rfl rfl rfl rfl ?_
    refine vP ?_
    refine vP ?_
    refine vT ?_
    refine vn (hK3 _ _ ?_)
    refine Wc.condT rfl rfl ?_
    refine vs fun K7 hK7 => vR [] ?_
    refine vA ?_
    refine vn (hK7 _ _ ?_)
    refine Wc.ret ?_
    refine Wx.thenR ?_
    refine Wx.ret [_] ⟨rfl, trivial⟩ ?_
    first | exact HdR.no (fun h => by unfold rngH at h; omega) hE | exact ⟨S2, m2, k2, rfl, by rw [hdS_y (by unfold rngH; omega)]; rw [uintS_ok _ _ 6 (by omega) (by omega), uintS_ok _ _ 1 (by omega) (by omega), List.append_assoc] at hO2; exact hO2.mono hzE, hE⟩
  first | replace h7 := dT h7 | replace h7 := nT h7 | skip
  refine vP ?_
  refine vP ?_
  refine vT ?_
  refine vM ?_
  refine Wl.guardF rfl rfl rfl rfl ?_
  refine vP ?_
  refine vP ?_
  refine vT ?_
  refine vM ?_
  refine Wl.guardF rfl rfl rfl rfl ?_
  refine vP ?_
  refine vP ?_
  refine vT ?_
  refine vn (hK3 _ _ ?_)
  refine Wc.condT rfl rfl ?_
  refine vs fun K8 hK8 => vR [] ?_
  refine vA ?_
  refine vn (hK8 _ _ ?_)
  refine Wc.ret ?_
  refine Wx.thenR ?_
  refine Wx.ret [_] ⟨rfl, trivial⟩ ?_
  first | exact HdR.no (fun h => by unfold rngH at h; omega) hE | exact ⟨S2, m2, k2, rfl, by rw [hdS_y (by unfold rngH; omega)]; rw [uintS_ok _ _ 6 (by omega) (by omega), uintS_ok _ _ 1 (by omega) (by omega), List.append_assoc] at hO2; exact hO2.mono hzE, hE⟩
set_option maxRecDepth 20000 in
set_option maxHeartbeats 1000000 in
theorem headR (w : World) (a n : Int) : Calls Tryd.prog 24 #[.int .i64 a, .int .i64 n] w (HdR w a n) := by
  refine calls_enter Tryd.func24 rfl Tryd.ntmps24 rfl ?_
  have hE : Ext w w := Ext.refl w
  refine vs fun K1 hK1 => vR [(0, _), (1, _)] ?_
  refine vA ?_
  refine vn (hK1 _ _ ?_)
  refine Wc.seq (fun K2 hK2 => ?_)
  refine vs fun K3 hK3 => vR [(0, _), (1, _)] ?_
  refine vM ?_
  refine vl (Gives.lss rfl rfl rfl) ?_
  refine vM ?_
  refine Wl.guard rfl rfl rfl (fun h7 => ?_) (fun h7 => ?_)
  · first | replace h7 := dF h7 | replace h7 := nF h7 | skip
    refine vM ?_
    refine vl (Gives.gtr rfl rfl rfl) ?_
    refine vU ?_
    refine vM ?_
    refine Wl.guard rfl rfl rfl (fun h11 => ?_) (fun h11 => ?_)
    · first | replace h11 := dF h11 | replace h11 := nF h11 | skip
      refine vM ?_
      refine vl (Gives.lss rfl rfl rfl) ?_
      refine vU ?_
      refine vM ?_
      refine Wl.guard rfl rfl rfl (fun h15 => ?_) (fun h15 => ?_)
      · first | replace h15 := dF h15 | replace h15 := nF h15 | skip
        refine vM ?_
        refine vl (Gives.gtr rfl rfl rfl) ?_
        refine vU ?_
        refine vn (hK3 _ _ ?_)
        refine Wc.cond _ rfl (fun h18 => ?_) (fun h18 => ?_)
        · first | replace h18 := dT h18 | replace h18 := nT h18 | skip
          refine vs fun K4 hK4 => vR [] ?_
          refine vA ?_
          refine vn (hK4 _ _ ?_)
          refine Wc.ret ?_
          refine Wx.thenR ?_
          refine Wx.ret [_] ⟨rfl, trivial⟩ ?_
          first | exact HdR.no (fun h => by unfold rngH at h; omega) hE | exact ⟨S2, m2, k2, rfl, by rw [hdS_y (by unfold rngH; omega)]; rw [uintS_ok _ _ 6 (by omega) (by omega), List.append_assoc] at hO2; exact hO2.mono hzE, hE⟩
        first | replace h18 := dF h18 | replace h18 := nF h18 | skip
        refine Wc.skip ?_
        refine Wx.thenN (hK2 _ _ ?_)
        refine vs fun K5 hK5 => vR [(0, _), (1, _)] ?_
        refine Wl.does rfl rfl rfl (Does.lit rfl Tryd.underlying22 infoB2 rfl rfl rfl rfl rfl) ?_
        rintro _ w30 ⟨g30, rfl, hs30, hk30, hx30⟩
        have hgw : w.heap.size ≤ g30 := Nat.le_trans hE.size hs30
        replace hE := hE.trans hx30
        refine Wl.does rfl rfl rfl (Does.convB (l := magicS) rfl Tryd.underlying22 Tryd.underlying5 rfl hk30 rfl rfl rfl (by omega)) ?_
        rintro _ w31 ⟨rfl, hB0, hF31⟩
        replace hE := Ext.over hE hF31 hgw
        refine vM ?_
        refine vl (Gives.conv rfl Tryd.underlying3 Tryd.underlying5 rfl (by first | exact IntWalk.i64_in _ (by omega) | exact u64_in _ (by omega) | exact u32_in _ (by omega) | exact u8_in _ (by omega) | exact rfl)) ?_
        refine Wl.does rfl rfl rfl (Does.lit rfl Tryd.underlying22 infoB2 rfl rfl rfl rfl rfl) ?_
        rintro _ w34 ⟨g34, rfl, hs34, hk34, hx34⟩
        have hM := (mb1 (byteAt a 0) hk34 (byte_small ⟨by omega, by omega⟩).symm).bv (P := fun _ => True) trivial (n := 1) (c := 1) rfl (Nat.le_refl _) (by omega)
        replace hB0 := hB0.ext hx34
        replace hE := hE.trans hx34
        refine Wl.does rfl rfl rfl (Does.appN (p := 4) (m := 1) rfl Tryd.underlying22 infoB rfl rfl rfl hB0 (fun h => by cases h) hM (by omega) (by omega) (by decide) (by decide)) ?_
        rintro _ w35 ⟨g35, c35, rfl, hs35, hO35, hx35⟩
        have hO1 : OB w35 w34.heap.size 5 (some ⟨g35, 0, none⟩) 5 c35 (magicS ++ [byteAt a 0]) := hO35
        replace hE := hE.trans hx35
        refine vM ?_
        refine Wl.call rfl rfl rfl rfl Tryd.func49 rfl (by kernel_rfl) rfl (uintR_calls _ (some ⟨g35, 0, none⟩) 5 c35 _ (hO1.bv (P := fun _ => True) fun _ _ => trivial) (by omega) 6 n) ?_
        rintro x2 w37 ⟨S2, m2, k2, rfl, hO2, hx37⟩
        refine ⟨_, rfl, ?_⟩
        have hzE := hE.size
        replace hE := hE.trans hx37
        refine vA ?_
        refine vn (hK5 _ _ ?_)
        refine Wc.ret ?_
        refine Wx.ret [_] ⟨rfl, trivial⟩ ?_
        first | exact HdR.no (fun h => by unfold rngH at h; omega) hE | exact ⟨S2, m2, k2, rfl, by rw [hdS_y (by unfold rngH; omega)]; rw [uintS_ok _ _ 6 (by omega) (by omega), List.append_assoc] at hO2; exact hO2.mono hzE, hE⟩
      first | replace h15 := dT h15 | replace h15 := nT h15 | skip
      refine vP ?_
      refine vP ?_
      refine vT ?_
      refine vn (hK3 _ _ ?_)
      refine Wc.condT rfl rfl ?_
      refine vs fun K6 hK6 => vR [] ?_
      refine vA ?_
      refine vn (hK6 _ _ ?_)
      refine Wc.ret ?_
      refine Wx.thenR ?_
      refine Wx.ret [_] ⟨rfl, trivial⟩ ?_
      first | exact HdR.no (fun h => by unfold rngH at h; omega) hE | exact ⟨S2, m2, k2, rfl, by rw [hdS_y (by unfold rngH; omega)]; rw [uintS_ok _ _ 6 (by omega) (by omega), List.append_assoc] at hO2; exact hO2.mono hzE, hE⟩
    first | replace h11 := dT h11 | replace h11 := nT h11 | skip
    refine vP ?_
    refine vP ?_
    refine vT ?_
    refine vM ?_
    refine Wl.guardF rfl rfl rfl rfl ?_
    refine vP ?_
    refine vP ?_
    refine vT ?_
    refine vn (hK3 _ _ ?_)
    refine Wc.condT rfl rfl ?_
    refine vs fun K7 hK7 => vR [] ?_
    refine vA ?_
    refine vn (hK7 _ _ ?_)
    refine Wc.ret ?_
    refine Wx.thenR ?_
    refine Wx.ret [_] ⟨rfl, trivial⟩ ?_
    first | exact HdR.no (fun h => by unfold rngH at h; omega) hE | exact ⟨S2, m2, k2, rfl, by rw [hdS_y (by unfold rngH; omega)]; rw [uintS_ok _ _ 6 (by omega) (by omega), List.append_assoc] at hO2; exact hO2.mono hzE, hE⟩
  first | replace h7 := dT h7 | replace h7 := nT h7 | skip
  refine vP ?_
  refine vP ?_
  refine vT ?_
  refine vM ?_
  refine Wl.guardF rfl rfl rfl rfl ?_
  refine vP ?_
  refine vP ?_
  refine vT ?_
  refine vM ?_
  refine Wl.guardF rfl rfl rfl rfl ?_
  refine vP ?_
  refine vP ?_
  refine vT ?_
  refine vn (hK3 _ _ ?_)
  refine Wc.condT rfl rfl ?_
  refine vs fun K8 hK8 => vR [] ?_
  refine vA ?_
  refine vn (hK8 _ _ ?_)
  refine Wc.ret ?_
  refine Wx.thenR ?_
  refine Wx.ret [_] ⟨rfl, trivial⟩ ?_
  first | exact HdR.no (fun h => by unfold rngH at h; omega) hE | exact ⟨S2, m2, k2, rfl, by rw [hdS_y (by unfold rngH; omega)]; rw [uintS_ok _ _ 6 (by omega) (by omega), List.append_assoc] at hO2; exact hO2.mono hzE, hE⟩
end Go.Proofs.YtnbgieccindpnaaDoor
/- Logs: what a text of bytes says; rows of events of the call's own. -/
namespace Go.Proofs.YtnbgieccindpnaaDoor
set_option linter.all false
set_option maxRecDepth 20000
open Go.RowKit
/-! blobs at the head of a text -/
def blobOf (rs : List UInt8) : Option (List UInt8 × List UInt8) := if rs.length < 2 then none else if rs.length < 2 + beV (rs.take 2) then none else some ((rs.drop 2).take (beV (rs.take 2)), rs.drop (2 + beV (rs.take 2)))
theorem rdBlob_none {r : Rd} (he : r.e = 0) (h : blobOf (rest r) = none) : (rdBlob r 65535).1.e = 2 := by
  have hl := rest_len r
  unfold blobOf at h
  unfold rdBlob
  rw [if_neg (by simp [he])]
  by_cases h2 : r.b.length - r.at_ < 2
  · rw [if_pos h2]
  · rw [if_neg h2]
    rw [if_neg (by omega)] at h
    have hv := beV_lt ((r.b.drop r.at_).take 2)
    have hln : ((r.b.drop r.at_).take 2).length = 2 := by rw [List.length_take, List.length_drop]; omega
    rw [hln] at hv
    rw [if_neg (by omega)]
    split at h
    · rename_i h3
      rw [if_pos (by rw [hl] at h3; exact h3)]
    · cases h
theorem rdBlob_some {r : Rd} (he : r.e = 0) {x rs : List UInt8} (h : blobOf (rest r) = some (x, rs)) : (rdBlob r 65535).1.e = 0 ∧ (rdBlob r 65535).2 = x ∧ rest (rdBlob r 65535).1 = rs := by
  have hl := rest_len r
  unfold blobOf at h
  by_cases h2 : (rest r).length < 2
  · rw [if_pos h2] at h; cases h
  · rw [if_neg h2] at h
    split at h
    · cases h
    · rename_i h3
      simp only [Option.some.injEq, Prod.mk.injEq] at h
      obtain ⟨rfl, rfl⟩ := h
      have hv := beV_lt ((r.b.drop r.at_).take 2)
      have hln : ((r.b.drop r.at_).take 2).length = 2 := by rw [List.length_take, List.length_drop]; omega
      rw [hln] at hv
      unfold rdBlob
      rw [if_neg (by simp [he]), if_neg (by omega), if_neg (by omega), if_neg (by rw [hl] at h3; exact h3)]
      refine ⟨he, ?_, ?_⟩
      · unfold rest; rw [List.drop_drop]
      · show r.b.drop (r.at_ + (2 + beV ((r.b.drop r.at_).take 2))) = (r.b.drop r.at_).drop (2 + beV ((r.b.drop r.at_).take 2))
        rw [List.drop_drop]
theorem blobOf_len {rs x rs' : List UInt8} (h : blobOf rs = some (x, rs')) : rs.length = 2 + x.length + rs'.length ∧ x.length ≤ 65535 := by
  unfold blobOf at h
  split at h
  · cases h
  · rename_i h1
    split at h
    · cases h
    · rename_i h2
      have hv := beV_lt (rs.take 2)
      have hln : (rs.take 2).length = 2 := by rw [List.length_take]; omega
      rw [hln] at hv
      simp only [Option.some.injEq, Prod.mk.injEq] at h
      obtain ⟨rfl, rfl⟩ := h
      rw [List.length_take, List.length_drop, List.length_drop]
      omega
/-! the events behind the head -/
def bodyS (act : Int) : Nat → List Ev → List UInt8 → List Ev × List UInt8 × Int
  | 0, acc, rs => (acc, rs, 0)
  | f + 1, acc, rs => if rs = [] then (acc, rs, 0) else if acc.length = 40 then (acc, rs, 25) else match blobOf rs with
    | none => (acc, rs, 2)
    | some (x, rs') => if decEvE x = 0 ∧ evE (decEvI x) act = 0 then bodyS act f (acc ++ [decEvI x]) rs' else (acc, rs, 30)
theorem body_end (act : Int) (f : Nat) (acc : List Ev) : bodyS act f acc [] = (acc, [], 0) := by
  cases f with
  | zero => rfl
  | succ f => unfold bodyS; rw [if_pos rfl]
section
variable {act : Int} {acc : List Ev} {rs x rs' : List UInt8}
theorem body_25 (h : rs ≠ []) (h4 : acc.length = 40) : bodyS act (41 - acc.length) acc rs = (acc, rs, 25) := by
  rw [show 41 - acc.length = 0 + 1 by omega]; unfold bodyS; rw [if_neg h, if_pos h4]
theorem body_2 (h : rs ≠ []) (h4 : acc.length < 40) (hb : blobOf rs = none) : bodyS act (41 - acc.length) acc rs = (acc, rs, 2) := by
  rw [show 41 - acc.length = (40 - acc.length) + 1 by omega]; unfold bodyS; rw [if_neg h, if_neg (by omega), hb]
theorem body_30 (h : rs ≠ []) (h4 : acc.length < 40) (hb : blobOf rs = some (x, rs')) (hx : ¬ (decEvE x = 0 ∧ evE (decEvI x) act = 0)) : bodyS act (41 - acc.length) acc rs = (acc, rs, 30) := by
  rw [show 41 - acc.length = (40 - acc.length) + 1 by omega]; unfold bodyS; rw [if_neg h, if_neg (by omega), hb]; simp only []; rw [if_neg hx]
theorem body_go (h : rs ≠ []) (h4 : acc.length < 40) (hb : blobOf rs = some (x, rs')) (hx : decEvE x = 0 ∧ evE (decEvI x) act = 0) : bodyS act (41 - acc.length) acc rs = bodyS act (41 - (acc ++ [decEvI x]).length) (acc ++ [decEvI x]) rs' := by
  rw [List.length_append, List.length_singleton, show 41 - (acc.length + 1) = 40 - acc.length by omega, show 41 - acc.length = (40 - acc.length) + 1 by omega]; conv => lhs; unfold bodyS
  rw [if_neg h, if_neg (by omega), hb]; simp only []; rw [if_pos hx]
end
/-! the head -/
def lh0 (b : List UInt8) : Rd × List UInt8 := rdRaw ⟨b, 0, 0⟩ 4
def lh1 (b : List UInt8) : Rd × Int := rdUint (lh0 b).1 1
def lh2 (b : List UInt8) : Rd × Int := rdUint (lh1 b).1 6
def hOk (b : List UInt8) : Prop := (lh0 b).2 = magicS ∧ (lh2 b).1.e = 0 ∧ rngH (lh1 b).2 (lh2 b).2
instance (b : List UInt8) : Decidable (hOk b) := inferInstanceAs (Decidable (_ ∧ _ ∧ _))
theorem lh_b (b : List UInt8) : (lh0 b).1.b = b ∧ (lh1 b).1.b = b ∧ (lh2 b).1.b = b := by
  have h0 : (lh0 b).1.b = b := rdRaw_b _ _
  have h1 : (lh1 b).1.b = b := (rdUint_b _ _).trans h0
  exact ⟨h0, h1, (rdUint_b _ _).trans h1⟩
theorem head_fwd {b post : List UInt8} {a n : Int} (h : rngH a n) (hb : b = hdS a n ++ post) : hOk b ∧ (lh1 b).2 = a ∧ (lh2 b).2 = n ∧ rest (lh2 b).1 = post := by
  obtain ⟨a1, a3, n0, n1⟩ := id h
  obtain ⟨aa, haa⟩ := Int.eq_ofNat_of_zero_le (show 0 ≤ a by omega)
  obtain ⟨nn, hnn⟩ := Int.eq_ofNat_of_zero_le n0
  have hA : At ⟨b, 0, 0⟩ (magicS ++ (beS ((aa : Nat) : Int) 1 ++ (beS ((nn : Nat) : Int) 6 ++ post))) := ⟨rfl, by show b.drop 0 = _; rw [List.drop_zero, hb, hdS_y h, haa, hnn]; simp only [List.append_assoc]⟩
  obtain ⟨q0, e0, p0⟩ := rdRaw_at (n := 4) magicS rfl hA
  have f0 : lh0 b = (q0, magicS) := e0
  obtain ⟨q1, e1, p1⟩ := rdUint_at aa 1 (by decide) (by decide) (by omega) (by omega) p0
  have f1 : lh1 b = (q1, (aa : Int)) := by unfold lh1; rw [f0]; exact e1
  obtain ⟨q2, e2, p2⟩ := rdUint_at nn 6 (by decide) (by decide) (by have : (256 : Nat) ^ 6 = 281474976710656 := by decide
                                                                    omega) (by omega) p1
  have f2 : lh2 b = (q2, (nn : Int)) := by unfold lh2; rw [f1]; exact e2
  unfold hOk
  rw [f0, f1, f2]
  exact ⟨⟨rfl, p2.e, by rw [← haa, ← hnn]; exact h⟩, haa.symm, hnn.symm, p2.d⟩
theorem head_bwd {b : List UInt8} (h : hOk b) : b = hdS (lh1 b).2 (lh2 b).2 ++ rest (lh2 b).1 := by
  obtain ⟨h1, h2, h3⟩ := h
  obtain ⟨e1, v2, q2, b2, r2⟩ := rdUint_inv (s := 6) (by decide) (by decide) (show (rdUint (lh1 b).1 ((6 : Nat) : Int)).1.e = 0 from h2)
  obtain ⟨e0, v1, q1, b1, r1⟩ := rdUint_inv (s := 1) (by decide) (by decide) (show (rdUint (lh0 b).1 ((1 : Nat) : Int)).1.e = 0 from e1)
  obtain ⟨_, _, r0⟩ := rdRaw_inv (show (rdRaw ⟨b, 0, 0⟩ 4).1.e = 0 from e0)
  have r0' : b = (lh0 b).2 ++ rest (lh0 b).1 := r0
  have r1' : rest (lh0 b).1 = beS ((v1 : Nat) : Int) 1 ++ rest (lh1 b).1 := r1
  have r2' : rest (lh1 b).1 = beS ((v2 : Nat) : Int) 6 ++ rest (lh2 b).1 := r2
  have q1' : (lh1 b).2 = (v1 : Int) := q1
  have q2' : (lh2 b).2 = (v2 : Int) := q2
  rw [hdS_y h3]
  conv => lhs; rw [r0', h1, r1', r2']
  rw [q1', q2']
  simp only [List.append_assoc]
theorem head_drop {b : List UInt8} (h : hOk b) : rest (lh2 b).1 = b.drop 11 ∧ 11 ≤ b.length := by
  have hb := head_bwd h
  have hl := hdS_len h.2.2
  have h1 : b.length = 11 + (rest (lh2 b).1).length := by conv => lhs; rw [hb, List.length_append, hl]
  refine ⟨?_, by omega⟩
  conv => rhs; rw [hb, List.drop_left' hl]
def scanS (b : List UInt8) : Lg × Int × Int := if hOk b then (⟨(lh1 b).2, (lh2 b).2, (bodyS (lh1 b).2 41 [] (b.drop 11)).1⟩, (b.length : Int) - ((bodyS (lh1 b).2 41 [] (b.drop 11)).2.1.length : Int), (bodyS (lh1 b).2 41 [] (b.drop 11)).2.2) else (⟨0, 0, []⟩, 0, 5)
/-! rows of events of the call's own -/
theorem infoE2 : (Tryd.prog.info? 34).map (fun i => (i.zero, i.size)) = some (some (.agg #[.int .i64 0, .int .i64 0, .slice none 0 0, .slice none 0 0]), 4) := by kernel_rfl
theorem infoE4 : (Tryd.prog.info? 34).map (fun i => (i.zero, i.size, i.bytes)) = some (some (.agg #[.int .i64 0, .int .i64 0, .slice none 0 0, .slice none 0 0]), 4, 64) := by kernel_rfl
def EO (w : World) (base : Nat) (A : Option Addr) (n c : Nat) (l : List Ev) : Prop := ∃ vs, w.ownsRow base 34 4 (.slice A n c) n vs ∧ EachR Rp.evt w (NOwn w (fun k => base ≤ k) (.slice A n c)) vs l
section
variable {w w' : World} {base n c : Nat} {A : Option Addr} {l : List Ev} {P : Nat → Prop}
theorem EO.fr (h : EO w base A n c l) (f : Fr P w w') (hp : ∀ k, base ≤ k → P k) : EO w' base A n c l :=
  let ⟨vs, ho, he⟩ := h
  ⟨vs, own_fr ho f hp, (he.fr (f.mono fun k hk => hp k hk.1)).mono fun k hk _ => ⟨hk.1, Nat.lt_of_lt_of_le hk.2.1 f.size, hk.2.2⟩⟩
theorem EO.ext (h : EO w base A n c l) (e : Ext w w') : EO w' base A n c l := h.fr (P := fun _ => True) e.fr (fun _ _ => trivial)
theorem EO.nil_ (w : World) (base : Nat) : EO w base none 0 0 [] := ⟨[], World.ownsRow_nil _ _ _ _, EachR.nil_⟩
theorem EO.sl (h : EO w base A n c l) (hp : ∀ k, base ≤ k → P k) : SL Rp.evt w P A n c l := let ⟨vs, ho, he⟩ := h; ⟨vs, Row.of_own ho hp, he.mono fun k hk _ => hp k hk.1⟩
theorem EO.len (h : EO w base A n c l) : l.length = n := (h.sl (P := fun _ => True) fun _ _ => trivial).len
theorem EO.low {base' : Nat} (h : EO w base A n c l) (hb : base' ≤ base) : EO w base' A n c l := let ⟨vs, ho, he⟩ := h; ⟨vs, own_mono ho hb, he.mono fun k hk _ => ⟨Nat.le_trans hb hk.1, hk.2⟩⟩
theorem EO.lt (h : EO w base A n c l) : ∀ k, Value.ownBlock (.slice A n c) = some k → k < w.heap.size := let ⟨_, ho, _⟩ := h; fun k hk => (own_lt ho k hk).2
theorem evtC_one (x : Ev) (r : ERow) : ∀ u ∈ evtC x r, u.oneCell' = true := by
  intro u hu
  simp only [evtC, List.mem_cons, List.not_mem_nil, or_false] at hu
  rcases hu with rfl | rfl | rfl | rfl <;> rfl
theorem row_evt {g : Nat} {x : Ev} {r : ERow} (h : Blk w g 34 (evtC x r).toArray) : Row w (fun _ => True) 4 (some ⟨g, 0, none⟩) 1 1 (evtC x r) :=
  ⟨rfl, Nat.le_refl _, by simp [maxLen], fun _ => ⟨g, 0, rfl, h.lt, trivial, fun i v hv => by rw [Nat.zero_add]; exact (h.cell i).trans (by simpa using hv)⟩⟩
variable {n' : Nat} {e : Env} {o : Oper} {x y : Operand}
/-- an event onto a row of events -/
theorem Does.appEO {g p sc : Nat} {B : Option Addr} {xi : Ev} {r : ERow} (ho : o.op = .call { callee := .builtin .append, args := #[x, y], argTypes := #[28, 28] })
    (hx : ev e x = some (.slice B p sc)) (hy : ev e y = some (.slice (some ⟨g, 0, none⟩) 1 1)) (hown : EO w base B p sc l) (hg : Blk w g 34 (evtC xi r).toArray) (hl : EvtV w (NOwn w (fun k => base ≤ k) (.slice B p sc)) xi r) (hp : p ≤ 1000000) (hb : base ≤ w.heap.size) :
    Does Tryd.prog n' o e w (fun v w' => ∃ B' sc', v = .slice B' (p + 1) sc' ∧ EO w' base B' (p + 1) sc' (l ++ [xi]) ∧ Below base w w') := by
  obtain ⟨vs, hw1, hw2⟩ := hown
  refine (Does.appX ho Tryd.underlying28 infoE4 rfl (by decide) hx hy hw1 (row_evt hg) (evtC_one _ _) (by omega) (by decide) hb).mono ?_
  rintro v w' ⟨B', sc', rfl, h1, h2, h3, h4⟩
  have key : ∀ k, NOwn w (fun k => base ≤ k) (.slice B p sc) k → NOwn w (fun _ => True) (.slice B p sc) k := fun k hk => ⟨trivial, hk.2⟩
  refine ⟨B', sc', rfl, ⟨_, h1, ?_⟩, h2⟩
  exact ((hw2.app (EachR.single (evt_rep hl))).fr (h3.mono key)).mono fun k hk _ => ⟨hk.1, (h4 k (key k hk)).2⟩
end
end Go.Proofs.YtnbgieccindpnaaDoor
/- Logs: scan and Parse of the program. -/
namespace Go.Proofs.YtnbgieccindpnaaDoor
set_option linter.all false
set_option maxRecDepth 20000
open Go.RowKit
def ScanR (w : World) (b : List UInt8) (e : Ending) (w' : World) : Prop := ∃ S m k, e = .returned (.tuple #[.agg #[.int .i64 (scanS b).1.active, .int .i64 (scanS b).1.resets, .slice S m k], .int .i64 (scanS b).2.1, .int .i64 (scanS b).2.2]) ∧ SL Rp.evt w' (fun q => w.heap.size ≤ q) S m k (scanS b).1.events ∧ Ext w w'
theorem ScanR.no {w w' : World} {b : List UInt8} (h : ¬ hOk b) (hE : Ext w w') : ScanR w b (.returned (resV [.agg #[.int .i64 0, .int .i64 0, .slice none 0 0], .int .i64 0, .int .i64 5])) w' := by
  have e : scanS b = (⟨0, 0, []⟩, 0, 5) := by unfold scanS; rw [if_neg h]
  unfold ScanR
  rw [e]
  exact ⟨none, 0, 0, rfl, SL.nil_ _ _ _, hE⟩
theorem ScanR.yes {w w' : World} {b : List UInt8} {S : Option Addr} {m k : Nat} {acc : List Ev} {rs : List UInt8} {er : Int} (h : hOk b) (hb : bodyS (lh1 b).2 41 [] (b.drop 11) = (acc, rs, er)) (hs : SL Rp.evt w' (fun q => w.heap.size ≤ q) S m k acc) (hE : Ext w w') : ScanR w b (.returned (resV [.agg #[.int .i64 (lh1 b).2, .int .i64 (lh2 b).2, .slice S m k], .int .i64 ((b.length : Int) - (rs.length : Int)), .int .i64 er])) w' := by
  have e : scanS b = (⟨(lh1 b).2, (lh2 b).2, acc⟩, (b.length : Int) - (rs.length : Int), er) := by unfold scanS; rw [if_pos h, hb]
  unfold ScanR
  rw [e]
  exact ⟨S, m, k, rfl, hs, hE⟩
theorem hdS_pos {a n : Int} (h : ¬ (hdS a n).length = 0) : rngH a n := by
  rcases Decidable.em (rngH a n) with h1 | h1
  · exact h1
  · rw [hdS_n h1] at h; exact absurd rfl h
set_option maxRecDepth 20000 in
set_option maxHeartbeats 4000000 in
theorem scanP {P : Nat → Prop} (w : World) (A : Option Addr) (n c : Nat) (b : List UInt8) (ha : BV w P A n c b) (hn : n ≤ 1000000) :
    Calls Tryd.prog 47 #[.slice A n c] w (ScanR w b) := by
  have hl := ha.len
  obtain ⟨hbb0, hbb1, hbb2⟩ := lh_b b
  refine calls_enter Tryd.func47 rfl Tryd.ntmps47 rfl ?_
  have hE : Ext w w := Ext.refl w
  refine vs fun K1 hK1 => vR [(0, _)] ?_
  refine Wl.does rfl rfl rfl (Does.alB (.agg #[(.int .i64 0), (.int .i64 0), (.slice none 0 0)]) rfl (by kernel_rfl) rfl) ?_
  rintro _ w0_0 ⟨b2, rfl, hs2, hb2, hx0_0⟩
  have hg2 : w.heap.size ≤ b2 := Nat.le_trans hE.size hs2
  replace hE := hE.trans hx0_0
  refine vA ?_
  refine vA ?_
  refine vn (hK1 _ _ ?_)
  refine Wc.scope ?_
  refine vs fun K2 hK2 => vR [(0, _), (2, _)] ?_
  refine vM ?_
  refine Wl.call rfl rfl rfl rfl Tryd.func65 rfl (by kernel_rfl) rfl ((newP_rd _ _ _ _ b (ha.ext hE) (by omega)).mono fun _ _ h => NewRd.x h) ?_
  rintro x1 w11 ⟨g, A', n', c', rfl, hg, hR, hx1⟩
  refine ⟨_, rfl, ?_⟩
  have hgg : w.heap.size ≤ g := Nat.le_trans hE.size hg
  have hn2g : b2 ≠ g := by { have := hb2.lt; omega }
  have hb2g : b2 < g := by { have := hb2.lt; omega }
  generalize hN : w11.heap.size = N at *
  have hgN : g < N := hR.lt
  replace hb2 := hb2.ext hx1
  replace hE := hE.trans hx1
  refine vA ?_
  refine vn (hK2 _ _ ?_)
  refine Wc.seq (fun K3 hK3 => ?_)
  refine vs fun K4 hK4 => vR [(0, _), (2, _), (5, _)] ?_
  refine vM ?_
  refine Wl.call rfl rfl rfl rfl Tryd.func66 rfl (by kernel_rfl) rfl ((rRaw_x _ g _ A' n' c' _ 4 hR).mono (R' := BlobX 113 _ g N A' n' c' (lh0 b)) fun _ _ h => h) ?_
  rintro x2 w21 ⟨S0, m0, k0, rfl, hO0, hR0, hF0⟩
  refine ⟨_, rfl, ?_⟩
  have hN21 := hF0.size
  replace hb2 := hb2.frA hF0
  replace hE := Ext.over hE hF0 hgg
  refine vl (Gives.toStr rfl Tryd.underlying22 Tryd.underlying5 Tryd.underlying9 rfl (hO0.bv (P := fun _ => True) fun _ _ => trivial)) ?_
  refine vl (Gives.txtNeq (r := magicS) rfl rfl rfl) ?_
  refine vn (hK4 _ _ ?_)
  refine Wc.cond _ rfl (fun h17 => ?_) (fun h17 => ?_)
  · first | replace h17 := dT h17 | replace h17 := nT h17 | skip
    refine vs fun K5 hK5 => vR [(2, _)] ?_
    refine vl (Gives.buildS (pl := [(0, 1), (1, 1), (2, 1)]) (zv := (.agg #[(.int .i64 0), (.int .i64 0), (.slice none 0 0)])) rfl Tryd.underlying30 (by kernel_rfl) (by kernel_rfl) rfl rfl) ?_
    refine Wl.acts rfl rfl (Does.stL 3 rfl rfl rfl hb2 (by kernel_rfl) rfl rfl rfl) ?_
    rintro _ w3_1 ⟨hbn, hF3_1⟩
    replace hE := Ext.over hE hF3_1 hg2
    replace hb2 := hbn
    clear hbn
    refine vA ?_
    refine vA ?_
    refine vn (hK5 _ _ ?_)
    refine Wc.ret ?_
    refine Wx.thenR ?_
    refine Wx.scR ?_
    refine Wx.ret [_, _, _] ⟨⟨_, rfl, res_blk hb2 Tryd.underlying30 rfl (by kernel_rfl)⟩, ⟨rfl, ⟨rfl, trivial⟩⟩⟩ ?_
    first | exact ScanR.no (fun h => by first | exact h17 h.1 | exact h27 h.2.1 | (have h3 := hdS_len h.2.2; omega)) hE | (subst hact; subst hnum; exact ScanR.yes hok hbody (hS.mono fun q hq => by omega) hE)
  first | replace h17 := dF h17 | replace h17 := nF h17 | skip
  refine Wc.skip ?_
  refine Wx.thenN (hK3 _ _ ?_)
  refine vs fun K6 hK6 => vR [(0, _), (2, _), (5, _)] ?_
  refine vM ?_
  refine Wl.call rfl rfl rfl rfl Tryd.func67 rfl (by kernel_rfl) rfl ((rUint_x _ g _ A' n' c' _ 1 hR0).mono (R' := UintX 113 _ g N A' n' c' (lh1 b)) fun _ _ h => h) ?_
  rintro x3 w41 ⟨rfl, hR1, hF1⟩
  refine ⟨_, rfl, ?_⟩
  have hN41 := hF1.size
  replace hb2 := hb2.frA hF1
  replace hE := Ext.over hE hF1 hgg
  refine vM ?_
  refine Wl.call rfl rfl rfl rfl Tryd.func67 rfl (by kernel_rfl) rfl ((rUint_x _ g _ A' n' c' _ 6 hR1).mono (R' := UintX 113 _ g N A' n' c' (lh2 b)) fun _ _ h => h) ?_
  rintro x4 w43 ⟨rfl, hR2, hF2⟩
  refine ⟨_, rfl, ?_⟩
  have hN43 := hF2.size
  replace hR2 : RDX 113 w43 g N A' n' c' (lh2 b).1 := hR2
  replace hb2 := hb2.frA hF2
  replace hE := Ext.over hE hF2 hgg
  refine vl (Gives.buildS (pl := [(0, 1), (1, 1), (2, 1)]) (zv := (.agg #[(.int .i64 0), (.int .i64 0), (.slice none 0 0)])) rfl Tryd.underlying30 (by kernel_rfl) (by kernel_rfl) rfl rfl) ?_
  refine Wl.does rfl rfl rfl (Does.alB (.agg #[(.int .i64 0), (.int .i64 0), (.slice none 0 0)]) rfl (by kernel_rfl) rfl) ?_
  rintro _ w4_5 ⟨b6, rfl, hs6, hb6, hx4_5⟩
  have hn2_6 : b2 ≠ b6 := hb2.ne hs6
  have hg6 : w.heap.size ≤ b6 := Nat.le_trans hE.size hs6
  replace hb2 := hb2.ext hx4_5
  replace hE := hE.trans hx4_5
  refine Wl.acts rfl rfl (Does.stL 3 rfl rfl rfl hb6 (by kernel_rfl) rfl rfl rfl) ?_
  rintro _ w4_6 ⟨hbn, hF4_6⟩
  replace hb2 := hb2.frA hF4_6
  replace hE := Ext.over hE hF4_6 hg6
  replace hb6 := hbn
  clear hbn
  have hn6g : b6 ≠ g := by omega
  have hN6 : N ≤ b6 := by omega
  have hb26 : b2 < b6 := by omega
  replace hR2 := (hR2.ext hx4_5).fr hF4_6 (fun q hq => by omega)
  refine vn (hK6 _ _ ?_)
  refine Wc.seq (fun K7 hK7 => ?_)
  refine vs fun K8 hK8 => vR [(0, _), (2, _), (5, _), (6, _)] ?_
  refine vM ?_
  refine Wl.call rfl rfl rfl rfl Tryd.func68 rfl (by kernel_rfl) rfl (rErr_x _ g N A' n' c' _ hR2) ?_
  rintro x5 w51 ⟨rfl, rfl⟩
  refine ⟨_, rfl, ?_⟩
  refine vl (Gives.neq rfl rfl rfl) ?_
  refine vM ?_
  refine Wl.guard rfl rfl rfl (fun h27 => ?_) (fun h27 => ?_)
  · first | replace h27 := dF h27 | replace h27 := nF h27 | skip
    refine vF 0 Tryd.underlying30 ?_
    refine vL hb6 ?_
    refine vF 1 Tryd.underlying30 ?_
    refine vL hb6 ?_
    refine Wl.call rfl rfl rfl rfl Tryd.func14 rfl (by kernel_rfl) rfl (headP _ (lh1 b).2 (lh2 b).2) ?_
    rintro x6 w58 ⟨Sh, mh, kh, rfl, hOh, hx58⟩
    refine ⟨_, rfl, ?_⟩
    have hmh := hOh.len
    replace hR2 := hR2.ext hx58
    replace hb2 := hb2.ext hx58
    replace hb6 := hb6.ext hx58
    replace hE := hE.trans hx58
    refine vl (Gives.lenS rfl Tryd.underlying22 rfl) ?_
    refine vl (Gives.eql rfl rfl rfl) ?_
    refine vU ?_
    refine vn (hK8 _ _ ?_)
    refine Wc.cond _ rfl (fun h35 => ?_) (fun h35 => ?_)
    · first | replace h35 := dT h35 | replace h35 := nT h35 | skip
      refine vs fun K9 hK9 => vR [(2, _)] ?_
      refine vl (Gives.buildS (pl := [(0, 1), (1, 1), (2, 1)]) (zv := (.agg #[(.int .i64 0), (.int .i64 0), (.slice none 0 0)])) rfl Tryd.underlying30 (by kernel_rfl) (by kernel_rfl) rfl rfl) ?_
      refine Wl.acts rfl rfl (Does.stL 3 rfl rfl rfl hb2 (by kernel_rfl) rfl rfl rfl) ?_
      rintro _ w6_1 ⟨hbn, hF6_1⟩
      replace hb6 := hb6.frA hF6_1
      replace hE := Ext.over hE hF6_1 hg2
      replace hb2 := hbn
      clear hbn
      refine vA ?_
      refine vA ?_
      refine vn (hK9 _ _ ?_)
      refine Wc.ret ?_
      refine Wx.thenR ?_
      refine Wx.scR ?_
      refine Wx.ret [_, _, _] ⟨⟨_, rfl, res_blk hb2 Tryd.underlying30 rfl (by kernel_rfl)⟩, ⟨rfl, ⟨rfl, trivial⟩⟩⟩ ?_
      first | exact ScanR.no (fun h => by first | exact h17 h.1 | exact h27 h.2.1 | (have h3 := hdS_len h.2.2; omega)) hE | (subst hact; subst hnum; exact ScanR.yes hok hbody (hS.mono fun q hq => by omega) hE)
    first | replace h35 := dF h35 | replace h35 := nF h35 | skip
    refine Wc.skip ?_
    refine Wx.thenN (hK7 _ _ ?_)
    refine vs fun K10 hK10 => vK [(0, _), (2, _), (5, _), (6, _)] ?_
    have hok : hOk b := ⟨by simpa using h17, by first | exact h27 | simpa using h27, hdS_pos (by omega)⟩
    obtain ⟨hdr, h11⟩ := head_drop hok
    have hdl : (rest (lh2 b).1).length + 11 = b.length := by rw [hdr, List.length_drop]; omega
    generalize hact : (lh1 b).2 = act at *
    generalize hnum : (lh2 b).2 = num at *
    have hw6 : w.heap.size ≤ b6 := by omega
    refine Wc.region ?_
    refine vA ?_
    refine vA ?_
    refine vn (hK10 _ _ ?_)
    refine Wc.seq (fun K11 hK11 => ?_)
    refine Wc.label ?_
    refine Wx.thenN (hK11 _ _ ?_)
    refine Wc.joinC (ι := (Option Addr × Nat × Nat) × List Ev × List UInt8 × Int) [(2, _), (6, _)] (fun | (_, _, rs, er) => [(7, .int .i64 ((b.length : Int) - (rs.length : Int))), (8, .int .i64 er)]) (fun | ((S, m, k), acc, rs, er), wr => bodyS act 41 [] (b.drop 11) = (acc, rs, er) ∧ SL Rp.evt wr (fun q => b6 < q) S m k acc ∧ Blk wr b6 30 #[.int .i64 act, .int .i64 num, .slice S m k] ∧ Blk wr b2 30 #[.int .i64 0, .int .i64 0, .slice none 0 0] ∧ Ext w wr) ?_ ?_ (.cons rfl (.cons rfl (.nil)))
    · intro K12 hJ12
      refine Wc.block ?_
      refine vK [(0, _), (2, _), (5, _), (6, _), (7, _), (8, _)] ?_
      refine Wc.loopC (ι := Rd × (Option Addr × Nat × Nat) × List Ev) [(0, _), (2, _), (5, _), (6, _)] (fun | (r, (S, m, k), acc) => [(7, .int .i64 ((b.length : Int) - ((rest r).length : Int))), (8, .int .i64 0)]) (fun | (r, (S, m, k), acc), wr => r.b = b ∧ r.e = 0 ∧ acc.length ≤ 40 ∧ bodyS act (41 - acc.length) acc (rest r) = bodyS act 41 [] (b.drop 11) ∧ RDX 113 wr g N A' n' c' r ∧ EO wr (b6 + 1) S m k acc ∧ Blk wr b6 30 #[.int .i64 act, .int .i64 num, .slice S m k] ∧ Blk wr b2 30 #[.int .i64 0, .int .i64 0, .slice none 0 0] ∧ Ext w wr) (fun | (_, _, acc) => 41 - acc.length) (((lh2 b).1, (none, 0, 0), [])) (.co (.co (.cons rfl (.cons rfl (.cons rfl (.cons rfl (.nil))))))) (⟨hbb2, hok.2.1, by simp, by rw [hdr]; rfl, hR2, EO.nil_ _ _, hb6, hb2, hE⟩) ?_
      intro ⟨r, ⟨S, m, k⟩, acc⟩ wr hJ KL1 hKL1
      clear hE hR2 hb6 hb2
      obtain ⟨hb, hre, ha40, hbody, hR, hIO, hb6, hb2, hE⟩ := hJ
      have hacc := hIO.len
      have hrl := rest_len r
      have hat : r.at_ ≤ n' := hR.rd.2.2.1
      have hbn := hR.bv.len
      have hrb : r.b.length = b.length := by rw [hb]
      have hb6l := hb6.lt
      have hleft : rdLeft ⟨r.b, r.at_, r.e⟩ = ((rest r).length : Int) := by show (r.b.length : Int) - r.at_ = _; omega
      refine Wc.seq (fun K13 hK13 => ?_)
      refine vs fun K14 hK14 => vR [(0, _), (2, _), (5, _), (6, _), (7, _), (8, _)] ?_
      refine vM ?_
      refine Wl.call rfl rfl rfl rfl Tryd.func69 rfl (by kernel_rfl) rfl ((rLeft_calls _ g A' n' c' r.b r.at_ r.e hR.rd).mono (R' := fun e w' => e = .returned (.int .i64 ((rest r).length : Int)) ∧ Quiet wr w') fun _ _ h => ⟨by rw [h.1, hleft], h.2⟩) ?_
      rintro x7 w81 ⟨rfl, hq81⟩
      refine ⟨_, rfl, ?_⟩
      replace hR := hR.ext hq81.ext
      replace hIO := hIO.ext hq81.ext
      replace hb2 := hb2.ext hq81.ext
      replace hb6 := hb6.ext hq81.ext
      replace hE := hE.trans hq81.ext
      refine vl (Gives.gtr rfl rfl rfl) ?_
      refine vn (hK14 _ _ ?_)
      refine Wc.cond _ rfl (fun h39 => ?_) (fun h39 => ?_)
      · first | replace h39 := dT h39 | replace h39 := nT h39 | skip
        refine Wc.skip ?_
        refine Wx.thenN (hK13 _ _ ?_)
        refine Wc.block ?_
        refine vs fun K15 hK15 => vK [(0, _), (2, _), (5, _), (6, _), (7, _), (8, _)] ?_
        have hrs : rest r ≠ [] := fun h => by rw [h] at h39; simp at h39
        have hbl3 := rdBlob_le r 65535
        have hbb3 := rdBlob_b r 65535
        refine Wc.region ?_
        refine vM ?_
        refine Wl.call rfl rfl rfl rfl Tryd.func70 rfl (by kernel_rfl) rfl (rBlob_x _ g _ A' n' c' r 65535 hR) ?_
        rintro x8 w91 ⟨S3, m3, k3, rfl, hO3, hR3, hF3⟩
        refine ⟨_, rfl, ?_⟩
        have hm3 := hO3.len
        have hN91 := hF3.size
        replace hIO := hIO.fr hF3 (fun q hq => by omega)
        have hown := hIO.lt
        have hb6l2 := hq81.ext.size
        replace hb2 := hb2.frA hF3
        replace hb6 := hb6.frA hF3
        replace hE := Ext.over hE hF3 hgg
        refine vA ?_
        refine vn (hK15 _ _ ?_)
        refine vs fun K16 hK16 => vR [(0, _), (2, _), (5, _), (6, _), (7, _), (8, _), (9, _)] ?_
        refine vM ?_
        refine Wl.call rfl rfl rfl rfl Tryd.func71 rfl (by kernel_rfl) rfl (evDecP _ S3 m3 k3 _ (hO3.bv (P := fun _ => True) fun _ _ => trivial) (by omega)) ?_
        rintro x9 w101 ⟨D, dn, dc, S4, m4, k4, rfl, hD, hP, hx101⟩
        refine ⟨_, rfl, ?_⟩
        replace hIO := hIO.ext hx101
        replace hR3 := hR3.ext hx101
        replace hb2 := hb2.ext hx101
        replace hb6 := hb6.ext hx101
        replace hE := hE.trans hx101
        refine vM ?_
        refine vl (Gives.extract rfl rfl rfl) ?_
        refine vl (Gives.extract rfl rfl rfl) ?_
        refine Wl.does rfl rfl rfl (Does.alB (.agg #[(.int .i64 0), (.int .i64 0), (.slice none 0 0), (.slice none 0 0)]) rfl (by kernel_rfl) rfl) ?_
        rintro _ w10_5 ⟨b10, rfl, hs10, hb10, hx10_5⟩
        have hn2_10 : b2 ≠ b10 := hb2.ne hs10
        have hn6_10 : b6 ≠ b10 := hb6.ne hs10
        have hg10 : w.heap.size ≤ b10 := Nat.le_trans hE.size hs10
        replace hb2 := hb2.ext hx10_5
        replace hb6 := hb6.ext hx10_5
        replace hE := hE.trans hx10_5
        refine Wl.acts rfl rfl (Does.stL 4 rfl rfl rfl hb10 (by kernel_rfl) rfl rfl rfl) ?_
        rintro _ w10_6 ⟨hbn, hF10_6⟩
        replace hb2 := hb2.frA hF10_6
        replace hb6 := hb6.frA hF10_6
        replace hE := Ext.over hE hF10_6 hg10
        replace hb10 := hbn
        clear hbn
        have hx10 := Ext.over hx10_5 hF10_6 hs10
        replace hIO := hIO.ext hx10
        replace hR3 := hR3.ext hx10
        replace hD := hD.ext hx10
        replace hP := hP.ext hx10
        have hz10 := hx10.size
        have hz101 := hx101.size
        refine vA ?_
        refine vn (hK16 _ _ ?_)
        refine Wc.seq (fun K17 hK17 => ?_)
        refine Wc.block ?_
        refine vs fun K18 hK18 => vR [(0, _), (2, _), (5, _), (6, _), (7, _), (8, _), (10, _), (11, _)] ?_
        refine vF 2 Tryd.underlying30 ?_
        refine vL hb6 ?_
        refine vl (Gives.lenS rfl Tryd.underlying28 rfl) ?_
        refine vl (Gives.eql rfl rfl rfl) ?_
        refine vA ?_
        refine vn (hK18 _ _ ?_)
        refine Wc.cond _ rfl (fun h47 => ?_) (fun h47 => ?_)
        · first | replace h47 := dT h47 | replace h47 := nT h47 | skip
          refine vs fun K19 hK19 => vR [(2, _), (6, _), (7, _)] ?_
          refine vA ?_
          refine vn (hK19 _ _ ?_)
          refine Wc.exit ?_
          refine Wx.miss rfl ?_
          refine Wx.thenE ?_
          refine Wx.miss rfl ?_
          refine Wx.thenE ?_
          refine Wx.hit ?_
          refine Wx.thenN ?_
          have hS := hIO.sl (P := fun q => b6 < q) (fun q hq => hq)
          first | exact hJ12 ((S, m, k), acc, rest r, 25) _ _ (.co (.co (.cons rfl (.cons rfl (.nil))))) ⟨by rw [← hbody, body_25 hrs (by omega)], hS, hb6, hb2, hE⟩ | exact hJ12 ((S, m, k), acc, rest r, 2) _ _ (.co (.co (.cons rfl (.cons rfl (.nil))))) ⟨by { rw [← hbody]; refine body_2 hrs (by omega) ?_; cases hq : blobOf (rest r) with | none => rfl | some q => exact absurd (rdBlob_some hre hq).1 h52 }, hS, hb6, hb2, hE⟩ | exact hJ12 ((S, m, k), acc, rest r, 30) _ _ (.co (.co (.cons rfl (.cons rfl (.nil))))) ⟨by { rw [← hbody]; exact body_30 hrs (by omega) hxr (fun hh => by { rw [← hx2] at hh; first | exact h59 hh.1 | exact h56 hh.2 }) }, hS, hb6, hb2, hE⟩ | exact hJ12 ((S, m, k), acc, rest r, 0) _ _ (.co (.co (.cons rfl (.cons rfl (.nil))))) ⟨by { have hnil : rest r = [] := List.eq_nil_of_length_eq_zero (by omega); rw [← hbody, hnil, body_end] }, hS, hb6, hb2, hE⟩
        first | replace h47 := dF h47 | replace h47 := nF h47 | skip
        refine vs fun K20 hK20 => vR [(0, _), (2, _), (5, _), (6, _), (7, _), (8, _), (10, _), (11, _)] ?_
        refine vM ?_
        refine Wl.call rfl rfl rfl rfl Tryd.func68 rfl (by kernel_rfl) rfl (rErr_x _ g N A' n' c' _ hR3) ?_
        rintro x10 w131 ⟨rfl, rfl⟩
        refine ⟨_, rfl, ?_⟩
        refine vl (Gives.neq rfl rfl rfl) ?_
        refine vA ?_
        refine vn (hK20 _ _ ?_)
        refine Wc.cond _ rfl (fun h52 => ?_) (fun h52 => ?_)
        · first | replace h52 := dT h52 | replace h52 := nT h52 | skip
          refine vs fun K21 hK21 => vR [(2, _), (6, _), (7, _)] ?_
          refine vA ?_
          refine vn (hK21 _ _ ?_)
          refine Wc.exit ?_
          refine Wx.miss rfl ?_
          refine Wx.thenE ?_
          refine Wx.miss rfl ?_
          refine Wx.thenE ?_
          refine Wx.hit ?_
          refine Wx.thenN ?_
          have hS := hIO.sl (P := fun q => b6 < q) (fun q hq => hq)
          first | exact hJ12 ((S, m, k), acc, rest r, 25) _ _ (.co (.co (.cons rfl (.cons rfl (.nil))))) ⟨by rw [← hbody, body_25 hrs (by omega)], hS, hb6, hb2, hE⟩ | exact hJ12 ((S, m, k), acc, rest r, 2) _ _ (.co (.co (.cons rfl (.cons rfl (.nil))))) ⟨by { rw [← hbody]; refine body_2 hrs (by omega) ?_; cases hq : blobOf (rest r) with | none => rfl | some q => exact absurd (rdBlob_some hre hq).1 h52 }, hS, hb6, hb2, hE⟩ | exact hJ12 ((S, m, k), acc, rest r, 30) _ _ (.co (.co (.cons rfl (.cons rfl (.nil))))) ⟨by { rw [← hbody]; exact body_30 hrs (by omega) hxr (fun hh => by { rw [← hx2] at hh; first | exact h59 hh.1 | exact h56 hh.2 }) }, hS, hb6, hb2, hE⟩ | exact hJ12 ((S, m, k), acc, rest r, 0) _ _ (.co (.co (.cons rfl (.cons rfl (.nil))))) ⟨by { have hnil : rest r = [] := List.eq_nil_of_length_eq_zero (by omega); rw [← hbody, hnil, body_end] }, hS, hb6, hb2, hE⟩
        first | replace h52 := dF h52 | replace h52 := nF h52 | skip
        refine vs fun K22 hK22 => vK [(0, _), (2, _), (5, _), (6, _), (7, _), (8, _), (10, _), (11, _)] ?_
        have he0 : (rdBlob r 65535).1.e = 0 := by first | exact h52 | simpa using h52
        obtain ⟨xr, hxr⟩ : ∃ q, blobOf (rest r) = some q := by
          cases hq : blobOf (rest r) with
          | none => have := rdBlob_none hre hq; rw [he0] at this; cases this
          | some q => exact ⟨q, rfl⟩
        obtain ⟨xx, rr⟩ := xr
        obtain ⟨_, hx2, hx3⟩ := rdBlob_some hre hxr
        refine Wc.region ?_
        refine vM ?_
        refine vl (Gives.neq rfl rfl rfl) ?_
        refine vM ?_
        refine Wl.guard rfl rfl rfl (fun h59 => ?_) (fun h59 => ?_)
        · first | replace h59 := dF h59 | replace h59 := nF h59 | skip
          refine vl (Gives.ldW rfl (by kernel_rfl) rfl hb10 (by kernel_rfl)) ?_
          refine vF 0 Tryd.underlying30 ?_
          refine vL hb6 ?_
          refine Wl.call rfl rfl rfl rfl Tryd.func39 rfl (by kernel_rfl) rfl (evCheckP _ _ _ D dn dc _ S4 m4 k4 _ hD hP act) ?_
          rintro x11 w156 ⟨rfl, hx156⟩
          refine ⟨_, rfl, ?_⟩
          replace hIO := hIO.ext hx156
          replace hR3 := hR3.ext hx156
          replace hD := hD.ext hx156
          replace hP := hP.ext hx156
          have hz156 := hx156.size
          replace hb2 := hb2.ext hx156
          replace hb6 := hb6.ext hx156
          replace hb10 := hb10.ext hx156
          replace hE := hE.trans hx156
          refine vl (Gives.neq rfl rfl rfl) ?_
          refine vU ?_
          refine vA ?_
          refine vn (hK22 _ _ ?_)
          refine Wc.cond _ rfl (fun h56 => ?_) (fun h56 => ?_)
          · first | replace h56 := dT h56 | replace h56 := nT h56 | skip
            refine vs fun K23 hK23 => vR [(2, _), (6, _), (7, _)] ?_
            refine vA ?_
            refine vn (hK23 _ _ ?_)
            refine Wc.exit ?_
            refine Wx.miss rfl ?_
            refine Wx.thenE ?_
            refine Wx.miss rfl ?_
            refine Wx.thenE ?_
            refine Wx.hit ?_
            refine Wx.thenN ?_
            have hS := hIO.sl (P := fun q => b6 < q) (fun q hq => hq)
            first | exact hJ12 ((S, m, k), acc, rest r, 25) _ _ (.co (.co (.cons rfl (.cons rfl (.nil))))) ⟨by rw [← hbody, body_25 hrs (by omega)], hS, hb6, hb2, hE⟩ | exact hJ12 ((S, m, k), acc, rest r, 2) _ _ (.co (.co (.cons rfl (.cons rfl (.nil))))) ⟨by { rw [← hbody]; refine body_2 hrs (by omega) ?_; cases hq : blobOf (rest r) with | none => rfl | some q => exact absurd (rdBlob_some hre hq).1 h52 }, hS, hb6, hb2, hE⟩ | exact hJ12 ((S, m, k), acc, rest r, 30) _ _ (.co (.co (.cons rfl (.cons rfl (.nil))))) ⟨by { rw [← hbody]; exact body_30 hrs (by omega) hxr (fun hh => by { rw [← hx2] at hh; first | exact h59 hh.1 | exact h56 hh.2 }) }, hS, hb6, hb2, hE⟩ | exact hJ12 ((S, m, k), acc, rest r, 0) _ _ (.co (.co (.cons rfl (.cons rfl (.nil))))) ⟨by { have hnil : rest r = [] := List.eq_nil_of_length_eq_zero (by omega); rw [← hbody, hnil, body_end] }, hS, hb6, hb2, hE⟩
          first | replace h56 := dF h56 | replace h56 := nF h56 | skip
          refine Wc.skip ?_
          refine Wx.blockN ?_
          refine Wx.thenN (hK17 _ _ ?_)
          refine vs fun K24 hK24 => vR [(0, _), (2, _), (5, _), (6, _), (8, _), (10, _)] ?_
          refine vF 2 Tryd.underlying30 ?_
          refine vL hb6 ?_
          refine vl (Gives.ldW rfl (by kernel_rfl) rfl hb10 (by kernel_rfl)) ?_
          refine Wl.does rfl rfl rfl (Does.lit1 4 rfl Tryd.underlying28 infoE2 rfl rfl rfl) ?_
          rintro _ w173 ⟨g173, rfl, hs173, hk173, hx173⟩
          replace hIO := hIO.ext hx173
          replace hR3 := hR3.ext hx173
          replace hD := hD.ext hx173
          replace hP := hP.ext hx173
          have hz173 := hx173.size
          replace hb2 := hb2.ext hx173
          replace hb6 := hb6.ext hx173
          replace hb10 := hb10.ext hx173
          replace hE := hE.trans hx173
          have hln : EvtV w173 (NOwn w173 (fun k => b6 + 1 ≤ k) (.slice S m k)) (decEvI (rdBlob r 65535).2) ⟨D, dn, dc, S4, m4, k4⟩ := (EvtV.bd (P := fun q => w91.heap.size ≤ q) ⟨hD, hP⟩).mono fun q hq => ⟨by omega, hq.2, fun he => by have := hown q he; omega⟩
          refine Wl.does rfl rfl rfl (Does.appEO (xi := decEvI (rdBlob r 65535).2) (r := ⟨D, dn, dc, S4, m4, k4⟩) rfl rfl rfl hIO hk173 hln (by omega) (by omega)) ?_
          rintro _ w174 ⟨B2, sc2, rfl, hIO2, hB174⟩
          have hR4 := hR3.fr (below_fr hB174) (fun q hq => by omega)
          replace hb2 := Blk.bel hb2 hB174 (by omega)
          replace hb6 := Blk.bel hb6 hB174 (by omega)
          replace hE := Ext.step hE hB174 (by omega)
          refine vF 2 Tryd.underlying30 ?_
          refine Wl.acts rfl rfl (Does.stC rfl rfl rfl hb6 (by kernel_rfl) (Nat.le_of_ble_eq_true rfl) rfl) ?_
          rintro _ w17_6 ⟨hbn, hF17_6⟩
          replace hb2 := hb2.frA hF17_6
          replace hE := Ext.over hE hF17_6 hg6
          replace hb6 := hbn
          clear hbn
          (try simp only [List.setIfInBounds_toArray, List.set_cons_zero, List.set_cons_succ, Nat.reduceAdd, Nat.zero_add] at hb6)
          replace hIO2 := hIO2.fr hF17_6 (fun q hq => by omega)
          replace hR4 := hR4.fr hF17_6 (fun q hq => by omega)
          have hat4 : (rdBlob r 65535).1.at_ ≤ n' := hR4.rd.2.2.1
          have hrl4 := rest_len (rdBlob r 65535).1
          have hrb4 : (rdBlob r 65535).1.b.length = b.length := by rw [hbb3, hb]
          have hleft4 : rdLeft ⟨(rdBlob r 65535).1.b, (rdBlob r 65535).1.at_, (rdBlob r 65535).1.e⟩ = ((rest (rdBlob r 65535).1).length : Int) := by show ((rdBlob r 65535).1.b.length : Int) - (rdBlob r 65535).1.at_ = _; omega
          refine vn (hK24 _ _ ?_)
          refine vR [(0, _), (2, _), (5, _), (6, _), (8, _)] ?_
          refine vM ?_
          refine vl (Gives.lenS rfl Tryd.underlying22 rfl) ?_
          refine vM ?_
          refine Wl.call rfl rfl rfl rfl Tryd.func69 rfl (by kernel_rfl) rfl ((rLeft_calls _ g A' n' c' _ _ _ hR4.rd).mono (R' := fun e w' => e = .returned (.int .i64 ((rest (rdBlob r 65535).1).length : Int)) ∧ Quiet w17_6 w') fun _ _ h => ⟨by rw [h.1, hleft4], h.2⟩) ?_
          rintro x12 w183 ⟨rfl, hq183⟩
          refine ⟨_, rfl, ?_⟩
          replace hR4 := hR4.ext hq183.ext
          replace hIO2 := hIO2.ext hq183.ext
          replace hb2 := hb2.ext hq183.ext
          replace hb6 := hb6.ext hq183.ext
          replace hE := hE.trans hq183.ext
          refine vSub ?_
          refine vA ?_
          refine Wl.nil ?_
          refine Wx.blockN ?_
          refine Wx.thenN ?_
          have hde : decEvE (rdBlob r 65535).2 = 0 := by first | exact h59 | simpa using h59
          have hck : evE (decEvI (rdBlob r 65535).2) act = 0 := by first | exact h56 | simpa using h56
          have hgo := body_go (act := act) (acc := acc) hrs (by omega) hxr (by rw [← hx2]; exact ⟨hde, hck⟩)
          rw [hx2] at hIO2
          exact hKL1 ((rdBlob r 65535).1, (B2, m + 1, sc2), acc ++ [decEvI xx]) _ _ (.co (.co (.cons rfl (.cons rfl (.cons rfl (.cons rfl (.nil))))))) ⟨by rw [hbb3, hb], he0, by rw [List.length_append, List.length_singleton]; omega, by rw [hx3, ← hgo]; exact hbody, hR4, hIO2, hb6, hb2, hE⟩ (by show 41 - (acc ++ [decEvI xx]).length < 41 - acc.length; rw [List.length_append, List.length_singleton]; omega)
        first | replace h59 := dT h59 | replace h59 := nT h59 | skip
        refine vP ?_
        refine vP ?_
        refine vP ?_
        refine vP ?_
        refine vP ?_
        refine vT ?_
        refine vA ?_
        refine vn (hK22 _ _ ?_)
        refine Wc.condT rfl rfl ?_
        refine vs fun K25 hK25 => vR [(2, _), (6, _), (7, _)] ?_
        refine vA ?_
        refine vn (hK25 _ _ ?_)
        refine Wc.exit ?_
        refine Wx.miss rfl ?_
        refine Wx.thenE ?_
        refine Wx.miss rfl ?_
        refine Wx.thenE ?_
        refine Wx.hit ?_
        refine Wx.thenN ?_
        have hS := hIO.sl (P := fun q => b6 < q) (fun q hq => hq)
        first | exact hJ12 ((S, m, k), acc, rest r, 25) _ _ (.co (.co (.cons rfl (.cons rfl (.nil))))) ⟨by rw [← hbody, body_25 hrs (by omega)], hS, hb6, hb2, hE⟩ | exact hJ12 ((S, m, k), acc, rest r, 2) _ _ (.co (.co (.cons rfl (.cons rfl (.nil))))) ⟨by { rw [← hbody]; refine body_2 hrs (by omega) ?_; cases hq : blobOf (rest r) with | none => rfl | some q => exact absurd (rdBlob_some hre hq).1 h52 }, hS, hb6, hb2, hE⟩ | exact hJ12 ((S, m, k), acc, rest r, 30) _ _ (.co (.co (.cons rfl (.cons rfl (.nil))))) ⟨by { rw [← hbody]; exact body_30 hrs (by omega) hxr (fun hh => by { rw [← hx2] at hh; first | exact h59 hh.1 | exact h56 hh.2 }) }, hS, hb6, hb2, hE⟩ | exact hJ12 ((S, m, k), acc, rest r, 0) _ _ (.co (.co (.cons rfl (.cons rfl (.nil))))) ⟨by { have hnil : rest r = [] := List.eq_nil_of_length_eq_zero (by omega); rw [← hbody, hnil, body_end] }, hS, hb6, hb2, hE⟩
      first | replace h39 := dF h39 | replace h39 := nF h39 | skip
      refine Wc.exit ?_
      refine Wx.thenE ?_
      refine Wx.thenE ?_
      refine Wx.hit ?_
      refine Wx.thenN ?_
      have hS := hIO.sl (P := fun q => b6 < q) (fun q hq => hq)
      first | exact hJ12 ((S, m, k), acc, rest r, 25) _ _ (.co (.co (.cons rfl (.cons rfl (.nil))))) ⟨by rw [← hbody, body_25 hrs (by omega)], hS, hb6, hb2, hE⟩ | exact hJ12 ((S, m, k), acc, rest r, 2) _ _ (.co (.co (.cons rfl (.cons rfl (.nil))))) ⟨by { rw [← hbody]; refine body_2 hrs (by omega) ?_; cases hq : blobOf (rest r) with | none => rfl | some q => exact absurd (rdBlob_some hre hq).1 h52 }, hS, hb6, hb2, hE⟩ | exact hJ12 ((S, m, k), acc, rest r, 30) _ _ (.co (.co (.cons rfl (.cons rfl (.nil))))) ⟨by { rw [← hbody]; exact body_30 hrs (by omega) hxr (fun hh => by { rw [← hx2] at hh; first | exact h59 hh.1 | exact h56 hh.2 }) }, hS, hb6, hb2, hE⟩ | exact hJ12 ((S, m, k), acc, rest r, 0) _ _ (.co (.co (.cons rfl (.cons rfl (.nil))))) ⟨by { have hnil : rest r = [] := List.eq_nil_of_length_eq_zero (by omega); rw [← hbody, hnil, body_end] }, hS, hb6, hb2, hE⟩
    intro ⟨⟨S, m, k⟩, acc, rs, er⟩ wj hJ
    clear hE hb6 hb2
    obtain ⟨hbody, hS, hb6, hb2, hE⟩ := hJ
    refine vs fun K26 hK26 => vR [(2, _), (6, _), (7, _), (8, _)] ?_
    refine vl (Gives.ldW rfl (by kernel_rfl) rfl hb6 (by kernel_rfl)) ?_
    refine vM ?_
    refine vM ?_
    refine Wl.acts rfl rfl (Does.stL 3 rfl rfl rfl hb2 (by kernel_rfl) rfl rfl rfl) ?_
    rintro _ w19_3 ⟨hbn, hF19_3⟩
    replace hb6 := hb6.frA hF19_3
    replace hE := Ext.over hE hF19_3 hg2
    replace hb2 := hbn
    clear hbn
    replace hS := hS.fr (hF19_3.mono fun q hq => by omega)
    refine vA ?_
    refine vA ?_
    refine vn (hK26 _ _ ?_)
    refine Wc.ret ?_
    refine Wx.scR ?_
    refine Wx.ret [_, _, _] ⟨⟨_, rfl, res_blk hb2 Tryd.underlying30 rfl (by kernel_rfl)⟩, ⟨rfl, ⟨rfl, trivial⟩⟩⟩ ?_
    first | exact ScanR.no (fun h => by first | exact h17 h.1 | exact h27 h.2.1 | (have h3 := hdS_len h.2.2; omega)) hE | (subst hact; subst hnum; exact ScanR.yes hok hbody (hS.mono fun q hq => by omega) hE)
  first | replace h27 := dT h27 | replace h27 := nT h27 | skip
  refine vP ?_
  refine vP ?_
  refine vP ?_
  refine vP ?_
  refine vP ?_
  refine vP ?_
  refine vP ?_
  refine vT ?_
  refine vn (hK8 _ _ ?_)
  refine Wc.condT rfl rfl ?_
  refine vs fun K27 hK27 => vR [(2, _)] ?_
  refine vl (Gives.buildS (pl := [(0, 1), (1, 1), (2, 1)]) (zv := (.agg #[(.int .i64 0), (.int .i64 0), (.slice none 0 0)])) rfl Tryd.underlying30 (by kernel_rfl) (by kernel_rfl) rfl rfl) ?_
  refine Wl.acts rfl rfl (Does.stL 3 rfl rfl rfl hb2 (by kernel_rfl) rfl rfl rfl) ?_
  rintro _ w6_1 ⟨hbn, hF6_1⟩
  replace hb6 := hb6.frA hF6_1
  replace hE := Ext.over hE hF6_1 hg2
  replace hb2 := hbn
  clear hbn
  refine vA ?_
  refine vA ?_
  refine vn (hK27 _ _ ?_)
  refine Wc.ret ?_
  refine Wx.thenR ?_
  refine Wx.scR ?_
  refine Wx.ret [_, _, _] ⟨⟨_, rfl, res_blk hb2 Tryd.underlying30 rfl (by kernel_rfl)⟩, ⟨rfl, ⟨rfl, trivial⟩⟩⟩ ?_
  first | exact ScanR.no (fun h => by first | exact h17 h.1 | exact h27 h.2.1 | (have h3 := hdS_len h.2.2; omega)) hE | (subst hact; subst hnum; exact ScanR.yes hok hbody (hS.mono fun q hq => by omega) hE)
end Go.Proofs.YtnbgieccindpnaaDoor
/- Logs: Parse of the program; head and next of the reference. -/
namespace Go.Proofs.YtnbgieccindpnaaDoor
set_option linter.all false
set_option maxRecDepth 20000
open Go.RowKit
def parS (b : List UInt8) : Lg × Int := if 8192 < b.length then (⟨0, 0, []⟩, 4) else if (scanS b).2.2 ≠ 0 then (⟨0, 0, []⟩, (scanS b).2.2) else ((scanS b).1, 0)
def LParR (w : World) (b : List UInt8) (e : Ending) (w' : World) : Prop := ∃ S m k, e = .returned (.tuple #[.agg #[.int .i64 (parS b).1.active, .int .i64 (parS b).1.resets, .slice S m k], .int .i64 (parS b).2]) ∧ SL Rp.evt w' (fun q => w.heap.size ≤ q) S m k (parS b).1.events ∧ Ext w w'
theorem LParR.no {w w' : World} {b : List UInt8} {z : Int} (h : parS b = (⟨0, 0, []⟩, z)) (hE : Ext w w') : LParR w b (.returned (resV [.agg #[.int .i64 0, .int .i64 0, .slice none 0 0], .int .i64 z])) w' := by
  unfold LParR
  rw [h]
  exact ⟨none, 0, 0, rfl, SL.nil_ _ _ _, hE⟩
theorem par_4 {b : List UInt8} (h : 8192 < b.length) : parS b = (⟨0, 0, []⟩, 4) := by unfold parS; rw [if_pos h]
theorem par_e {b : List UInt8} (h : ¬ 8192 < b.length) (h2 : ¬ (scanS b).2.2 = 0) : parS b = (⟨0, 0, []⟩, (scanS b).2.2) := by unfold parS; rw [if_neg h, if_pos h2]
theorem par_0 {b : List UInt8} (h : ¬ 8192 < b.length) (h2 : (scanS b).2.2 = 0) : parS b = ((scanS b).1, 0) := by unfold parS; rw [if_neg h, if_neg (by simp [h2])]
set_option maxRecDepth 20000 in
set_option maxHeartbeats 2000000 in
theorem parseLP {P : Nat → Prop} (w : World) (A : Option Addr) (n c : Nat) (b : List UInt8) (ha : BV w P A n c b) :
    Calls Tryd.prog 22 #[.slice A n c] w (LParR w b) := by
  have hl := ha.len
  refine calls_enter Tryd.func22 rfl Tryd.ntmps22 rfl ?_
  have hE : Ext w w := Ext.refl w
  refine vs fun K1 hK1 => vR [(0, _)] ?_
  refine Wl.does rfl rfl rfl (Does.alB (.agg #[(.int .i64 0), (.int .i64 0), (.slice none 0 0)]) rfl (by kernel_rfl) rfl) ?_
  rintro _ w0_0 ⟨b2, rfl, hs2, hb2, hx0_0⟩
  have hg2 : w.heap.size ≤ b2 := Nat.le_trans hE.size hs2
  replace hE := hE.trans hx0_0
  refine vA ?_
  refine vn (hK1 _ _ ?_)
  refine Wc.seq (fun K2 hK2 => ?_)
  refine vs fun K3 hK3 => vR [(0, _), (2, _)] ?_
  refine vM ?_
  refine vl (Gives.lenS rfl Tryd.underlying22 rfl) ?_
  refine vl (Gives.gtr rfl rfl rfl) ?_
  refine vn (hK3 _ _ ?_)
  refine Wc.cond _ rfl (fun h9 => ?_) (fun h9 => ?_)
  · first | replace h9 := dT h9 | replace h9 := nT h9 | skip
    refine vs fun K4 hK4 => vR [(2, _)] ?_
    refine vl (Gives.buildS (pl := [(0, 1), (1, 1), (2, 1)]) (zv := (.agg #[(.int .i64 0), (.int .i64 0), (.slice none 0 0)])) rfl Tryd.underlying30 (by kernel_rfl) (by kernel_rfl) rfl rfl) ?_
    refine Wl.acts rfl rfl (Does.stL 3 rfl rfl rfl hb2 (by kernel_rfl) rfl rfl rfl) ?_
    rintro _ w2_1 ⟨hbn, hF2_1⟩
    replace hE := Ext.over hE hF2_1 hg2
    replace hb2 := hbn
    clear hbn
    refine vA ?_
    refine vn (hK4 _ _ ?_)
    refine Wc.ret ?_
    refine Wx.thenR ?_
    refine Wx.ret [_, _] ⟨⟨_, rfl, res_blk hb2 Tryd.underlying30 rfl (by kernel_rfl)⟩, ⟨rfl, trivial⟩⟩ ?_
    first | exact LParR.no (par_4 (by omega)) hE | exact LParR.no (par_e (by omega) h18) hE | (unfold LParR; rw [par_0 (by omega) h18]; exact ⟨S, m, k, rfl, hS.mono fun q hq => by omega, hE⟩)
  first | replace h9 := dF h9 | replace h9 := nF h9 | skip
  refine Wc.skip ?_
  refine Wx.thenN (hK2 _ _ ?_)
  refine vs fun K5 hK5 => vR [(0, _), (2, _)] ?_
  refine vM ?_
  refine Wl.call rfl rfl rfl rfl Tryd.func47 rfl (by kernel_rfl) rfl (scanP _ A n c b (ha.ext hE) (by omega)) ?_
  rintro x1 w31 ⟨S, m, k, rfl, hS, hx31⟩
  refine ⟨_, rfl, ?_⟩
  have hz := hE.size
  have hb2l := hb2.lt
  replace hb2 := hb2.ext hx31
  replace hE := hE.trans hx31
  refine vM ?_
  refine vl (Gives.extract rfl rfl rfl) ?_
  refine vl (Gives.extract rfl rfl rfl) ?_
  refine vl (Gives.extract rfl rfl rfl) ?_
  refine Wl.does rfl rfl rfl (Does.alB (.agg #[(.int .i64 0), (.int .i64 0), (.slice none 0 0)]) rfl (by kernel_rfl) rfl) ?_
  rintro _ w3_6 ⟨b4, rfl, hs4, hb4, hx3_6⟩
  have hn2_4 : b2 ≠ b4 := hb2.ne hs4
  have hg4 : w.heap.size ≤ b4 := Nat.le_trans hE.size hs4
  replace hb2 := hb2.ext hx3_6
  replace hE := hE.trans hx3_6
  refine Wl.acts rfl rfl (Does.stL 3 rfl rfl rfl hb4 (by kernel_rfl) rfl rfl rfl) ?_
  rintro _ w3_7 ⟨hbn, hF3_7⟩
  replace hb2 := hb2.frA hF3_7
  replace hE := Ext.over hE hF3_7 hg4
  replace hb4 := hbn
  clear hbn
  replace hS := (hS.bd.ext hx3_6).fr (hF3_7.mono fun q hq => by omega)
  refine vA ?_
  refine vA ?_
  refine vn (hK5 _ _ ?_)
  refine Wc.seq (fun K6 hK6 => ?_)
  refine vs fun K7 hK7 => vR [(2, _), (4, _), (6, _)] ?_
  refine vM ?_
  refine vl (Gives.neq rfl rfl rfl) ?_
  refine vn (hK7 _ _ ?_)
  refine Wc.cond _ rfl (fun h18 => ?_) (fun h18 => ?_)
  · first | replace h18 := dT h18 | replace h18 := nT h18 | skip
    refine vs fun K8 hK8 => vR [(2, _), (6, _)] ?_
    refine vl (Gives.buildS (pl := [(0, 1), (1, 1), (2, 1)]) (zv := (.agg #[(.int .i64 0), (.int .i64 0), (.slice none 0 0)])) rfl Tryd.underlying30 (by kernel_rfl) (by kernel_rfl) rfl rfl) ?_
    refine vM ?_
    refine Wl.acts rfl rfl (Does.stL 3 rfl rfl rfl hb2 (by kernel_rfl) rfl rfl rfl) ?_
    rintro _ w5_2 ⟨hbn, hF5_2⟩
    replace hb4 := hb4.frA hF5_2
    replace hE := Ext.over hE hF5_2 hg2
    replace hb2 := hbn
    clear hbn
    refine vA ?_
    refine vn (hK8 _ _ ?_)
    refine Wc.ret ?_
    refine Wx.thenR ?_
    refine Wx.ret [_, _] ⟨⟨_, rfl, res_blk hb2 Tryd.underlying30 rfl (by kernel_rfl)⟩, ⟨rfl, trivial⟩⟩ ?_
    first | exact LParR.no (par_4 (by omega)) hE | exact LParR.no (par_e (by omega) h18) hE | (unfold LParR; rw [par_0 (by omega) h18]; exact ⟨S, m, k, rfl, hS.mono fun q hq => by omega, hE⟩)
  first | replace h18 := dF h18 | replace h18 := nF h18 | skip
  refine Wc.skip ?_
  refine Wx.thenN (hK6 _ _ ?_)
  refine vs fun K9 hK9 => vR [(2, _), (4, _)] ?_
  refine vl (Gives.ldW rfl (by kernel_rfl) rfl hb4 (by kernel_rfl)) ?_
  refine Wl.acts rfl rfl (Does.stL 3 rfl rfl rfl hb2 (by kernel_rfl) rfl rfl rfl) ?_
  rintro _ w6_1 ⟨hbn, hF6_1⟩
  replace hb4 := hb4.frA hF6_1
  replace hE := Ext.over hE hF6_1 hg2
  replace hb2 := hbn
  clear hbn
  replace hS := hS.fr (hF6_1.mono fun q hq => by omega)
  refine vA ?_
  refine vn (hK9 _ _ ?_)
  refine Wc.ret ?_
  refine Wx.ret [_, _] ⟨⟨_, rfl, res_blk hb2 Tryd.underlying30 rfl (by kernel_rfl)⟩, ⟨rfl, trivial⟩⟩ ?_
  first | exact LParR.no (par_4 (by omega)) hE | exact LParR.no (par_e (by omega) h18) hE | (unfold LParR; rw [par_0 (by omega) h18]; exact ⟨S, m, k, rfl, hS.mono fun q hq => by omega, hE⟩)
/-! the head, by the reference -/
def hdV (b : List UInt8) : Int × Int := if hOk b then ((lh1 b).2, (lh2 b).2) else (0, 0)
theorem take11 {b : List UInt8} (h : 11 ≤ b.length) {a n : Int} (hr : rngH a n) (h4 : b.take 11 = hdS a n) : hOk b ∧ (lh1 b).2 = a ∧ (lh2 b).2 = n := by
  obtain ⟨h1, h2, h3, _⟩ := head_fwd (b := b) (post := b.drop 11) hr (by rw [← h4, List.take_append_drop])
  exact ⟨h1, h2, h3⟩
theorem head_parts {b : List UInt8} (h : hOk b) : b.take 11 = hdS (lh1 b).2 (lh2 b).2 ∧ (b.drop 4).take 1 = beS (lh1 b).2 1 ∧ (b.drop 5).take 6 = beS (lh2 b).2 6 := by
  have hb := head_bwd h
  have hl := hdS_len h.2.2
  have hy := hdS_y h.2.2
  have hm : magicS.length = 4 := rfl
  refine ⟨?_, ?_, ?_⟩
  · conv => lhs; rw [hb, List.take_left' hl]
  · conv => lhs; rw [hb, hy, List.append_assoc, List.drop_left' hm, List.append_assoc, List.take_left' (beS_len _ _)]
  · conv => lhs; rw [hb, hy, List.append_assoc, show (5 : Nat) = 4 + 1 from rfl, ← List.drop_drop, List.drop_left' hm, List.append_assoc, List.drop_left' (beS_len _ _), List.take_left' (beS_len _ _)]
/-- the reference's test of a head -/
theorem head_test {b : List UInt8} (h : 11 ≤ b.length) {x : UInt8} (hx : b[4]? = some x) : b.take 11 = hdS (x.toNat : Int) (beV ((b.drop 5).take 6) : Nat) ↔ hOk b := by
  constructor
  · intro h4
    have hr : rngH (x.toNat : Int) (beV ((b.drop 5).take 6) : Nat) := by
      rcases Decidable.em (rngH (x.toNat : Int) (beV ((b.drop 5).take 6) : Nat)) with h1 | h1
      · exact h1
      · rw [hdS_n h1] at h4
        have := congrArg List.length h4
        rw [List.length_take, List.length_nil] at this
        omega
    exact (take11 h hr h4).1
  · intro h1
    obtain ⟨p1, p2, p3⟩ := head_parts h1
    obtain ⟨a1, a3, n0, n1⟩ := h1.2.2
    have hx4 : (b.drop 4).take 1 = [x] := by
      obtain ⟨h5, h6⟩ := List.getElem?_eq_some_iff.1 hx
      rw [List.drop_eq_getElem_cons h5, h6]; rfl
    rw [hx4] at p2
    have e1 : (x.toNat : Int) = (lh1 b).2 := by
      have h7 : x = byteAt (lh1 b).2 0 := by
        have h8 : [x] = [byteAt (lh1 b).2 0] := p2
        simpa using h8
      rw [h7]
      exact byte_small ⟨by omega, by omega⟩
    have e2 : ((beV ((b.drop 5).take 6) : Nat) : Int) = (lh2 b).2 := by
      obtain ⟨nn, hnn⟩ := Int.eq_ofNat_of_zero_le n0
      rw [p3, hnn]
      have := beV_beS' nn 6 (by omega)
      rw [this]
      have h256 : (256 : Nat) ^ 6 = 281474976710656 := by decide
      rw [h256, Nat.mod_eq_of_lt (by omega)]
    rw [e1, e2]
    exact p1
theorem head_vals {b : List UInt8} (h : 11 ≤ b.length) {x : UInt8} (hx : b[4]? = some x) (h1 : hOk b) : (x.toNat : Int) = (lh1 b).2 ∧ ((beV ((b.drop 5).take 6) : Nat) : Int) = (lh2 b).2 := by
  have h4 := (head_test h hx).2 h1
  have hr : rngH (x.toNat : Int) (beV ((b.drop 5).take 6) : Nat) := by
    rcases Decidable.em (rngH (x.toNat : Int) (beV ((b.drop 5).take 6) : Nat)) with h5 | h5
    · exact h5
    · rw [hdS_n h5] at h4
      have := congrArg List.length h4
      rw [List.length_take, List.length_nil] at this
      omega
  obtain ⟨_, h2, h3⟩ := take11 h hr h4
  exact ⟨h2.symm, h3.symm⟩
def nextS (b : List UInt8) (at' : Nat) (act : Int) : Ev × Int × Int := match blobOf (b.drop at') with
  | none => (noEv, 0, 2)
  | some (x, _) => if decEvE x = 0 ∧ evE (decEvI x) act = 0 then (decEvI x, ((at' + (2 + x.length) : Nat) : Int), 0) else (noEv, 0, 30)
end Go.Proofs.YtnbgieccindpnaaDoor
/- Logs: head, next and Parse of the reference. -/
namespace Go.Proofs.YtnbgieccindpnaaDoor
set_option linter.all false
set_option maxRecDepth 20000
open Go.RowKit
theorem BV.hd {w : World} {P : Nat → Prop} {A : Option Addr} {n c : Nat} {l : List UInt8} (h : BV w P A n c l) (hn : 0 < n) : ∃ g off, A = some ⟨g, off, none⟩ ∧ g < w.heap.size := by
  obtain ⟨g, off, hA, hg, _⟩ := h.2.2.2 hn
  exact ⟨g, off, hA, hg⟩
theorem cell_go8 {w0 wc wS : World} {b o : Nat} {v : Value} (h : w0.cell? ⟨b, o, none⟩ = some v) (hb : b < w0.heap.size) (hX : Ext w0 wc) (hS : Fr (Old w0.heap.size []) wc wS) : wS.cell? ⟨b, o, none⟩ = some v :=
  (World.cell?_of_block (w := wc) (a := ⟨b, o, none⟩) (hS.block b (Nat.lt_of_lt_of_le hb hX.size) ⟨hb, trivial⟩)).trans ((hX.cells.1 b o hb).trans h)
theorem at_some {l : List UInt8} {k : Nat} (h : k < l.length) : ∃ x, l[k]? = some x := ⟨l[k], List.getElem?_eq_getElem h⟩
def LHeadR (w : World) (b : List UInt8) (e : Ending) (w' : World) : Prop := e = .returned (.tuple #[.agg #[.int .i64 (hdV b).1, .int .i64 (hdV b).2, .slice none 0 0], .bool (decide (hOk b))]) ∧ Ext w w'
theorem LHeadR.no {w w' : World} {b : List UInt8} (h : ¬ hOk b) (hE : Ext w w') : LHeadR w b (.returned (resV [.agg #[.int .i64 0, .int .i64 0, .slice none 0 0], .bool false])) w' := by
  have e : hdV b = (0, 0) := by unfold hdV; rw [if_neg h]
  unfold LHeadR
  rw [e, decide_eq_false h]
  exact ⟨rfl, hE⟩
theorem LHeadR.yes {w w' : World} {b : List UInt8} {a n : Int} (h : hOk b) (ha : a = (lh1 b).2) (hn : n = (lh2 b).2) (hE : Ext w w') : LHeadR w b (.returned (resV [.agg #[.int .i64 a, .int .i64 n, .slice none 0 0], .bool true])) w' := by
  have e : hdV b = ((lh1 b).2, (lh2 b).2) := by unfold hdV; rw [if_pos h]
  unfold LHeadR
  rw [e, decide_eq_true h, ha, hn]
  exact ⟨rfl, hE⟩
theorem beV_six (b : List UInt8) (i : Nat) (hi : i ≤ 6) : beV ((b.drop 5).take i) < 281474976710656 := by
  have h1 := beV_lt ((b.drop 5).take i)
  have h2 : ((b.drop 5).take i).length ≤ 6 := by rw [List.length_take]; omega
  have h3 : 256 ^ ((b.drop 5).take i).length ≤ 256 ^ 6 := Nat.pow_le_pow_right (by omega) h2
  have h4 : (256 : Nat) ^ 6 = 281474976710656 := by decide
  omega
set_option maxRecDepth 20000 in
set_option maxHeartbeats 2000000 in
theorem headLR {P : Nat → Prop} (w : World) (A : Option Addr) (n c : Nat) (b : List UInt8) (ha : BV w P A n c b) :
    Calls Tryd.prog 51 #[.slice A n c] w (LHeadR w b) := by
  have hl := ha.len
  have hle := ha.le
  refine calls_enter Tryd.func51 rfl Tryd.ntmps51 rfl ?_
  have hE : Ext w w := Ext.refl w
  refine vs fun K1 hK1 => vR [(0, _)] ?_
  refine Wl.does rfl rfl rfl (Does.alB (.agg #[(.int .i64 0), (.int .i64 0), (.slice none 0 0)]) rfl (by kernel_rfl) rfl) ?_
  rintro _ w0_0 ⟨b2, rfl, hs2, hb2, hx0_0⟩
  have hg2 : w.heap.size ≤ b2 := Nat.le_trans hE.size hs2
  replace hE := hE.trans hx0_0
  refine vA ?_
  refine vn (hK1 _ _ ?_)
  refine Wc.seq (fun K2 hK2 => ?_)
  refine vs fun K3 hK3 => vR [(0, _), (2, _)] ?_
  refine vM ?_
  refine vl (Gives.lenS rfl Tryd.underlying22 rfl) ?_
  refine vl (Gives.lss rfl rfl rfl) ?_
  refine vn (hK3 _ _ ?_)
  refine Wc.cond _ rfl (fun h8 => ?_) (fun h8 => ?_)
  · first | replace h8 := dT h8 | replace h8 := nT h8 | skip
    refine vs fun K4 hK4 => vR [(2, _)] ?_
    refine vl (Gives.buildS (pl := [(0, 1), (1, 1), (2, 1)]) (zv := (.agg #[(.int .i64 0), (.int .i64 0), (.slice none 0 0)])) rfl Tryd.underlying30 (by kernel_rfl) (by kernel_rfl) rfl rfl) ?_
    refine Wl.acts rfl rfl (Does.stL 3 rfl rfl rfl hb2 (by kernel_rfl) rfl rfl rfl) ?_
    rintro _ w2_1 ⟨hbn, hF2_1⟩
    replace hE := Ext.over hE hF2_1 hg2
    replace hb2 := hbn
    clear hbn
    refine vA ?_
    refine vn (hK4 _ _ ?_)
    refine Wc.ret ?_
    refine Wx.thenR ?_
    refine Wx.ret [_, _] ⟨⟨_, rfl, res_blk hb2 Tryd.underlying30 rfl (by kernel_rfl)⟩, ⟨rfl, trivial⟩⟩ ?_
    first | exact LHeadR.no (fun h => by have := (head_drop h).2; omega) hE | exact LHeadR.no (fun h => by have h5 := (head_test hnl hx).2 h; simp [h5] at h31) hE | (have hok : hOk b := (head_test hnl hx).1 (by simpa using h31); exact LHeadR.yes hok (head_vals hnl hx hok).1 (head_vals hnl hx hok).2 hE)
  first | replace h8 := dF h8 | replace h8 := nF h8 | skip
  refine Wc.skip ?_
  refine Wx.thenN (hK2 _ _ ?_)
  refine vs fun K5 hK5 => vK [(0, _), (2, _)] ?_
  have hnl : 11 ≤ b.length := by omega
  obtain ⟨gA, oA, rfl, hgA⟩ := ha.hd (by omega)
  refine Wc.region ?_
  refine vA ?_
  refine vn (hK5 _ _ ?_)
  refine Wc.seq (fun K6 hK6 => ?_)
  refine vs fun K7 hK7 => vR [(0, _), (2, _), (4, _)] ?_
  refine vA ?_
  refine vn (hK7 _ _ ?_)
  refine Wc.block ?_
  refine vK [(0, _), (2, _), (4, _), (5, _)] ?_
  refine Wc.loopC (ι := Nat) [(0, _), (2, _)] (fun i => [(5, .int .i64 (5 + (i : Int))), (4, .int .i64 ((beV ((b.drop 5).take i) : Nat) : Int))]) (fun i wr => i ≤ 6 ∧ Blk wr b2 30 #[.int .i64 0, .int .i64 0, .slice none 0 0] ∧ Ext w wr) (fun i => 6 - i) (0) (.co (.co (.cons rfl (.cons rfl (.nil))))) (⟨by omega, hb2, hE⟩) ?_
  intro i wr hJ KL1 hKL1
  clear hE hb2
  obtain ⟨hi, hb2, hE⟩ := hJ
  have hv6 := beV_six b i hi
  refine Wc.seq (fun K8 hK8 => ?_)
  refine vs fun K9 hK9 => vR [(0, _), (2, _), (4, _), (5, _)] ?_
  refine vM ?_
  refine vl (Gives.lss rfl rfl rfl) ?_
  refine vn (hK9 _ _ ?_)
  refine Wc.cond _ rfl (fun h11 => ?_) (fun h11 => ?_)
  · first | replace h11 := dT h11 | replace h11 := nT h11 | skip
    refine Wc.skip ?_
    refine Wx.thenN (hK8 _ _ ?_)
    refine Wc.seq (fun K10 hK10 => ?_)
    refine Wc.block ?_
    refine vK [(0, _), (2, _), (4, _), (5, _)] ?_
    obtain ⟨x, hx⟩ := at_some (l := b) (k := 5 + i) (by omega)
    have hx255 := x.toNat_lt
    have hstep : beV ((b.drop 5).take (i + 1)) = beV ((b.drop 5).take i) * 256 + x.toNat := by
      rw [beV_take _ _ (by rw [List.length_drop]; omega)]
      have : (b.drop 5)[i]'(by rw [List.length_drop]; omega) = x := by
        rw [List.getElem_drop]
        exact (List.getElem?_eq_some_iff.1 hx).2
      rw [this]
    refine Wc.region ?_
    refine vM ?_
    refine vl (Gives.mul rfl rfl rfl (by first | exact IntWalk.i64_in _ (by omega) | exact u64_in _ (by omega) | exact u32_in _ (by omega) | exact u8_in _ (by omega) | exact rfl)) ?_
    refine vM ?_
    refine vM ?_
    refine vl (Gives.ixS (i := (5 + i)) rfl Tryd.underlying22 (by kernel_rfl) rfl rfl (by omega) (by omega)) ?_
    refine vl (Gives.ldC rfl (by kernel_rfl) rfl ((ha.ext hE).cellAt hx)) ?_
    refine vl (Gives.conv rfl Tryd.underlying5 Tryd.underlying3 rfl (by first | exact IntWalk.i64_in _ (by omega) | exact u64_in _ (by omega) | exact u32_in _ (by omega) | exact u8_in _ (by omega) | exact rfl)) ?_
    refine vAdd ?_
    refine vA ?_
    refine Wl.nil ?_
    refine Wx.blockN ?_
    refine Wx.thenN (hK10 _ _ ?_)
    refine vR [(0, _), (2, _), (4, _), (5, _)] ?_
    refine vM ?_
    refine vAdd ?_
    refine vA ?_
    refine Wl.nil ?_
    refine Wx.thenN ?_
    refine hKL1 (i + 1) _ _ (.co (.co (.cons rfl (.cons rfl (.nil))))) ⟨by omega, hb2, hE⟩ (by show 6 - (i + 1) < 6 - i; omega)
  first | replace h11 := dF h11 | replace h11 := nF h11 | skip
  refine Wc.exit ?_
  refine Wx.thenE ?_
  refine Wx.thenE ?_
  refine Wx.hit ?_
  refine Wx.thenN (hK6 _ _ ?_)
  refine Wc.seq (fun K11 hK11 => ?_)
  refine vs fun K12 hK12 => vK [(0, _), (2, _), (4, _)] ?_
  obtain rfl : i = 6 := by omega
  obtain ⟨x, hx⟩ := at_some (l := b) (k := 4) (by omega)
  have hx255 := x.toNat_lt
  refine Wc.regionB (fun q => [4, 7].contains q) [] (.read 0 (.read 1 (.read 2 (.read 3 (.read 4 (.read 5 (.read 6 (.call true 7 .tail .none)))))))) 8 (by kernel_rfl) (by kernel_rfl) (by kernel_rfl) ?_
  intro w8 hR8
  replace hb2 := hb2.ext hR8.ext
  replace hE := hE.trans hR8.ext
  have hO8_2 : Old w8.heap.size [] b2 := ⟨hb2.lt, trivial⟩
  have hX := Ext.refl w8
  have haq := ha.ext hE
  refine RunE.read rfl rfl rfl rfl (fun wS _ => (Gives.move rfl rfl)) ?_
  refine RunE.read rfl rfl rfl rfl (fun wS _ => (Gives.cutHi rfl Tryd.underlying22 (by kernel_rfl) rfl 11 rfl rfl (by omega))) ?_
  refine RunE.read rfl rfl rfl rfl (fun wS _ => (Gives.move rfl rfl)) ?_
  refine RunE.read rfl rfl rfl rfl (fun wS _ => (Gives.ixS (i := 4) rfl Tryd.underlying22 (by kernel_rfl) rfl rfl (by omega) (by omega))) ?_
  refine RunE.readM rfl rfl rfl rfl rfl (fun wS hS => (Gives.ldC rfl (by kernel_rfl) rfl ((cell_go8 (haq.cellAt hx) (Nat.lt_of_lt_of_le hgA hE.size) hX hS)))) ?_
  refine RunE.read rfl rfl rfl rfl (fun wS _ => (Gives.conv rfl Tryd.underlying5 Tryd.underlying3 rfl (by first | exact IntWalk.i64_in _ (by omega) | exact u64_in _ (by omega) | exact u32_in _ (by omega) | exact u8_in _ (by omega) | exact rfl))) ?_
  refine RunE.read rfl rfl rfl rfl (fun wS _ => (Gives.move rfl rfl)) ?_
  refine RunE.freeC rfl rfl rfl rfl rfl Tryd.func24 rfl (by kernel_rfl) rfl (headR _ (x.toNat : Int) ((beV ((b.drop 5).take 6) : Nat) : Int)) ?_ RunE.none
  rintro x1 w87 ⟨Sh, mh, kh, rfl, hOh, hx87⟩
  refine ⟨_, rfl, ?_⟩
  replace hX := hX.trans hx87
  refine RunE.tail rfl ?_
  replace hb2 := hb2.ext hX
  replace hE := hE.trans hX
  refine Wl.call rfl rfl rfl rfl Tryd.func18 rfl (by kernel_rfl) rfl (same_calls _ _ _ _ _ _ _ _ _ ((ha.take (k := 11) (by omega)).ext hE) (hOh.bv (P := fun _ => True) fun _ _ => trivial)) ?_
  rintro x2 w88 ⟨rfl, hq88⟩
  refine ⟨_, rfl, ?_⟩
  replace hb2 := hb2.ext hq88.ext
  replace hE := hE.trans hq88.ext
  refine vl (Gives.not rfl rfl) ?_
  refine vn (hK12 _ _ ?_)
  refine Wc.cond _ rfl (fun h31 => ?_) (fun h31 => ?_)
  · first | replace h31 := dT h31 | replace h31 := nT h31 | skip
    refine vs fun K13 hK13 => vR [(2, _)] ?_
    refine vl (Gives.buildS (pl := [(0, 1), (1, 1), (2, 1)]) (zv := (.agg #[(.int .i64 0), (.int .i64 0), (.slice none 0 0)])) rfl Tryd.underlying30 (by kernel_rfl) (by kernel_rfl) rfl rfl) ?_
    refine Wl.acts rfl rfl (Does.stL 3 rfl rfl rfl hb2 (by kernel_rfl) rfl rfl rfl) ?_
    rintro _ w9_1 ⟨hbn, hF9_1⟩
    replace hE := Ext.over hE hF9_1 hg2
    replace hb2 := hbn
    clear hbn
    refine vA ?_
    refine vn (hK13 _ _ ?_)
    refine Wc.ret ?_
    refine Wx.thenR ?_
    refine Wx.ret [_, _] ⟨⟨_, rfl, res_blk hb2 Tryd.underlying30 rfl (by kernel_rfl)⟩, ⟨rfl, trivial⟩⟩ ?_
    first | exact LHeadR.no (fun h => by have := (head_drop h).2; omega) hE | exact LHeadR.no (fun h => by have h5 := (head_test hnl hx).2 h; simp [h5] at h31) hE | (have hok : hOk b := (head_test hnl hx).1 (by simpa using h31); exact LHeadR.yes hok (head_vals hnl hx hok).1 (head_vals hnl hx hok).2 hE)
  first | replace h31 := dF h31 | replace h31 := nF h31 | skip
  refine Wc.skip ?_
  refine Wx.thenN (hK11 _ _ ?_)
  refine vs fun K14 hK14 => vR [(0, _), (2, _), (4, _)] ?_
  refine vM ?_
  refine vl (Gives.ixS (i := 4) rfl Tryd.underlying22 (by kernel_rfl) rfl rfl (by omega) (by omega)) ?_
  refine vl (Gives.ldC rfl (by kernel_rfl) rfl ((ha.ext hE).cellAt hx)) ?_
  refine vl (Gives.conv rfl Tryd.underlying5 Tryd.underlying3 rfl (by first | exact IntWalk.i64_in _ (by omega) | exact u64_in _ (by omega) | exact u32_in _ (by omega) | exact u8_in _ (by omega) | exact rfl)) ?_
  refine vM ?_
  refine vl (Gives.buildS (pl := [(0, 1), (1, 1), (2, 1)]) (zv := (.agg #[(.int .i64 0), (.int .i64 0), (.slice none 0 0)])) rfl Tryd.underlying30 (by kernel_rfl) (by kernel_rfl) rfl rfl) ?_
  refine Wl.acts rfl rfl (Does.stL 3 rfl rfl rfl hb2 (by kernel_rfl) rfl rfl rfl) ?_
  rintro _ w10_6 ⟨hbn, hF10_6⟩
  replace hE := Ext.over hE hF10_6 hg2
  replace hb2 := hbn
  clear hbn
  refine vA ?_
  refine vn (hK14 _ _ ?_)
  refine Wc.ret ?_
  refine Wx.ret [_, _] ⟨⟨_, rfl, res_blk hb2 Tryd.underlying30 rfl (by kernel_rfl)⟩, ⟨rfl, trivial⟩⟩ ?_
  first | exact LHeadR.no (fun h => by have := (head_drop h).2; omega) hE | exact LHeadR.no (fun h => by have h5 := (head_test hnl hx).2 h; simp [h5] at h31) hE | (have hok : hOk b := (head_test hnl hx).1 (by simpa using h31); exact LHeadR.yes hok (head_vals hnl hx hok).1 (head_vals hnl hx hok).2 hE)
end Go.Proofs.YtnbgieccindpnaaDoor
/- Logs: next and Parse of the reference. -/
namespace Go.Proofs.YtnbgieccindpnaaDoor
set_option linter.all false
set_option maxRecDepth 20000
open Go.RowKit
theorem blob_no1 {b : List UInt8} {k : Nat} (h : b.length - k < 2) : blobOf (b.drop k) = none := by unfold blobOf; rw [if_pos (by rw [List.length_drop]; exact h)]
theorem blob_no2 {b : List UInt8} {k : Nat} (h : b.length - k < 2 + beV ((b.drop k).take 2)) : blobOf (b.drop k) = none := by
  unfold blobOf
  split
  · rfl
  · rw [if_pos (by rw [List.length_drop]; exact h)]
theorem blob_yes {b : List UInt8} {k : Nat} (h : 2 + beV ((b.drop k).take 2) ≤ b.length - k) : blobOf (b.drop k) = some ((b.drop (k + 2)).take (beV ((b.drop k).take 2)), b.drop (k + (2 + beV ((b.drop k).take 2)))) := by
  unfold blobOf
  rw [if_neg (by rw [List.length_drop]; omega), if_neg (by rw [List.length_drop]; omega), List.drop_drop, List.drop_drop]
theorem next_none {b : List UInt8} {k : Nat} {act : Int} (h : blobOf (b.drop k) = none) : nextS b k act = (noEv, 0, 2) := by unfold nextS; rw [h]
theorem next_30 {b x rs : List UInt8} {k : Nat} {act : Int} (h : blobOf (b.drop k) = some (x, rs)) (h2 : ¬ (decEvE x = 0 ∧ evE (decEvI x) act = 0)) : nextS b k act = (noEv, 0, 30) := by unfold nextS; rw [h]; simp only []; rw [if_neg h2]
theorem next_0 {b x rs : List UInt8} {k : Nat} {act : Int} (h : blobOf (b.drop k) = some (x, rs)) (h2 : decEvE x = 0 ∧ evE (decEvI x) act = 0) : nextS b k act = (decEvI x, ((k + (2 + x.length) : Nat) : Int), 0) := by unfold nextS; rw [h]; simp only []; rw [if_pos h2]
theorem two_beV {b : List UInt8} {k : Nat} {x y : UInt8} (hx : b[k]? = some x) (hy : b[k + 1]? = some y) : beV ((b.drop k).take 2) = x.toNat * 256 + y.toNat := by
  obtain ⟨h1, h2⟩ := List.getElem?_eq_some_iff.1 hx
  obtain ⟨h3, h4⟩ := List.getElem?_eq_some_iff.1 hy
  rw [List.drop_eq_getElem_cons h1, List.drop_eq_getElem_cons h3, h2, h4]
  simp [beV]
def LNextR (w : World) (b : List UInt8) (k : Nat) (act : Int) (e : Ending) (w' : World) : Prop := ∃ D dn dc S m d, e = .returned (.tuple #[.agg #[.int .i64 (nextS b k act).1.reg, .int .i64 (nextS b k act).1.kind, .slice D dn dc, .slice S m d], .int .i64 (nextS b k act).2.1, .int .i64 (nextS b k act).2.2]) ∧ BL w' (fun q => w.heap.size ≤ q) D dn dc (nextS b k act).1.ds ∧ BV w' (fun q => w.heap.size ≤ q) S m d (nextS b k act).1.pay ∧ Ext w w'
theorem LNextR.no {w w' : World} {b : List UInt8} {k : Nat} {act z : Int} (h : nextS b k act = (noEv, 0, z)) (hE : Ext w w') : LNextR w b k act (.returned (resV [.agg #[.int .i64 0, .int .i64 0, .slice none 0 0, .slice none 0 0], .int .i64 0, .int .i64 z])) w' := by
  unfold LNextR
  rw [h]
  exact ⟨none, 0, 0, none, 0, 0, rfl, bl_of (SL.nil_ _ _ _), BV.nil_ _ _, hE⟩
set_option maxRecDepth 20000 in
set_option maxHeartbeats 2000000 in
theorem nextLR {P : Nat → Prop} (w : World) (A : Option Addr) (n c : Nat) (b : List UInt8) (ha : BV w P A n c b) (hn : n ≤ 1000000) (k : Nat) (hk : k ≤ n) (act : Int) :
    Calls Tryd.prog 52 #[.slice A n c, .int .i64 (k : Int), .int .i64 act] w (LNextR w b k act) := by
  have hl := ha.len
  have hle := ha.le
  refine calls_enter Tryd.func52 rfl Tryd.ntmps52 rfl ?_
  have hE : Ext w w := Ext.refl w
  refine vs fun K1 hK1 => vR [(0, _), (1, _), (2, _)] ?_
  refine Wl.does rfl rfl rfl (Does.alB (.agg #[(.int .i64 0), (.int .i64 0), (.slice none 0 0), (.slice none 0 0)]) rfl (by kernel_rfl) rfl) ?_
  rintro _ w0_0 ⟨b6, rfl, hs6, hb6, hx0_0⟩
  have hg6 : w.heap.size ≤ b6 := Nat.le_trans hE.size hs6
  replace hE := hE.trans hx0_0
  refine vA ?_
  refine vA ?_
  refine vn (hK1 _ _ ?_)
  refine Wc.seq (fun K2 hK2 => ?_)
  refine vs fun K3 hK3 => vR [(0, _), (1, _), (2, _), (6, _)] ?_
  refine vM ?_
  refine vl (Gives.lenS rfl Tryd.underlying22 rfl) ?_
  refine vM ?_
  refine vSub ?_
  refine vl (Gives.lss rfl rfl rfl) ?_
  refine vn (hK3 _ _ ?_)
  refine Wc.cond _ rfl (fun h16 => ?_) (fun h16 => ?_)
  · first | replace h16 := dT h16 | replace h16 := nT h16 | skip
    refine vs fun K4 hK4 => vR [(6, _)] ?_
    refine vl (Gives.buildS (pl := [(0, 1), (1, 1), (2, 1), (3, 1)]) (zv := (.agg #[(.int .i64 0), (.int .i64 0), (.slice none 0 0), (.slice none 0 0)])) rfl Tryd.underlying34 (by kernel_rfl) (by kernel_rfl) rfl rfl) ?_
    refine Wl.acts rfl rfl (Does.stL 4 rfl rfl rfl hb6 (by kernel_rfl) rfl rfl rfl) ?_
    rintro _ w2_1 ⟨hbn, hF2_1⟩
    replace hE := Ext.over hE hF2_1 hg6
    replace hb6 := hbn
    clear hbn
    refine vA ?_
    refine vA ?_
    refine vn (hK4 _ _ ?_)
    refine Wc.ret ?_
    refine Wx.thenR ?_
    refine Wx.ret [_, _, _] ⟨⟨_, rfl, res_blk hb6 Tryd.underlying34 rfl (by kernel_rfl)⟩, ⟨rfl, ⟨rfl, trivial⟩⟩⟩ ?_
    first | exact LNextR.no (next_none (blob_no1 (by omega))) hE | exact LNextR.no (next_none (blob_no2 (by omega))) hE | exact LNextR.no (next_30 hyes (fun hh => by first | exact h53 hh.1 | exact h58 hh.2)) hE | (unfold LNextR; rw [next_0 hyes ⟨h53, h58⟩]; exact ⟨D, dn, dc, S4, m4, k4, by { have e : ((k + (2 + xx.length) : Nat) : Int) = (k : Int) + 2 + q := (by omega); rw [e]; first | rfl | (simp [resV]; omega) }, hD.mono fun q hq => by omega, hP.mono fun q hq => by omega, hE⟩)
  first | replace h16 := dF h16 | replace h16 := nF h16 | skip
  refine Wc.skip ?_
  refine Wx.thenN (hK2 _ _ ?_)
  refine vs fun K5 hK5 => vK [(0, _), (1, _), (2, _), (6, _)] ?_
  refine Wc.regionD (fun _ => true) Eq (.read 0 (.read 1 (.read 2 (.read 3 (.read 4 (.read 5 (.read 6 (.read 7 (.read 8 (.read 9 (.read 10 (.read 11 .tail)))))))))))) 12 (by kernel_rfl) (by kernel_rfl) (by kernel_rfl) (fun _ => rfl) (fun _ _ _ h k => h.trans k) Quiet ⟨1, rfl⟩ ?_
  intro w3 hR3
  replace hb6 := hb6.ext hR3.ext
  replace hE := hE.trans hR3.ext
  obtain ⟨gA, oA, rfl, hgA⟩ := ha.hd (by omega)
  obtain ⟨x, hx⟩ := at_some (l := b) (k := k) (by omega)
  obtain ⟨y, hy⟩ := at_some (l := b) (k := k + 1) (by omega)
  have hx255 := x.toNat_lt
  have hy255 := y.toNat_lt
  have h2v := two_beV hx hy
  have haq := ha.ext hE
  refine rE rfl (Gives.move rfl rfl) ?_
  refine rE rfl (Gives.move rfl rfl) ?_
  refine rE rfl (Gives.ixS (i := k) rfl Tryd.underlying22 (by kernel_rfl) rfl rfl (by omega) (by omega)) ?_
  refine rE rfl (Gives.ldC rfl (by kernel_rfl) rfl (haq.cellAt hx)) ?_
  refine rE rfl (Gives.conv rfl Tryd.underlying5 Tryd.underlying3 rfl (by first | exact IntWalk.i64_in _ (by omega) | exact u64_in _ (by omega) | exact u32_in _ (by omega) | exact u8_in _ (by omega) | exact rfl)) ?_
  refine rE rfl (Gives.mul rfl rfl rfl (by first | exact IntWalk.i64_in _ (by omega) | exact u64_in _ (by omega) | exact u32_in _ (by omega) | exact u8_in _ (by omega) | exact rfl)) ?_
  refine rE rfl (Gives.move rfl rfl) ?_
  refine rE rfl (Gives.move rfl rfl) ?_
  refine rE rfl (gAdd rfl rfl rfl) ?_
  refine rE rfl (Gives.ixS (i := (k + 1)) rfl Tryd.underlying22 (by kernel_rfl) rfl rfl (by omega) (by omega)) ?_
  refine rE rfl (Gives.ldC rfl (by kernel_rfl) rfl (haq.cellAt hy)) ?_
  refine rE rfl (Gives.conv rfl Tryd.underlying5 Tryd.underlying3 rfl (by first | exact IntWalk.i64_in _ (by omega) | exact u64_in _ (by omega) | exact u32_in _ (by omega) | exact u8_in _ (by omega) | exact rfl)) ?_
  refine RunE.tail rfl ?_
  refine vAdd ?_
  refine vA ?_
  refine vn (hK5 _ _ ?_)
  refine Wc.seq (fun K6 hK6 => ?_)
  refine vs fun K7 hK7 => vR [(0, _), (1, _), (2, _), (6, _), (9, _)] ?_
  refine vM ?_
  refine vl (Gives.lenS rfl Tryd.underlying22 rfl) ?_
  refine vM ?_
  refine vSub ?_
  refine vSub ?_
  refine vM ?_
  refine vl (Gives.lss rfl rfl rfl) ?_
  refine vn (hK7 _ _ ?_)
  refine Wc.cond _ rfl (fun h37 => ?_) (fun h37 => ?_)
  · first | replace h37 := dT h37 | replace h37 := nT h37 | skip
    refine vs fun K8 hK8 => vR [(6, _)] ?_
    refine vl (Gives.buildS (pl := [(0, 1), (1, 1), (2, 1), (3, 1)]) (zv := (.agg #[(.int .i64 0), (.int .i64 0), (.slice none 0 0), (.slice none 0 0)])) rfl Tryd.underlying34 (by kernel_rfl) (by kernel_rfl) rfl rfl) ?_
    refine Wl.acts rfl rfl (Does.stL 4 rfl rfl rfl hb6 (by kernel_rfl) rfl rfl rfl) ?_
    rintro _ w5_1 ⟨hbn, hF5_1⟩
    replace hE := Ext.over hE hF5_1 hg6
    replace hb6 := hbn
    clear hbn
    refine vA ?_
    refine vA ?_
    refine vn (hK8 _ _ ?_)
    refine Wc.ret ?_
    refine Wx.thenR ?_
    refine Wx.ret [_, _, _] ⟨⟨_, rfl, res_blk hb6 Tryd.underlying34 rfl (by kernel_rfl)⟩, ⟨rfl, ⟨rfl, trivial⟩⟩⟩ ?_
    first | exact LNextR.no (next_none (blob_no1 (by omega))) hE | exact LNextR.no (next_none (blob_no2 (by omega))) hE | exact LNextR.no (next_30 hyes (fun hh => by first | exact h53 hh.1 | exact h58 hh.2)) hE | (unfold LNextR; rw [next_0 hyes ⟨h53, h58⟩]; exact ⟨D, dn, dc, S4, m4, k4, by { have e : ((k + (2 + xx.length) : Nat) : Int) = (k : Int) + 2 + q := (by omega); rw [e]; first | rfl | (simp [resV]; omega) }, hD.mono fun q hq => by omega, hP.mono fun q hq => by omega, hE⟩)
  first | replace h37 := dF h37 | replace h37 := nF h37 | skip
  refine Wc.skip ?_
  refine Wx.thenN (hK6 _ _ ?_)
  refine vs fun K9 hK9 => vK [(0, _), (1, _), (2, _), (6, _), (9, _)] ?_
  obtain ⟨q, hq⟩ : ∃ q, beV ((b.drop k).take 2) = q := ⟨_, rfl⟩
  have hyes := blob_yes (b := b) (k := k) (by omega)
  have hcut := ((ha.cut (k := k + 2) (by omega)).take (k := q) (by omega))
  have hxl : ((b.drop (k + 2)).take q).length = q := by rw [List.length_take, List.length_drop]; omega
  rw [hq] at hyes
  generalize (b.drop (k + 2)).take q = xx at *
  refine Wc.region ?_
  refine vM ?_
  refine vM ?_
  refine vAdd ?_
  refine vM ?_
  refine vAdd ?_
  refine vM ?_
  refine vAdd ?_
  refine vl (Gives.cut rfl Tryd.underlying22 (by kernel_rfl) rfl (k + 2) q rfl (by omega) rfl (by omega) (by omega)) ?_
  refine Wl.call rfl rfl rfl rfl Tryd.func74 rfl (by kernel_rfl) rfl (evDecR _ _ q _ xx (hcut.ext hE) (by omega)) ?_
  rintro x1 w68 ⟨D, dn, dc, S4, m4, k4, rfl, hD, hP, hx68⟩
  refine ⟨_, rfl, ?_⟩
  have hzE := hE.size
  have hb6l := hb6.lt
  replace hb6 := hb6.ext hx68
  replace hE := hE.trans hx68
  refine vM ?_
  refine vl (Gives.extract rfl rfl rfl) ?_
  refine vl (Gives.extract rfl rfl rfl) ?_
  refine Wl.does rfl rfl rfl (Does.alB (.agg #[(.int .i64 0), (.int .i64 0), (.slice none 0 0), (.slice none 0 0)]) rfl (by kernel_rfl) rfl) ?_
  rintro _ w6_12 ⟨b10, rfl, hs10, hb10, hx6_12⟩
  have hn6_10 : b6 ≠ b10 := hb6.ne hs10
  have hg10 : w.heap.size ≤ b10 := Nat.le_trans hE.size hs10
  replace hb6 := hb6.ext hx6_12
  replace hE := hE.trans hx6_12
  refine Wl.acts rfl rfl (Does.stL 4 rfl rfl rfl hb10 (by kernel_rfl) rfl rfl rfl) ?_
  rintro _ w6_13 ⟨hbn, hF6_13⟩
  replace hb6 := hb6.frA hF6_13
  replace hE := Ext.over hE hF6_13 hg10
  replace hb10 := hbn
  clear hbn
  have hx6 := Ext.over hx6_12 hF6_13 hs10
  replace hD := hD.ext hx6
  replace hP := hP.ext hx6
  refine vA ?_
  refine vn (hK9 _ _ ?_)
  refine Wc.seq (fun K10 hK10 => ?_)
  refine vs fun K11 hK11 => vR [(1, _), (2, _), (6, _), (9, _), (10, _), (11, _)] ?_
  refine vM ?_
  refine vl (Gives.neq rfl rfl rfl) ?_
  refine vM ?_
  refine Wl.guard rfl rfl rfl (fun h53 => ?_) (fun h53 => ?_)
  · first | replace h53 := dF h53 | replace h53 := nF h53 | skip
    refine vl (Gives.ldW rfl (by kernel_rfl) rfl hb10 (by kernel_rfl)) ?_
    refine vM ?_
    refine Wl.call rfl rfl rfl rfl Tryd.func50 rfl (by kernel_rfl) rfl (evCheckR _ _ _ D dn dc _ S4 m4 k4 _ hD hP act) ?_
    rintro x2 w75 ⟨rfl, hx75⟩
    refine ⟨_, rfl, ?_⟩
    replace hD := hD.ext hx75
    replace hP := hP.ext hx75
    replace hb6 := hb6.ext hx75
    replace hb10 := hb10.ext hx75
    replace hE := hE.trans hx75
    refine vl (Gives.neq rfl rfl rfl) ?_
    refine vU ?_
    refine vn (hK11 _ _ ?_)
    refine Wc.cond _ rfl (fun h58 => ?_) (fun h58 => ?_)
    · first | replace h58 := dT h58 | replace h58 := nT h58 | skip
      refine vs fun K12 hK12 => vR [(6, _)] ?_
      refine vl (Gives.buildS (pl := [(0, 1), (1, 1), (2, 1), (3, 1)]) (zv := (.agg #[(.int .i64 0), (.int .i64 0), (.slice none 0 0), (.slice none 0 0)])) rfl Tryd.underlying34 (by kernel_rfl) (by kernel_rfl) rfl rfl) ?_
      refine Wl.acts rfl rfl (Does.stL 4 rfl rfl rfl hb6 (by kernel_rfl) rfl rfl rfl) ?_
      rintro _ w8_1 ⟨hbn, hF8_1⟩
      replace hb10 := hb10.frA hF8_1
      replace hE := Ext.over hE hF8_1 hg6
      replace hb6 := hbn
      clear hbn
      refine vA ?_
      refine vA ?_
      refine vn (hK12 _ _ ?_)
      refine Wc.ret ?_
      refine Wx.thenR ?_
      refine Wx.ret [_, _, _] ⟨⟨_, rfl, res_blk hb6 Tryd.underlying34 rfl (by kernel_rfl)⟩, ⟨rfl, ⟨rfl, trivial⟩⟩⟩ ?_
      first | exact LNextR.no (next_none (blob_no1 (by omega))) hE | exact LNextR.no (next_none (blob_no2 (by omega))) hE | exact LNextR.no (next_30 hyes (fun hh => by first | exact h53 hh.1 | exact h58 hh.2)) hE | (unfold LNextR; rw [next_0 hyes ⟨h53, h58⟩]; exact ⟨D, dn, dc, S4, m4, k4, by { have e : ((k + (2 + xx.length) : Nat) : Int) = (k : Int) + 2 + q := (by omega); rw [e]; first | rfl | (simp [resV]; omega) }, hD.mono fun q hq => by omega, hP.mono fun q hq => by omega, hE⟩)
    first | replace h58 := dF h58 | replace h58 := nF h58 | skip
    refine Wc.skip ?_
    refine Wx.thenN (hK10 _ _ ?_)
    refine vs fun K13 hK13 => vR [(1, _), (6, _), (9, _), (10, _)] ?_
    refine vl (Gives.ldW rfl (by kernel_rfl) rfl hb10 (by kernel_rfl)) ?_
    refine vM ?_
    refine vAdd ?_
    refine vM ?_
    refine vAdd ?_
    refine Wl.acts rfl rfl (Does.stL 4 rfl rfl rfl hb6 (by kernel_rfl) rfl rfl rfl) ?_
    rintro _ w9_5 ⟨hbn, hF9_5⟩
    replace hb10 := hb10.frA hF9_5
    replace hE := Ext.over hE hF9_5 hg6
    replace hb6 := hbn
    clear hbn
    replace hD := (hD.fr (hF9_5.mono fun q hq => by omega))
    replace hP := (hP.fr (hF9_5.mono fun q hq => by omega))
    refine vA ?_
    refine vA ?_
    refine vn (hK13 _ _ ?_)
    refine Wc.ret ?_
    refine Wx.ret [_, _, _] ⟨⟨_, rfl, res_blk hb6 Tryd.underlying34 rfl (by kernel_rfl)⟩, ⟨rfl, ⟨rfl, trivial⟩⟩⟩ ?_
    first | exact LNextR.no (next_none (blob_no1 (by omega))) hE | exact LNextR.no (next_none (blob_no2 (by omega))) hE | exact LNextR.no (next_30 hyes (fun hh => by first | exact h53 hh.1 | exact h58 hh.2)) hE | (unfold LNextR; rw [next_0 hyes ⟨h53, h58⟩]; exact ⟨D, dn, dc, S4, m4, k4, by { have e : ((k + (2 + xx.length) : Nat) : Int) = (k : Int) + 2 + q := (by omega); rw [e]; first | rfl | (simp [resV]; omega) }, hD.mono fun q hq => by omega, hP.mono fun q hq => by omega, hE⟩)
  first | replace h53 := dT h53 | replace h53 := nT h53 | skip
  refine vP ?_
  refine vP ?_
  refine vP ?_
  refine vP ?_
  refine vT ?_
  refine vn (hK11 _ _ ?_)
  refine Wc.condT rfl rfl ?_
  refine vs fun K14 hK14 => vR [(6, _)] ?_
  refine vl (Gives.buildS (pl := [(0, 1), (1, 1), (2, 1), (3, 1)]) (zv := (.agg #[(.int .i64 0), (.int .i64 0), (.slice none 0 0), (.slice none 0 0)])) rfl Tryd.underlying34 (by kernel_rfl) (by kernel_rfl) rfl rfl) ?_
  refine Wl.acts rfl rfl (Does.stL 4 rfl rfl rfl hb6 (by kernel_rfl) rfl rfl rfl) ?_
  rintro _ w8_1 ⟨hbn, hF8_1⟩
  replace hb10 := hb10.frA hF8_1
  replace hE := Ext.over hE hF8_1 hg6
  replace hb6 := hbn
  clear hbn
  refine vA ?_
  refine vA ?_
  refine vn (hK14 _ _ ?_)
  refine Wc.ret ?_
  refine Wx.thenR ?_
  refine Wx.ret [_, _, _] ⟨⟨_, rfl, res_blk hb6 Tryd.underlying34 rfl (by kernel_rfl)⟩, ⟨rfl, ⟨rfl, trivial⟩⟩⟩ ?_
  first | exact LNextR.no (next_none (blob_no1 (by omega))) hE | exact LNextR.no (next_none (blob_no2 (by omega))) hE | exact LNextR.no (next_30 hyes (fun hh => by first | exact h53 hh.1 | exact h58 hh.2)) hE | (unfold LNextR; rw [next_0 hyes ⟨h53, h58⟩]; exact ⟨D, dn, dc, S4, m4, k4, by { have e : ((k + (2 + xx.length) : Nat) : Int) = (k : Int) + 2 + q := (by omega); rw [e]; first | rfl | (simp [resV]; omega) }, hD.mono fun q hq => by omega, hP.mono fun q hq => by omega, hE⟩)
end Go.Proofs.YtnbgieccindpnaaDoor
/- Logs: Parse of the reference, Add of both. -/
namespace Go.Proofs.YtnbgieccindpnaaDoor
set_option linter.all false
set_option maxRecDepth 20000
open Go.RowKit
theorem scan_y {b : List UInt8} {acc : List Ev} {rs : List UInt8} {er : Int} (h : hOk b) (hb : bodyS (lh1 b).2 41 [] (b.drop 11) = (acc, rs, er)) : scanS b = (⟨(lh1 b).2, (lh2 b).2, acc⟩, (b.length : Int) - (rs.length : Int), er) := by unfold scanS; rw [if_pos h, hb]
theorem scan_n {b : List UInt8} (h : ¬ hOk b) : scanS b = (⟨0, 0, []⟩, 0, 5) := by unfold scanS; rw [if_neg h]
theorem blob_cut {b x rs : List UInt8} {k : Nat} (hk : k ≤ b.length) (h : blobOf (b.drop k) = some (x, rs)) : rs = b.drop (k + (2 + x.length)) ∧ k + (2 + x.length) ≤ b.length := by
  have hl := (blobOf_len h).1
  rw [List.length_drop] at hl
  have hle : k + (2 + x.length) ≤ b.length := by omega
  refine ⟨?_, hle⟩
  unfold blobOf at h
  split at h
  · cases h
  · split at h
    · cases h
    · rename_i h1 h2
      simp only [Option.some.injEq, Prod.mk.injEq] at h
      obtain ⟨hx, hr⟩ := h
      have hxl : x.length = beV ((b.drop k).take 2) := by rw [← hx, List.length_take, List.length_drop, List.length_drop]; rw [List.length_drop] at h2; omega
      rw [← hr, hxl, List.drop_drop]
theorem next_ok {b : List UInt8} {k : Nat} {act : Int} (h : (nextS b k act).2.2 = 0) : ∃ x rs, blobOf (b.drop k) = some (x, rs) ∧ (decEvE x = 0 ∧ evE (decEvI x) act = 0) ∧ nextS b k act = (decEvI x, ((k + (2 + x.length) : Nat) : Int), 0) := by
  cases hq : blobOf (b.drop k) with
  | none => rw [next_none hq] at h; cases h
  | some q =>
    obtain ⟨x, rs⟩ := q
    by_cases h2 : decEvE x = 0 ∧ evE (decEvI x) act = 0
    · exact ⟨x, rs, rfl, h2, next_0 hq h2⟩
    · rw [next_30 hq h2] at h; cases h
theorem next_bad {b : List UInt8} {k : Nat} {act : Int} {acc : List Ev} (h : ¬ (nextS b k act).2.2 = 0) (hne : b.drop k ≠ []) (ha : acc.length < 40) : bodyS act (41 - acc.length) acc (b.drop k) = (acc, b.drop k, (nextS b k act).2.2) := by
  cases hq : blobOf (b.drop k) with
  | none => rw [next_none hq]; exact body_2 hne ha hq
  | some q =>
    obtain ⟨x, rs⟩ := q
    by_cases h2 : decEvE x = 0 ∧ evE (decEvI x) act = 0
    · rw [next_0 hq h2] at h; exact absurd rfl h
    · rw [next_30 hq h2]; exact body_30 hne ha hq h2
theorem drop_ne {b : List UInt8} {k : Nat} (h : k < b.length) : b.drop k ≠ [] := fun hh => by have := congrArg List.length hh; rw [List.length_drop, List.length_nil] at this; omega
set_option maxRecDepth 20000 in
set_option maxHeartbeats 2000000 in
theorem parseLR {P : Nat → Prop} (w : World) (A : Option Addr) (n c : Nat) (b : List UInt8) (ha : BV w P A n c b) :
    Calls Tryd.prog 32 #[.slice A n c] w (LParR w b) := by
  have hl := ha.len
  refine calls_enter Tryd.func32 rfl Tryd.ntmps32 rfl ?_
  have hE : Ext w w := Ext.refl w
  refine vs fun K1 hK1 => vR [(0, _)] ?_
  refine Wl.does rfl rfl rfl (Does.alB (.agg #[(.int .i64 0), (.int .i64 0), (.slice none 0 0)]) rfl (by kernel_rfl) rfl) ?_
  rintro _ w0_0 ⟨b2, rfl, hs2, hb2, hx0_0⟩
  have hg2 : w.heap.size ≤ b2 := Nat.le_trans hE.size hs2
  replace hE := hE.trans hx0_0
  refine vA ?_
  refine vn (hK1 _ _ ?_)
  refine Wc.seq (fun K2 hK2 => ?_)
  refine vs fun K3 hK3 => vR [(0, _), (2, _)] ?_
  refine vM ?_
  refine vl (Gives.lenS rfl Tryd.underlying22 rfl) ?_
  refine vl (Gives.gtr rfl rfl rfl) ?_
  refine vn (hK3 _ _ ?_)
  refine Wc.cond _ rfl (fun h12 => ?_) (fun h12 => ?_)
  · first | replace h12 := dT h12 | replace h12 := nT h12 | skip
    refine vs fun K4 hK4 => vR [(2, _)] ?_
    refine vl (Gives.buildS (pl := [(0, 1), (1, 1), (2, 1)]) (zv := (.agg #[(.int .i64 0), (.int .i64 0), (.slice none 0 0)])) rfl Tryd.underlying30 (by kernel_rfl) (by kernel_rfl) rfl rfl) ?_
    refine Wl.acts rfl rfl (Does.stL 3 rfl rfl rfl hb2 (by kernel_rfl) rfl rfl rfl) ?_
    rintro _ w2_1 ⟨hbn, hF2_1⟩
    replace hE := Ext.over hE hF2_1 hg2
    replace hb2 := hbn
    clear hbn
    refine vA ?_
    refine vn (hK4 _ _ ?_)
    refine Wc.ret ?_
    refine Wx.thenR ?_
    refine Wx.ret [_, _] ⟨⟨_, rfl, res_blk hb2 Tryd.underlying30 rfl (by kernel_rfl)⟩, ⟨rfl, trivial⟩⟩ ?_
    exact LParR.no (par_4 (by omega)) hE
  first | replace h12 := dF h12 | replace h12 := nF h12 | skip
  refine Wc.skip ?_
  refine Wx.thenN (hK2 _ _ ?_)
  refine vs fun K5 hK5 => vR [(0, _), (2, _)] ?_
  refine vM ?_
  refine Wl.call rfl rfl rfl rfl Tryd.func51 rfl (by kernel_rfl) rfl (headLR _ A n c b (ha.ext hE)) ?_
  rintro x1 w31 ⟨rfl, hx31⟩
  refine ⟨_, rfl, ?_⟩
  have hzE := hE.size
  have hb2l := hb2.lt
  have hz31 := hx31.size
  replace hb2 := hb2.ext hx31
  replace hE := hE.trans hx31
  refine vM ?_
  refine vl (Gives.extract rfl rfl rfl) ?_
  refine vl (Gives.extract rfl rfl rfl) ?_
  refine Wl.does rfl rfl rfl (Does.alB (.agg #[(.int .i64 0), (.int .i64 0), (.slice none 0 0)]) rfl (by kernel_rfl) rfl) ?_
  rintro _ w3_5 ⟨b4, rfl, hs4, hb4, hx3_5⟩
  have hn2_4 : b2 ≠ b4 := hb2.ne hs4
  have hg4 : w.heap.size ≤ b4 := Nat.le_trans hE.size hs4
  replace hb2 := hb2.ext hx3_5
  replace hE := hE.trans hx3_5
  refine Wl.acts rfl rfl (Does.stL 3 rfl rfl rfl hb4 (by kernel_rfl) rfl rfl rfl) ?_
  rintro _ w3_6 ⟨hbn, hF3_6⟩
  replace hb2 := hb2.frA hF3_6
  replace hE := Ext.over hE hF3_6 hg4
  replace hb4 := hbn
  clear hbn
  have hb24 : b2 < b4 := by omega
  have hw4 : w.heap.size ≤ b4 := by omega
  refine vA ?_
  refine vn (hK5 _ _ ?_)
  refine Wc.seq (fun K6 hK6 => ?_)
  refine vs fun K7 hK7 => vR [(0, _), (2, _), (4, _), (5, _)] ?_
  refine vM ?_
  refine vl (Gives.not rfl rfl) ?_
  refine vn (hK7 _ _ ?_)
  refine Wc.cond _ rfl (fun h20 => ?_) (fun h20 => ?_)
  · first | replace h20 := dT h20 | replace h20 := nT h20 | skip
    refine vs fun K8 hK8 => vR [(2, _)] ?_
    refine vl (Gives.buildS (pl := [(0, 1), (1, 1), (2, 1)]) (zv := (.agg #[(.int .i64 0), (.int .i64 0), (.slice none 0 0)])) rfl Tryd.underlying30 (by kernel_rfl) (by kernel_rfl) rfl rfl) ?_
    refine Wl.acts rfl rfl (Does.stL 3 rfl rfl rfl hb2 (by kernel_rfl) rfl rfl rfl) ?_
    rintro _ w5_1 ⟨hbn, hF5_1⟩
    replace hb4 := hb4.frA hF5_1
    replace hE := Ext.over hE hF5_1 hg2
    replace hb2 := hbn
    clear hbn
    refine vA ?_
    refine vn (hK8 _ _ ?_)
    refine Wc.ret ?_
    refine Wx.thenR ?_
    refine Wx.ret [_, _] ⟨⟨_, rfl, res_blk hb2 Tryd.underlying30 rfl (by kernel_rfl)⟩, ⟨rfl, trivial⟩⟩ ?_
    have hno : ¬ hOk b := by simpa using h20
    exact LParR.no (by rw [par_e (by omega) (by rw [scan_n hno]; decide), scan_n hno]) hE
  first | replace h20 := dF h20 | replace h20 := nF h20 | skip
  refine Wc.skip ?_
  refine Wx.thenN (hK6 _ _ ?_)
  refine Wc.seq (fun K9 hK9 => ?_)
  refine vs fun K10 hK10 => vK [(0, _), (2, _), (4, _)] ?_
  have hok : hOk b := by simpa using h20
  have hv : hdV b = ((lh1 b).2, (lh2 b).2) := by unfold hdV; rw [if_pos hok]
  rw [hv] at hb4
  have h11 := (head_drop hok).2
  generalize hact : (lh1 b).2 = act at *
  generalize hnum : (lh2 b).2 = num at *
  refine Wc.region ?_
  refine vA ?_
  refine vn (hK10 _ _ ?_)
  refine Wc.block ?_
  refine vK [(0, _), (2, _), (4, _), (6, _)] ?_
  refine Wc.loopC (ι := Nat × (Option Addr × Nat × Nat) × List Ev) [(0, _), (2, _), (4, _)] (fun | (i, _, _) => [(6, .int .i64 (i : Int))]) (fun | (i, (S, m, k), acc), wr => i ≤ n ∧ acc.length ≤ 40 ∧ bodyS act (41 - acc.length) acc (b.drop i) = bodyS act 41 [] (b.drop 11) ∧ EO wr (b4 + 1) S m k acc ∧ Blk wr b4 30 #[.int .i64 act, .int .i64 num, .slice S m k] ∧ Blk wr b2 30 #[.int .i64 0, .int .i64 0, .slice none 0 0] ∧ Ext w wr) (fun | (_, _, acc) => 41 - acc.length) ((11, (none, 0, 0), [])) (.co (.cons rfl (.cons rfl (.cons rfl (.nil))))) (⟨by omega, by simp, rfl, EO.nil_ _ _, hb4, hb2, hE⟩) ?_
  intro ⟨i, ⟨S, m, k⟩, acc⟩ wr hJ KL1 hKL1
  clear hE hb4 hb2
  obtain ⟨hi, ha40, hbody, hIO, hb4, hb2, hE⟩ := hJ
  have hacc := hIO.len
  have hb4l := hb4.lt
  refine Wc.seq (fun K11 hK11 => ?_)
  refine vs fun K12 hK12 => vR [(0, _), (2, _), (4, _), (6, _)] ?_
  refine vM ?_
  refine vM ?_
  refine vl (Gives.lenS rfl Tryd.underlying22 rfl) ?_
  refine vl (Gives.lss rfl rfl rfl) ?_
  refine vn (hK12 _ _ ?_)
  refine Wc.cond _ rfl (fun h25 => ?_) (fun h25 => ?_)
  · first | replace h25 := dT h25 | replace h25 := nT h25 | skip
    refine Wc.skip ?_
    refine Wx.thenN (hK11 _ _ ?_)
    refine Wc.block ?_
    refine Wc.seq (fun K13 hK13 => ?_)
    refine vs fun K14 hK14 => vR [(0, _), (2, _), (4, _), (6, _)] ?_
    refine vF 2 Tryd.underlying30 ?_
    refine vL hb4 ?_
    refine vl (Gives.lenS rfl Tryd.underlying28 rfl) ?_
    refine vl (Gives.geq rfl rfl rfl) ?_
    refine vn (hK14 _ _ ?_)
    refine Wc.cond _ rfl (fun h29 => ?_) (fun h29 => ?_)
    · first | replace h29 := dT h29 | replace h29 := nT h29 | skip
      refine vs fun K15 hK15 => vR [(2, _)] ?_
      refine vl (Gives.buildS (pl := [(0, 1), (1, 1), (2, 1)]) (zv := (.agg #[(.int .i64 0), (.int .i64 0), (.slice none 0 0)])) rfl Tryd.underlying30 (by kernel_rfl) (by kernel_rfl) rfl rfl) ?_
      refine Wl.acts rfl rfl (Does.stL 3 rfl rfl rfl hb2 (by kernel_rfl) rfl rfl rfl) ?_
      rintro _ w9_1 ⟨hbn, hF9_1⟩
      replace hb4 := hb4.frA hF9_1
      replace hE := Ext.over hE hF9_1 hg2
      replace hb2 := hbn
      clear hbn
      refine vA ?_
      refine vn (hK15 _ _ ?_)
      refine Wc.ret ?_
      refine Wx.thenR ?_
      refine Wx.blockR ?_
      refine Wx.thenR ?_
      refine Wx.blockR ?_
      refine Wx.thenR ?_
      refine Wx.ret [_, _] ⟨⟨_, rfl, res_blk hb2 Tryd.underlying30 rfl (by kernel_rfl)⟩, ⟨rfl, trivial⟩⟩ ?_
      subst hact
      subst hnum
      have hb25 := body_25 (act := (lh1 b).2) (acc := acc) (drop_ne (b := b) (k := i) (by omega)) (by omega)
      rw [hbody] at hb25
      have hsc := scan_y hok hb25
      exact LParR.no (by rw [par_e (by omega) (by rw [hsc]; show ¬ (25 : Int) = 0; decide), hsc]) hE
    first | replace h29 := dF h29 | replace h29 := nF h29 | skip
    refine Wc.skip ?_
    refine Wx.thenN (hK13 _ _ ?_)
    refine vs fun K16 hK16 => vK [(0, _), (2, _), (4, _), (6, _)] ?_
    have hown := hIO.lt
    refine Wc.region ?_
    refine vM ?_
    refine vM ?_
    refine vF 0 Tryd.underlying30 ?_
    refine vL hb4 ?_
    refine Wl.call rfl rfl rfl rfl Tryd.func52 rfl (by kernel_rfl) rfl (nextLR _ A n c b (ha.ext hE) (by omega) i (by omega) act) ?_
    rintro x2 w104 ⟨D, dn, dc, S4, m4, k4, rfl, hD, hP, hx104⟩
    refine ⟨_, rfl, ?_⟩
    replace hIO := hIO.ext hx104
    have hz104 := hx104.size
    replace hb2 := hb2.ext hx104
    replace hb4 := hb4.ext hx104
    replace hE := hE.trans hx104
    refine vM ?_
    refine vl (Gives.extract rfl rfl rfl) ?_
    refine vl (Gives.extract rfl rfl rfl) ?_
    refine vl (Gives.extract rfl rfl rfl) ?_
    refine Wl.does rfl rfl rfl (Does.alB (.agg #[(.int .i64 0), (.int .i64 0), (.slice none 0 0), (.slice none 0 0)]) rfl (by kernel_rfl) rfl) ?_
    rintro _ w10_9 ⟨b7, rfl, hs7, hb7, hx10_9⟩
    have hn2_7 : b2 ≠ b7 := hb2.ne hs7
    have hn4_7 : b4 ≠ b7 := hb4.ne hs7
    have hg7 : w.heap.size ≤ b7 := Nat.le_trans hE.size hs7
    replace hb2 := hb2.ext hx10_9
    replace hb4 := hb4.ext hx10_9
    replace hE := hE.trans hx10_9
    refine Wl.acts rfl rfl (Does.stL 4 rfl rfl rfl hb7 (by kernel_rfl) rfl rfl rfl) ?_
    rintro _ w10_10 ⟨hbn, hF10_10⟩
    replace hb2 := hb2.frA hF10_10
    replace hb4 := hb4.frA hF10_10
    replace hE := Ext.over hE hF10_10 hg7
    replace hb7 := hbn
    clear hbn
    have hx10 := Ext.over hx10_9 hF10_10 hs7
    replace hIO := hIO.ext hx10
    replace hD := hD.ext hx10
    replace hP := hP.ext hx10
    have hz10 := hx10.size
    refine vA ?_
    refine vA ?_
    refine vn (hK16 _ _ ?_)
    refine Wc.seq (fun K17 hK17 => ?_)
    refine vs fun K18 hK18 => vR [(0, _), (2, _), (4, _), (7, _), (8, _), (9, _)] ?_
    refine vM ?_
    refine vl (Gives.neq rfl rfl rfl) ?_
    refine vn (hK18 _ _ ?_)
    refine Wc.cond _ rfl (fun h41 => ?_) (fun h41 => ?_)
    · first | replace h41 := dT h41 | replace h41 := nT h41 | skip
      refine vs fun K19 hK19 => vR [(2, _), (9, _)] ?_
      refine vl (Gives.buildS (pl := [(0, 1), (1, 1), (2, 1)]) (zv := (.agg #[(.int .i64 0), (.int .i64 0), (.slice none 0 0)])) rfl Tryd.underlying30 (by kernel_rfl) (by kernel_rfl) rfl rfl) ?_
      refine vM ?_
      refine Wl.acts rfl rfl (Does.stL 3 rfl rfl rfl hb2 (by kernel_rfl) rfl rfl rfl) ?_
      rintro _ w12_2 ⟨hbn, hF12_2⟩
      replace hb4 := hb4.frA hF12_2
      replace hb7 := hb7.frA hF12_2
      replace hE := Ext.over hE hF12_2 hg2
      replace hb2 := hbn
      clear hbn
      refine vA ?_
      refine vn (hK19 _ _ ?_)
      refine Wc.ret ?_
      refine Wx.thenR ?_
      refine Wx.blockR ?_
      refine Wx.thenR ?_
      refine Wx.blockR ?_
      refine Wx.thenR ?_
      refine Wx.ret [_, _] ⟨⟨_, rfl, res_blk hb2 Tryd.underlying30 rfl (by kernel_rfl)⟩, ⟨rfl, trivial⟩⟩ ?_
      subst hact
      subst hnum
      have hbb := next_bad h41 (drop_ne (b := b) (k := i) (by omega)) (show acc.length < 40 by omega)
      rw [hbody] at hbb
      have hsc := scan_y hok hbb
      exact LParR.no (by rw [par_e (by omega) (by rw [hsc]; exact h41), hsc]) hE
    first | replace h41 := dF h41 | replace h41 := nF h41 | skip
    refine Wc.skip ?_
    refine Wx.thenN (hK17 _ _ ?_)
    refine vs fun K20 hK20 => vR [(0, _), (2, _), (4, _), (7, _), (8, _)] ?_
    refine vF 2 Tryd.underlying30 ?_
    refine vL hb4 ?_
    refine vl (Gives.ldW rfl (by kernel_rfl) rfl hb7 (by kernel_rfl)) ?_
    refine Wl.does rfl rfl rfl (Does.lit1 4 rfl Tryd.underlying28 infoE2 rfl rfl rfl) ?_
    rintro _ w133 ⟨g133, rfl, hs133, hk133, hx133⟩
    replace hIO := hIO.ext hx133
    replace hD := hD.ext hx133
    replace hP := hP.ext hx133
    have hz133 := hx133.size
    replace hb2 := hb2.ext hx133
    replace hb4 := hb4.ext hx133
    replace hb7 := hb7.ext hx133
    replace hE := hE.trans hx133
    have hln : EvtV w133 (NOwn w133 (fun k => b4 + 1 ≤ k) (.slice S m k)) (nextS b i act).1 ⟨D, dn, dc, S4, m4, k4⟩ := (EvtV.bd (P := fun q => wr.heap.size ≤ q) ⟨hD, hP⟩).mono fun q hq => ⟨by omega, hq.2, fun he => by have := hown q he; omega⟩
    refine Wl.does rfl rfl rfl (Does.appEO (xi := (nextS b i act).1) (r := ⟨D, dn, dc, S4, m4, k4⟩) rfl rfl rfl hIO hk133 hln (by omega) (by omega)) ?_
    rintro _ w134 ⟨B2, sc2, rfl, hIO2, hB134⟩
    replace hb2 := Blk.bel hb2 hB134 (by omega)
    replace hb4 := Blk.bel hb4 hB134 (by omega)
    replace hE := Ext.step hE hB134 (by omega)
    refine vF 2 Tryd.underlying30 ?_
    refine Wl.acts rfl rfl (Does.stC rfl rfl rfl hb4 (by kernel_rfl) (Nat.le_of_ble_eq_true rfl) rfl) ?_
    rintro _ w13_6 ⟨hbn, hF13_6⟩
    replace hb2 := hb2.frA hF13_6
    replace hE := Ext.over hE hF13_6 hg4
    replace hb4 := hbn
    clear hbn
    (try simp only [List.setIfInBounds_toArray, List.set_cons_zero, List.set_cons_succ, Nat.reduceAdd, Nat.zero_add] at hb4)
    replace hIO2 := hIO2.fr hF13_6 (fun q hq => by omega)
    refine vn (hK20 _ _ ?_)
    refine vK [(0, _), (2, _), (4, _), (8, _)] ?_
    obtain ⟨xx, rs, hbl, hck, hnx⟩ := next_ok h41
    obtain ⟨hrs, hle⟩ := blob_cut (show i ≤ b.length by omega) hbl
    have hnx1 : (nextS b i act).1 = decEvI xx := by rw [hnx]
    have hnx2 : (nextS b i act).2.1 = ((i + (2 + xx.length) : Nat) : Int) := by rw [hnx]
    refine Wc.region ?_
    refine vM ?_
    refine vA ?_
    refine Wl.nil ?_
    refine Wx.blockN ?_
    refine Wx.thenN ?_
    have hgo := body_go (act := act) (acc := acc) (drop_ne (b := b) (k := i) (by omega)) (by omega) hbl hck
    rw [hnx1] at hIO2
    exact hKL1 (i + (2 + xx.length), (B2, m + 1, sc2), acc ++ [decEvI xx]) _ _ (.co (.cons rfl (.cons rfl (.cons rfl (.nil))))) ⟨by omega, by rw [List.length_append, List.length_singleton]; omega, by rw [← hrs, ← hgo]; exact hbody, hIO2, hb4, hb2, hE⟩ (by show 41 - (acc ++ [decEvI xx]).length < 41 - acc.length; rw [List.length_append, List.length_singleton]; omega)
  first | replace h25 := dF h25 | replace h25 := nF h25 | skip
  refine Wc.exit ?_
  refine Wx.thenE ?_
  refine Wx.thenE ?_
  refine Wx.hit ?_
  refine Wx.thenN (hK9 _ _ ?_)
  refine vs fun K21 hK21 => vK [(2, _), (4, _)] ?_
  have hS := hIO.sl (P := fun q => b4 < q) (fun q hq => hq)
  refine Wc.region ?_
  refine vl (Gives.ldW rfl (by kernel_rfl) rfl hb4 (by kernel_rfl)) ?_
  refine Wl.acts rfl rfl (Does.stL 3 rfl rfl rfl hb2 (by kernel_rfl) rfl rfl rfl) ?_
  rintro _ w15_1 ⟨hbn, hF15_1⟩
  replace hb4 := hb4.frA hF15_1
  replace hE := Ext.over hE hF15_1 hg2
  replace hb2 := hbn
  clear hbn
  replace hS := hS.fr (hF15_1.mono fun q hq => by omega)
  refine vA ?_
  refine vn (hK21 _ _ ?_)
  refine Wc.ret ?_
  refine Wx.ret [_, _] ⟨⟨_, rfl, res_blk hb2 Tryd.underlying30 rfl (by kernel_rfl)⟩, ⟨rfl, trivial⟩⟩ ?_
  subst hact
  subst hnum
  have hnil : b.drop i = [] := List.drop_eq_nil_of_le (by omega)
  rw [hnil, body_end] at hbody
  have hsc := scan_y hok hbody.symm
  unfold LParR
  rw [par_0 (by omega) (by rw [hsc]), hsc]
  exact ⟨S, m, k, rfl, hS.mono fun q hq => by omega, hE⟩
end Go.Proofs.YtnbgieccindpnaaDoor
/- Logs: what is written is read; Add of both. -/
namespace Go.Proofs.YtnbgieccindpnaaDoor
set_option linter.all false
set_option maxRecDepth 20000
open Go.RowKit
theorem ev_wr {x : Ev} {act : Int} (h : evE x act = 0) : wrE x ∧ (1 ≤ act ∧ act ≤ 3) := by
  unfold evE at h
  split at h
  · cases h
  · rename_i h1
    split at h
    · cases h
    · rename_i h2
      split at h
      · rename_i h3
        have h1 := Decidable.not_not.1 h1
        refine ⟨⟨⟨h1.2.2.1, h1.2.2.2.1, h1.2.2.2.2.1, h1.2.2.2.2.2⟩, h3.1, by omega, fun i hi => ?_⟩, h1.1, h1.2.1⟩
        rw [h3.2 i hi]
        unfold szE szD
        split
        · split <;> omega
        · omega
      · cases h
theorem blobOf_T {y r : List UInt8} (h : y.length ≤ 65535) : blobOf (blobT y ++ r) = some (y, r) := by
  have hb : (beS ((y.length : Nat) : Int) 2).length = 2 := beS_len _ _
  have ht : (blobT y ++ r).take 2 = beS ((y.length : Nat) : Int) 2 := by unfold blobT; rw [List.append_assoc, List.take_left' hb]
  have hv : beV ((blobT y ++ r).take 2) = y.length := by rw [ht, beV_beS' _ _ (by omega)]; exact Nat.mod_eq_of_lt (by omega)
  have hd : (blobT y ++ r).drop 2 = y ++ r := by unfold blobT; rw [List.append_assoc, List.drop_left' hb]
  have hl : (blobT y ++ r).length = 2 + y.length + r.length := by rw [List.length_append, blobT_len]
  unfold blobOf
  rw [if_neg (by omega), hv, if_neg (by omega), ← List.drop_drop, hd, List.take_left, List.drop_left]
/-- the blobs of the events -/
def evT (l : List Ev) : List UInt8 := l.flatMap fun x => blobT (evB x)
theorem evT_cons (x : Ev) (r : List Ev) : evT (x :: r) = blobT (evB x) ++ evT r := rfl
theorem evT_app (a b : List Ev) : evT (a ++ b) = evT a ++ evT b := by unfold evT; rw [List.flatMap_append]
theorem blobT_ne (y r : List UInt8) : blobT y ++ r ≠ [] := fun h => by have := congrArg List.length h; rw [List.length_append, blobT_len, List.length_nil] at this; omega
theorem body_fmt {act : Int} : ∀ (l acc : List Ev), (∀ x ∈ l, evE x act = 0) → acc.length + l.length ≤ 40 → bodyS act (41 - acc.length) acc (evT l) = (acc ++ l, [], 0)
  | [], acc, _, _ => by rw [List.append_nil]; exact body_end _ _ _
  | x :: l, acc, h, hn => by
    have hx := h x (List.mem_cons_self ..)
    have hw := (ev_wr hx).1
    have hd := dec_ev hw
    have hle := evB_le x
    rw [List.length_cons] at hn
    rw [evT_cons, body_go (blobT_ne _ _) (by omega) (blobOf_T (by omega)) (by rw [hd.2]; exact ⟨hd.1, hx⟩), hd.2, body_fmt l (acc ++ [x]) (fun y hy => h y (List.mem_cons_of_mem _ hy)) (by rw [List.length_append, List.length_singleton]; omega), List.append_assoc]
    rfl
/-- a log is well formed -/
def lgOk (L : Lg) : Prop := rngH L.active L.resets ∧ (∀ x ∈ L.events, evE x L.active = 0) ∧ L.events.length ≤ 40
def lgB (L : Lg) : List UInt8 := hdS L.active L.resets ++ evT L.events
theorem scan_fmt {L : Lg} (h : lgOk L) : scanS (lgB L) = (L, ((lgB L).length : Int), 0) := by
  obtain ⟨h1, h2, h3⟩ := h
  obtain ⟨f1, f2, f3, f4⟩ := head_fwd (b := lgB L) (post := evT L.events) h1 rfl
  have hdr := (head_drop f1).1
  rw [f4] at hdr
  have hb := body_fmt L.events [] h2 (by simpa using h3)
  have hb' : bodyS (lh1 (lgB L)).2 41 [] ((lgB L).drop 11) = (L.events, [], 0) := by rw [f2, ← hdr]; exact hb
  rw [scan_y f1 hb', f2, f3]
  simp
theorem par_fmt {L : Lg} (h : lgOk L) (hl : (lgB L).length ≤ 8192) : parS (lgB L) = (L, 0) := by
  have hs := scan_fmt h
  rw [par_0 (by omega) (by rw [hs]), hs]
/-- what is read was written -/
theorem body_inv {act : Int} : ∀ (f : Nat) (acc : List Ev) (rs : List UInt8) {acc' : List Ev} {rs' : List UInt8} {er : Int}, bodyS act f acc rs = (acc', rs', er) → ∃ l, acc' = acc ++ l ∧ rs = evT l ++ rs' ∧ ∀ x ∈ l, evE x act = 0
  | 0, acc, rs, acc', rs', er, h => by
    simp only [bodyS, Prod.mk.injEq] at h
    obtain ⟨rfl, rfl, rfl⟩ := h
    exact ⟨[], by simp, by simp [evT], by simp⟩
  | f + 1, acc, rs, acc', rs', er, h => by
    have stop : ∀ {z : Int}, (acc, rs, z) = (acc', rs', er) → ∃ l, acc' = acc ++ l ∧ rs = evT l ++ rs' ∧ ∀ x ∈ l, evE x act = 0 := fun h => by
      simp only [Prod.mk.injEq] at h
      obtain ⟨rfl, rfl, rfl⟩ := h
      exact ⟨[], by simp, by simp [evT], by simp⟩
    unfold bodyS at h
    split at h
    · exact stop h
    · split at h
      · exact stop h
      · split at h
        · exact stop h
        · rename_i x rs2 hb
          split at h
          · rename_i hc
            obtain ⟨l, h1, h2, h3⟩ := body_inv f (acc ++ [decEvI x]) rs2 h
            have hbl := blobOf_len hb
            have hrs : rs = blobT x ++ rs2 := by
              unfold blobOf at hb
              split at hb
              · cases hb
              · split at hb
                · cases hb
                · rename_i g1 g2
                  simp only [Option.some.injEq, Prod.mk.injEq] at hb
                  obtain ⟨e1, e2⟩ := hb
                  have hln : (rs.take 2).length = 2 := by rw [List.length_take]; omega
                  have hxl : x.length = beV (rs.take 2) := by rw [← e1, List.length_take, List.length_drop]; omega
                  have hbb := beS_beV (rs.take 2) (by rw [hln]; decide)
                  rw [hln] at hbb
                  unfold blobT
                  rw [hxl, hbb, ← e1, ← e2, ← List.drop_drop, List.append_assoc, List.take_append_drop, List.take_append_drop]
            refine ⟨decEvI x :: l, by rw [h1]; simp, ?_, fun y hy => ?_⟩
            · rw [evT_cons, (ev_dec hc.1).1, hrs, h2, List.append_assoc]
            · rcases List.mem_cons.1 hy with rfl | hy
              · exact hc.2
              · exact h3 y hy
          · exact stop h
end Go.Proofs.YtnbgieccindpnaaDoor
/- LogN: merged. -/
/- Logs: Add of both; the law's helper awake. -/
namespace Go.Proofs.YtnbgieccindpnaaDoor
set_option linter.all false
set_option maxRecDepth 20000
open Go.RowKit
def addL (b : List UInt8) (x : Ev) : List UInt8 × Int := if (parS b).2 ≠ 0 then ([], (parS b).2) else if evE x (parS b).1.active ≠ 0 then ([], evE x (parS b).1.active) else if 40 ≤ (parS b).1.events.length then ([], 25) else if 8192 < (blobS b (evB x)).length then ([], 4) else (blobS b (evB x), 0)
theorem addl_p {b : List UInt8} {x : Ev} (h : ¬ (parS b).2 = 0) : addL b x = ([], (parS b).2) := by unfold addL; rw [if_pos h]
theorem addl_e {b : List UInt8} {x : Ev} (h : (parS b).2 = 0) (h2 : ¬ evE x (parS b).1.active = 0) : addL b x = ([], evE x (parS b).1.active) := by unfold addL; rw [if_neg (by simp [h]), if_pos h2]
theorem addl_25 {b : List UInt8} {x : Ev} (h : (parS b).2 = 0) (h2 : evE x (parS b).1.active = 0) (h3 : 40 ≤ (parS b).1.events.length) : addL b x = ([], 25) := by unfold addL; rw [if_neg (by simp [h]), if_neg (by simp [h2]), if_pos h3]
theorem addl_4 {b : List UInt8} {x : Ev} (h : (parS b).2 = 0) (h2 : evE x (parS b).1.active = 0) (h3 : ¬ 40 ≤ (parS b).1.events.length) (h4 : 8192 < (blobS b (evB x)).length) : addL b x = ([], 4) := by unfold addL; rw [if_neg (by simp [h]), if_neg (by simp [h2]), if_neg h3, if_pos h4]
theorem addl_0 {b : List UInt8} {x : Ev} (h : (parS b).2 = 0) (h2 : evE x (parS b).1.active = 0) (h3 : ¬ 40 ≤ (parS b).1.events.length) (h4 : ¬ 8192 < (blobS b (evB x)).length) : addL b x = (blobS b (evB x), 0) := by unfold addL; rw [if_neg (by simp [h]), if_neg (by simp [h2]), if_neg h3, if_neg h4]
def AddLR (w : World) (b : List UInt8) (x : Ev) (e : Ending) (w' : World) : Prop := ∃ S m k, e = .returned (.tuple #[.slice S m k, .int .i64 (addL b x).2]) ∧ OB w' w.heap.size 5 S m k (addL b x).1 ∧ Ext w w'
theorem AddLR.no {w w' : World} {b : List UInt8} {x : Ev} {z : Int} (h : addL b x = ([], z)) (hE : Ext w w') : AddLR w b x (.returned (resV [.slice none 0 0, .int .i64 z])) w' := by
  unfold AddLR
  rw [h]
  exact ⟨none, 0, 0, rfl, OB.nil_ _ _ _, hE⟩
theorem par_len {b : List UInt8} (h : (parS b).2 = 0) : b.length ≤ 8192 := by
  rcases Nat.lt_or_ge 8192 b.length with h1 | h1
  · rw [par_4 h1] at h; cases h
  · exact h1
set_option maxRecDepth 20000 in
set_option maxHeartbeats 2000000 in
theorem addLP {P P' : Nat → Prop} (w : World) (A : Option Addr) (n c : Nat) (b : List UInt8) (ha : BV w P' A n c b) (rg kd : Int) (D : Option Addr) (dn dc : Nat) (ds : List (List UInt8)) (S : Option Addr) (m d : Nat) (pay : List UInt8) (hd : BL w P D dn dc ds) (hp : BV w P S m d pay) :
    Calls Tryd.prog 16 #[.slice A n c, .agg #[.int .i64 rg, .int .i64 kd, .slice D dn dc, .slice S m d]] w (AddLR w b ⟨rg, kd, ds, pay⟩) := by
  have hl := ha.len
  have hle := ha.le
  refine calls_enter Tryd.func16 rfl Tryd.ntmps16 rfl ?_
  have hE : Ext w w := Ext.refl w
  refine vs fun K1 hK1 => vR [(0, _), (1, _)] ?_
  refine Wl.does rfl rfl rfl (Does.boxA rfl rfl) ?_
  rintro _ w0_0 ⟨b3, rfl, hs3, hb3, hx0_0⟩
  have hg3 : w.heap.size ≤ b3 := Nat.le_trans hE.size hs3
  replace hE := hE.trans hx0_0
  refine vA ?_
  refine vA ?_
  refine vn (hK1 _ _ ?_)
  refine vs fun K2 hK2 => vR [(0, _), (3, _)] ?_
  refine vM ?_
  refine Wl.call rfl rfl rfl rfl Tryd.func22 rfl (by kernel_rfl) rfl (parseLP _ A n c b (ha.ext hE)) ?_
  rintro x1 w11 ⟨S1, m1, k1, rfl, hS, hx11⟩
  refine ⟨_, rfl, ?_⟩
  have hSl := hS.len
  replace hb3 := hb3.ext hx11
  replace hE := hE.trans hx11
  refine vM ?_
  refine vl (Gives.extract rfl rfl rfl) ?_
  refine vl (Gives.extract rfl rfl rfl) ?_
  refine Wl.does rfl rfl rfl (Does.alB (.agg #[(.int .i64 0), (.int .i64 0), (.slice none 0 0)]) rfl (by kernel_rfl) rfl) ?_
  rintro _ w1_5 ⟨b6, rfl, hs6, hb6, hx1_5⟩
  have hn3_6 : b3 ≠ b6 := hb3.ne hs6
  have hg6 : w.heap.size ≤ b6 := Nat.le_trans hE.size hs6
  replace hb3 := hb3.ext hx1_5
  replace hE := hE.trans hx1_5
  refine Wl.acts rfl rfl (Does.stL 3 rfl rfl rfl hb6 (by kernel_rfl) rfl rfl rfl) ?_
  rintro _ w1_6 ⟨hbn, hF1_6⟩
  replace hb3 := hb3.frA hF1_6
  replace hE := Ext.over hE hF1_6 hg6
  replace hb6 := hbn
  clear hbn
  refine vA ?_
  refine vn (hK2 _ _ ?_)
  refine Wc.seq (fun K3 hK3 => ?_)
  refine vs fun K4 hK4 => vR [(0, _), (3, _), (6, _), (7, _)] ?_
  refine vM ?_
  refine vl (Gives.neq rfl rfl rfl) ?_
  refine vn (hK4 _ _ ?_)
  refine Wc.cond _ rfl (fun h16 => ?_) (fun h16 => ?_)
  · first | replace h16 := dT h16 | replace h16 := nT h16 | skip
    refine vs fun K5 hK5 => vR [(7, _)] ?_
    refine vM ?_
    refine vA ?_
    refine vA ?_
    refine vn (hK5 _ _ ?_)
    refine Wc.ret ?_
    refine Wx.thenR ?_
    refine Wx.ret [_, _] ⟨rfl, ⟨rfl, trivial⟩⟩ ?_
    exact AddLR.no (addl_p h16) hE
  first | replace h16 := dF h16 | replace h16 := nF h16 | skip
  refine Wc.skip ?_
  refine Wx.thenN (hK3 _ _ ?_)
  refine Wc.seq (fun K6 hK6 => ?_)
  refine vs fun K7 hK7 => vK [(0, _), (3, _), (6, _)] ?_
  have hbl := par_len h16
  refine Wc.region ?_
  refine vl (Gives.ldW rfl (by kernel_rfl) rfl hb3 (by kernel_rfl)) ?_
  refine vF 0 Tryd.underlying30 ?_
  refine vL hb6 ?_
  refine Wl.call rfl rfl rfl rfl Tryd.func39 rfl (by kernel_rfl) rfl (evCheckP _ rg kd D dn dc ds S m d pay (hd.ext hE) (hp.ext hE) _) ?_
  rintro x2 w43 ⟨rfl, hx43⟩
  refine ⟨_, rfl, ?_⟩
  replace hb3 := hb3.ext hx43
  replace hb6 := hb6.ext hx43
  replace hE := hE.trans hx43
  refine vA ?_
  refine vn (hK7 _ _ ?_)
  refine vs fun K8 hK8 => vR [(0, _), (3, _), (6, _), (8, _)] ?_
  refine vM ?_
  refine vl (Gives.neq rfl rfl rfl) ?_
  refine vn (hK8 _ _ ?_)
  refine Wc.cond _ rfl (fun h23 => ?_) (fun h23 => ?_)
  · first | replace h23 := dT h23 | replace h23 := nT h23 | skip
    refine vs fun K9 hK9 => vR [(8, _)] ?_
    refine vM ?_
    refine vA ?_
    refine vA ?_
    refine vn (hK9 _ _ ?_)
    refine Wc.ret ?_
    refine Wx.thenR ?_
    refine Wx.ret [_, _] ⟨rfl, ⟨rfl, trivial⟩⟩ ?_
    exact AddLR.no (addl_e h16 h23) hE
  first | replace h23 := dF h23 | replace h23 := nF h23 | skip
  refine Wc.skip ?_
  refine Wx.thenN (hK6 _ _ ?_)
  refine Wc.seq (fun K10 hK10 => ?_)
  refine vs fun K11 hK11 => vR [(0, _), (3, _), (6, _)] ?_
  refine vF 2 Tryd.underlying30 ?_
  refine vL hb6 ?_
  refine vl (Gives.lenS rfl Tryd.underlying28 rfl) ?_
  refine vl (Gives.geq rfl rfl rfl) ?_
  refine vn (hK11 _ _ ?_)
  refine Wc.cond _ rfl (fun h28 => ?_) (fun h28 => ?_)
  · first | replace h28 := dT h28 | replace h28 := nT h28 | skip
    refine vs fun K12 hK12 => vR [] ?_
    refine vA ?_
    refine vA ?_
    refine vn (hK12 _ _ ?_)
    refine Wc.ret ?_
    refine Wx.thenR ?_
    refine Wx.ret [_, _] ⟨rfl, ⟨rfl, trivial⟩⟩ ?_
    exact AddLR.no (addl_25 h16 h23 (by omega)) hE
  first | replace h28 := dF h28 | replace h28 := nF h28 | skip
  refine Wc.skip ?_
  refine Wx.thenN (hK10 _ _ ?_)
  refine vs fun K13 hK13 => vK [(0, _), (3, _)] ?_
  refine Wc.regionB (fun q => [6, 7].contains q) [] (.read 0 (.read 1 (.read 2 (.read 3 (.read 4 (.read 5 (.read 6 (.call true 7 .tail .none)))))))) 8 (by kernel_rfl) (by kernel_rfl) (by kernel_rfl) ?_
  intro w9 hR9
  replace hb3 := hb3.ext hR9.ext
  replace hb6 := hb6.ext hR9.ext
  replace hE := hE.trans hR9.ext
  have hO9_3 : Old w9.heap.size [] b3 := ⟨hb3.lt, trivial⟩
  have hO9_6 : Old w9.heap.size [] b6 := ⟨hb6.lt, trivial⟩
  have hX := Ext.refl w9
  refine RunE.read rfl rfl rfl rfl (fun wS _ => (Gives.move rfl rfl)) ?_
  refine RunE.read rfl rfl rfl rfl (fun wS _ => (Gives.move rfl rfl)) ?_
  refine RunE.read rfl rfl rfl rfl (fun wS _ => (Gives.lenS rfl Tryd.underlying22 rfl)) ?_
  refine RunE.read rfl rfl rfl rfl (fun wS _ => (Gives.move rfl rfl)) ?_
  refine RunE.read rfl rfl rfl rfl (fun wS _ => (Gives.lenS rfl Tryd.underlying22 rfl)) ?_
  refine RunE.read rfl rfl rfl rfl (fun wS _ => (Gives.cutHM n n rfl Tryd.underlying22 (by kernel_rfl) rfl rfl rfl rfl rfl (Nat.le_refl _) hle.1)) ?_
  refine RunE.readM rfl rfl rfl rfl rfl (fun wS hS => (Gives.ldW rfl (by kernel_rfl) rfl ((hb3.ext hX).fr hS hO9_3) (by kernel_rfl))) ?_
  refine RunE.freeC rfl rfl rfl rfl rfl Tryd.func41 rfl (by kernel_rfl) rfl (evEncP _ rg kd D dn dc ds S m d pay (hd.ext (hE.trans hX)) (hp.ext (hE.trans hX))) ?_ RunE.none
  rintro x3 w97 ⟨S2, m2, k2, rfl, hO2, hx97⟩
  refine ⟨_, rfl, ?_⟩
  have hm2 := hO2.len
  have hm2' := evB_le ⟨rg, kd, ds, pay⟩
  replace hX := hX.trans hx97
  refine RunE.tail rfl ?_
  replace hb3 := hb3.ext hX
  replace hb6 := hb6.ext hX
  replace hE := hE.trans hX
  refine Wl.call rfl rfl rfl rfl Tryd.func40 rfl (by kernel_rfl) rfl (blob_calls _ A n n b ((ha.cap (Nat.le_refl _) hle.1).ext hE) (by omega) S2 m2 k2 _ (hO2.bv (P := fun _ => True) fun _ _ => trivial) (by omega)) ?_
  rintro x4 w98 ⟨S3, m3, k3, rfl, hO3, hx98⟩
  refine ⟨_, rfl, ?_⟩
  have hm3 := hO3.len
  have hzE := hE.size
  replace hb3 := hb3.ext hx98
  replace hb6 := hb6.ext hx98
  replace hE := hE.trans hx98
  refine vA ?_
  refine vn (hK13 _ _ ?_)
  refine Wc.seq (fun K14 hK14 => ?_)
  refine vs fun K15 hK15 => vR [(9, _)] ?_
  refine vM ?_
  refine vl (Gives.lenS rfl Tryd.underlying22 rfl) ?_
  refine vl (Gives.gtr rfl rfl rfl) ?_
  refine vn (hK15 _ _ ?_)
  refine Wc.cond _ rfl (fun h40 => ?_) (fun h40 => ?_)
  · first | replace h40 := dT h40 | replace h40 := nT h40 | skip
    refine vs fun K16 hK16 => vR [] ?_
    refine vA ?_
    refine vA ?_
    refine vn (hK16 _ _ ?_)
    refine Wc.ret ?_
    refine Wx.thenR ?_
    refine Wx.ret [_, _] ⟨rfl, ⟨rfl, trivial⟩⟩ ?_
    exact AddLR.no (addl_4 h16 h23 (by omega) (by omega)) hE
  first | replace h40 := dF h40 | replace h40 := nF h40 | skip
  refine Wc.skip ?_
  refine Wx.thenN (hK14 _ _ ?_)
  refine vs fun K17 hK17 => vR [(9, _)] ?_
  refine vM ?_
  refine vA ?_
  refine vA ?_
  refine vn (hK17 _ _ ?_)
  refine Wc.ret ?_
  refine Wx.ret [_, _] ⟨rfl, ⟨rfl, trivial⟩⟩ ?_
  unfold AddLR
  rw [addl_0 h16 h23 (by omega) (by omega)]
  exact ⟨S3, m3, k3, rfl, hO3.mono hzE, hE⟩
set_option maxRecDepth 20000 in
set_option maxHeartbeats 2000000 in
theorem addLQ {P P' : Nat → Prop} (w : World) (A : Option Addr) (n c : Nat) (b : List UInt8) (ha : BV w P' A n c b) (rg kd : Int) (D : Option Addr) (dn dc : Nat) (ds : List (List UInt8)) (S : Option Addr) (m d : Nat) (pay : List UInt8) (hd : BL w P D dn dc ds) (hp : BV w P S m d pay) :
    Calls Tryd.prog 27 #[.slice A n c, .agg #[.int .i64 rg, .int .i64 kd, .slice D dn dc, .slice S m d]] w (AddLR w b ⟨rg, kd, ds, pay⟩) := by
  have hl := ha.len
  have hle := ha.le
  refine calls_enter Tryd.func27 rfl Tryd.ntmps27 rfl ?_
  have hE : Ext w w := Ext.refl w
  refine vs fun K1 hK1 => vR [(0, _), (1, _)] ?_
  refine Wl.does rfl rfl rfl (Does.boxA rfl rfl) ?_
  rintro _ w0_0 ⟨b3, rfl, hs3, hb3, hx0_0⟩
  have hg3 : w.heap.size ≤ b3 := Nat.le_trans hE.size hs3
  replace hE := hE.trans hx0_0
  refine vA ?_
  refine vA ?_
  refine vn (hK1 _ _ ?_)
  refine vs fun K2 hK2 => vR [(0, _), (3, _)] ?_
  refine vM ?_
  refine Wl.call rfl rfl rfl rfl Tryd.func32 rfl (by kernel_rfl) rfl (parseLR _ A n c b (ha.ext hE)) ?_
  rintro x1 w11 ⟨S1, m1, k1, rfl, hS, hx11⟩
  refine ⟨_, rfl, ?_⟩
  have hSl := hS.len
  replace hb3 := hb3.ext hx11
  replace hE := hE.trans hx11
  refine vM ?_
  refine vl (Gives.extract rfl rfl rfl) ?_
  refine vl (Gives.extract rfl rfl rfl) ?_
  refine Wl.does rfl rfl rfl (Does.alB (.agg #[(.int .i64 0), (.int .i64 0), (.slice none 0 0)]) rfl (by kernel_rfl) rfl) ?_
  rintro _ w1_5 ⟨b6, rfl, hs6, hb6, hx1_5⟩
  have hn3_6 : b3 ≠ b6 := hb3.ne hs6
  have hg6 : w.heap.size ≤ b6 := Nat.le_trans hE.size hs6
  replace hb3 := hb3.ext hx1_5
  replace hE := hE.trans hx1_5
  refine Wl.acts rfl rfl (Does.stL 3 rfl rfl rfl hb6 (by kernel_rfl) rfl rfl rfl) ?_
  rintro _ w1_6 ⟨hbn, hF1_6⟩
  replace hb3 := hb3.frA hF1_6
  replace hE := Ext.over hE hF1_6 hg6
  replace hb6 := hbn
  clear hbn
  refine vA ?_
  refine vn (hK2 _ _ ?_)
  refine Wc.seq (fun K3 hK3 => ?_)
  refine vs fun K4 hK4 => vR [(0, _), (3, _), (6, _), (7, _)] ?_
  refine vM ?_
  refine vl (Gives.neq rfl rfl rfl) ?_
  refine vn (hK4 _ _ ?_)
  refine Wc.cond _ rfl (fun h16 => ?_) (fun h16 => ?_)
  · first | replace h16 := dT h16 | replace h16 := nT h16 | skip
    refine vs fun K5 hK5 => vR [(7, _)] ?_
    refine vM ?_
    refine vA ?_
    refine vA ?_
    refine vn (hK5 _ _ ?_)
    refine Wc.ret ?_
    refine Wx.thenR ?_
    refine Wx.ret [_, _] ⟨rfl, ⟨rfl, trivial⟩⟩ ?_
    exact AddLR.no (addl_p h16) hE
  first | replace h16 := dF h16 | replace h16 := nF h16 | skip
  refine Wc.skip ?_
  refine Wx.thenN (hK3 _ _ ?_)
  refine Wc.seq (fun K6 hK6 => ?_)
  refine vs fun K7 hK7 => vK [(0, _), (3, _), (6, _)] ?_
  have hbl := par_len h16
  refine Wc.region ?_
  refine vl (Gives.ldW rfl (by kernel_rfl) rfl hb3 (by kernel_rfl)) ?_
  refine vF 0 Tryd.underlying30 ?_
  refine vL hb6 ?_
  refine Wl.call rfl rfl rfl rfl Tryd.func50 rfl (by kernel_rfl) rfl (evCheckR _ rg kd D dn dc ds S m d pay (hd.ext hE) (hp.ext hE) _) ?_
  rintro x2 w43 ⟨rfl, hx43⟩
  refine ⟨_, rfl, ?_⟩
  replace hb3 := hb3.ext hx43
  replace hb6 := hb6.ext hx43
  replace hE := hE.trans hx43
  refine vA ?_
  refine vn (hK7 _ _ ?_)
  refine vs fun K8 hK8 => vR [(0, _), (3, _), (6, _), (7, _)] ?_
  refine vM ?_
  refine vl (Gives.neq rfl rfl rfl) ?_
  refine vn (hK8 _ _ ?_)
  refine Wc.cond _ rfl (fun h23 => ?_) (fun h23 => ?_)
  · first | replace h23 := dT h23 | replace h23 := nT h23 | skip
    refine vs fun K9 hK9 => vR [(7, _)] ?_
    refine vM ?_
    refine vA ?_
    refine vA ?_
    refine vn (hK9 _ _ ?_)
    refine Wc.ret ?_
    refine Wx.thenR ?_
    refine Wx.ret [_, _] ⟨rfl, ⟨rfl, trivial⟩⟩ ?_
    exact AddLR.no (addl_e h16 h23) hE
  first | replace h23 := dF h23 | replace h23 := nF h23 | skip
  refine Wc.skip ?_
  refine Wx.thenN (hK6 _ _ ?_)
  refine Wc.seq (fun K10 hK10 => ?_)
  refine vs fun K11 hK11 => vR [(0, _), (3, _), (6, _)] ?_
  refine vF 2 Tryd.underlying30 ?_
  refine vL hb6 ?_
  refine vl (Gives.lenS rfl Tryd.underlying28 rfl) ?_
  refine vl (Gives.geq rfl rfl rfl) ?_
  refine vn (hK11 _ _ ?_)
  refine Wc.cond _ rfl (fun h28 => ?_) (fun h28 => ?_)
  · first | replace h28 := dT h28 | replace h28 := nT h28 | skip
    refine vs fun K12 hK12 => vR [] ?_
    refine vA ?_
    refine vA ?_
    refine vn (hK12 _ _ ?_)
    refine Wc.ret ?_
    refine Wx.thenR ?_
    refine Wx.ret [_, _] ⟨rfl, ⟨rfl, trivial⟩⟩ ?_
    exact AddLR.no (addl_25 h16 h23 (by omega)) hE
  first | replace h28 := dF h28 | replace h28 := nF h28 | skip
  refine Wc.skip ?_
  refine Wx.thenN (hK10 _ _ ?_)
  refine vs fun K13 hK13 => vR [(0, _), (3, _)] ?_
  refine vM ?_
  refine vl (Gives.ldW rfl (by kernel_rfl) rfl hb3 (by kernel_rfl)) ?_
  refine Wl.call rfl rfl rfl rfl Tryd.func20 rfl (by kernel_rfl) rfl (evEncR _ rg kd D dn dc ds S m d pay (hd.ext hE) (hp.ext hE)) ?_
  rintro x3 w97 ⟨S2, m2, k2, rfl, hO2, hx97⟩
  refine ⟨_, rfl, ?_⟩
  have hm2 := hO2.len
  have hm2' := evB_le ⟨rg, kd, ds, pay⟩
  replace hb3 := hb3.ext hx97
  replace hb6 := hb6.ext hx97
  replace hE := hE.trans hx97
  refine Wl.call rfl rfl rfl rfl Tryd.func46 rfl (by kernel_rfl) rfl (blobR_calls _ A n c b (ha.ext hE) (by omega) S2 m2 k2 _ (hO2.bv (P := fun _ => True) fun _ _ => trivial) (by omega)) ?_
  rintro x4 w98 ⟨S3, m3, k3, rfl, hO3, hx98⟩
  refine ⟨_, rfl, ?_⟩
  have hm3 := hO3.len
  have hzE := hE.size
  replace hb3 := hb3.ext hx98
  replace hb6 := hb6.ext hx98
  replace hE := hE.trans hx98
  refine vA ?_
  refine vn (hK13 _ _ ?_)
  refine Wc.seq (fun K14 hK14 => ?_)
  refine vs fun K15 hK15 => vR [(8, _)] ?_
  refine vM ?_
  refine vl (Gives.lenS rfl Tryd.underlying22 rfl) ?_
  refine vl (Gives.gtr rfl rfl rfl) ?_
  refine vn (hK15 _ _ ?_)
  refine Wc.cond _ rfl (fun h40 => ?_) (fun h40 => ?_)
  · first | replace h40 := dT h40 | replace h40 := nT h40 | skip
    refine vs fun K16 hK16 => vR [] ?_
    refine vA ?_
    refine vA ?_
    refine vn (hK16 _ _ ?_)
    refine Wc.ret ?_
    refine Wx.thenR ?_
    refine Wx.ret [_, _] ⟨rfl, ⟨rfl, trivial⟩⟩ ?_
    exact AddLR.no (addl_4 h16 h23 (by omega) (by omega)) hE
  first | replace h40 := dF h40 | replace h40 := nF h40 | skip
  refine Wc.skip ?_
  refine Wx.thenN (hK14 _ _ ?_)
  refine vs fun K17 hK17 => vR [(8, _)] ?_
  refine vM ?_
  refine vA ?_
  refine vA ?_
  refine vn (hK17 _ _ ?_)
  refine Wc.ret ?_
  refine Wx.ret [_, _] ⟨rfl, ⟨rfl, trivial⟩⟩ ?_
  unfold AddLR
  rw [addl_0 h16 h23 (by omega) (by omega)]
  exact ⟨S3, m3, k3, rfl, hO3.mono hzE, hE⟩
end Go.Proofs.YtnbgieccindpnaaDoor
/- Logs: the law's helper awake. -/
namespace Go.Proofs.YtnbgieccindpnaaDoor
set_option linter.all false
set_option maxRecDepth 20000
open Go.RowKit
def xA : Ev := mkE 0 3 2 [120]
theorem hasA0 : hasS 2 0 = false := by decide
theorem hasA1 : hasS 2 1 = true := by decide
theorem xA_ok : evE xA 2 = 0 := by
  refine evE_0 (by decide) (by decide) ⟨rfl, fun i hi => ?_⟩
  rcases (show i = 0 ∨ i = 1 by omega) with rfl | rfl
  · show (mkD 3 2 [120] 0).length = szE 3 2 0
    rw [mkD_n (fun h => by rw [hasA0] at h; exact absurd h.2 (by decide)), szE_n (fun h => by rw [hasA0] at h; exact absurd h.2 (by decide))]; rfl
  · show (mkD 3 2 [120] 1).length = szE 3 2 1
    rw [mkD_y (by decide) hasA1, szE_y (by decide) hasA1]
    exact sha256S_len _
def L0 : Lg := ⟨2, 5, []⟩
def L1 : Lg := ⟨2, 5, [xA]⟩
theorem rng25 : rngH 2 5 := by unfold rngH; omega
theorem L0_ok : lgOk L0 := ⟨rng25, by simp [L0], by simp [L0]⟩
theorem L1_ok : lgOk L1 := ⟨rng25, fun x hx => by rw [List.mem_singleton.1 hx]; exact xA_ok, by simp [L1]⟩
theorem L0_B : lgB L0 = hdS 2 5 := by unfold lgB L0 evT; simp
theorem L1_B : lgB L1 = hdS 2 5 ++ blobT (evB xA) := by unfold lgB L1; rw [evT_cons]; simp [evT]
theorem L1_le : (lgB L1).length ≤ 200 := by
  have h1 := hdS_le 2 5
  have h2 := evB_le xA
  rw [L1_B, List.length_append, blobT_len]; omega
theorem addA : addL (hdS 2 5) xA = (lgB L1, 0) := by
  have hp := par_fmt L0_ok (by rw [L0_B]; have := hdS_le 2 5; omega)
  rw [L0_B] at hp
  have hb : blobS (hdS 2 5) (evB xA) = lgB L1 := by rw [blobS_eq _ _ (by have := evB_le xA; omega), L1_B]
  have hl := L1_le
  rw [addl_0 (by rw [hp]) (by rw [hp]; exact xA_ok) (by rw [hp]; decide) (by rw [hb]; omega), hb]
theorem parA : parS (lgB L1) = (L1, 0) := par_fmt L1_ok (by have := L1_le; omega)
theorem addAC {P P' : Nat → Prop} (w : World) (A : Option Addr) (n c : Nat) (ha : BV w P' A n c (hdS 2 5)) (D : Option Addr) (dn dc : Nat) (S : Option Addr) (m d : Nat) (hd : BL w P D dn dc xA.ds) (hp : BV w P S m d xA.pay) :
    Calls Tryd.prog 16 #[.slice A n c, .agg #[.int .i64 0, .int .i64 3, .slice D dn dc, .slice S m d]] w fun e w' => ∃ S m k, e = .returned (.tuple #[.slice S m k, .int .i64 0]) ∧ OB w' w.heap.size 5 S m k (lgB L1) ∧ Ext w w' := by
  have h := addLP w A n c _ ha 0 3 D dn dc xA.ds S m d xA.pay hd hp
  have e : (⟨0, 3, xA.ds, xA.pay⟩ : Ev) = xA := rfl
  unfold AddLR at h
  rw [e, addA] at h
  exact h
theorem parAC {P : Nat → Prop} (w : World) (A : Option Addr) (n c : Nat) (ha : BV w P A n c (lgB L1)) :
    Calls Tryd.prog 22 #[.slice A n c] w fun e w' => ∃ S m k, e = .returned (.tuple #[.agg #[.int .i64 2, .int .i64 5, .slice S m k], .int .i64 0]) ∧ SL Rp.evt w' (fun q => w.heap.size ≤ q) S m k [xA] ∧ Ext w w' := by
  have h := parseLP w A n c _ ha
  unfold LParR at h
  rw [parA] at h
  exact h
set_option maxRecDepth 20000 in
set_option maxHeartbeats 2000000 in
theorem awakeL (w : World) (hT : Tab w) : Calls Tryd.prog 10 #[] w fun e w' => e = .returned (.bool true) ∧ Ext w w' := by
  refine calls_enter Tryd.func10 rfl Tryd.ntmps10 rfl ?_
  have hE : Ext w w := Ext.refl w
  refine vs fun K1 hK1 => vR [] ?_
  refine vA ?_
  refine vn (hK1 _ _ ?_)
  refine vs fun K2 hK2 => vR [] ?_
  refine Wl.call rfl rfl rfl rfl Tryd.func14 rfl (by kernel_rfl) rfl (headP _ 2 5) ?_
  rintro x1 w11 ⟨S1, m1, k1, rfl, hO1, hx11⟩
  refine ⟨_, rfl, ?_⟩
  have hm1 := hO1.len
  rw [hdS_len rng25] at hm1
  have hB1 := hO1.bv (P := fun _ => True) fun _ _ => trivial
  replace hE := hE.trans hx11
  refine vA ?_
  refine vn (hK2 _ _ ?_)
  refine vs fun K3 hK3 => vR [(1, _)] ?_
  refine vM ?_
  refine Wl.does rfl rfl rfl (Does.lit rfl Tryd.underlying22 infoB2 rfl rfl rfl rfl rfl) ?_
  rintro _ w21 ⟨g21, rfl, hs21, hk21, hx21⟩
  have hg21 : w.heap.size ≤ g21 := Nat.le_trans hE.size hs21
  replace hB1 := hB1.bd.ext hx21
  replace hE := hE.trans hx21
  refine Wl.does rfl rfl rfl (Does.convB (l := [120]) rfl Tryd.underlying22 Tryd.underlying5 rfl hk21 rfl rfl rfl (by omega)) ?_
  rintro _ w22 ⟨rfl, hB2, hF22⟩
  replace hB1 := hB1.fr (hF22.mono fun q hq => by omega)
  replace hE := Ext.over hE hF22 hg21
  refine Wl.call rfl rfl rfl rfl Tryd.func33 rfl (by kernel_rfl) rfl (makePP _ (hT.ext hE) 0 3 2 _ _ _ [120] hB2 (by omega)) ?_
  rintro x2 w23 ⟨D, dc, S2, m2, k2, rfl, hD, hP, hx23⟩
  refine ⟨_, rfl, ?_⟩
  replace hB1 := hB1.ext hx23
  replace hE := hE.trans hx23
  refine Wl.call rfl rfl rfl rfl Tryd.func16 rfl (by kernel_rfl) rfl (addAC _ S1 m1 k1 hB1 D 2 dc S2 m2 k2 (hD.mono (P' := fun _ => True) fun _ _ => trivial) (hP.mono (P' := fun _ => True) fun _ _ => trivial)) ?_
  rintro x3 w24 ⟨S3, m3, k3, rfl, hO3, hx24⟩
  refine ⟨_, rfl, ?_⟩
  replace hB1 := hB1.ext hx24
  replace hE := hE.trans hx24
  refine vM ?_
  refine vl (Gives.extract rfl rfl rfl) ?_
  refine vl (Gives.extract rfl rfl rfl) ?_
  refine vA ?_
  refine vA ?_
  refine vn (hK3 _ _ ?_)
  refine vs fun K4 hK4 => vR [(1, _), (2, _), (3, _)] ?_
  refine vM ?_
  refine Wl.call rfl rfl rfl rfl Tryd.func22 rfl (by kernel_rfl) rfl (parAC _ S3 m3 k3 (hO3.bv (P := fun _ => True) fun _ _ => trivial)) ?_
  rintro x4 w31 ⟨S4, m4, k4, rfl, hS4, hx31⟩
  refine ⟨_, rfl, ?_⟩
  have hm4 := hS4.len
  replace hB1 := hB1.bd.ext hx31
  replace hE := hE.trans hx31
  refine vM ?_
  refine vl (Gives.extract rfl rfl rfl) ?_
  refine vl (Gives.extract rfl rfl rfl) ?_
  refine Wl.does rfl rfl rfl (Does.alB (.agg #[(.int .i64 0), (.int .i64 0), (.slice none 0 0)]) rfl (by kernel_rfl) rfl) ?_
  rintro _ w3_5 ⟨b4, rfl, hs4, hb4, hx3_5⟩
  have hg4 : w.heap.size ≤ b4 := Nat.le_trans hE.size hs4
  replace hE := hE.trans hx3_5
  refine Wl.acts rfl rfl (Does.stL 3 rfl rfl rfl hb4 (by kernel_rfl) rfl rfl rfl) ?_
  rintro _ w3_6 ⟨hbn, hF3_6⟩
  replace hE := Ext.over hE hF3_6 hg4
  replace hb4 := hbn
  clear hbn
  replace hB1 := (hB1.bd.ext hx3_5).fr (hF3_6.mono fun q hq => by omega)
  refine vA ?_
  refine vn (hK4 _ _ ?_)
  refine vs fun K5 hK5 => vK [(1, _), (3, _), (4, _), (5, _)] ?_
  obtain ⟨gA, oA, rfl, hgA⟩ := hB1.hd (show 0 < m1 by omega)
  have h83 : (hdS 2 5)[0]? = some 83 := by rw [hdS_y rng25]; rfl
  have h5 : (hdS 2 5)[10]? = some 5 := by rw [hdS_y rng25]; rfl
  refine Wc.region ?_
  refine vM ?_
  refine vl (Gives.lenS rfl Tryd.underlying22 rfl) ?_
  refine vl (Gives.eql rfl rfl rfl) ?_
  refine vM ?_
  refine Wl.guardT rfl rfl rfl (by first | exact decide_eq_true (by omega) | rfl) ?_
  refine vM ?_
  refine vl (Gives.ixS (i := 0) rfl Tryd.underlying22 (by kernel_rfl) rfl rfl (by omega) (by omega)) ?_
  refine vl (Gives.ldC rfl (by kernel_rfl) rfl (hB1.cellAt h83)) ?_
  refine vl (Gives.eql rfl rfl rfl) ?_
  refine vT ?_
  refine vM ?_
  refine Wl.guardT rfl rfl rfl rfl ?_
  refine vM ?_
  refine vl (Gives.ixS (i := 10) rfl Tryd.underlying22 (by kernel_rfl) rfl rfl (by omega) (by omega)) ?_
  refine vl (Gives.ldC rfl (by kernel_rfl) rfl (hB1.cellAt h5)) ?_
  refine vl (Gives.eql rfl rfl rfl) ?_
  refine vT ?_
  refine vM ?_
  refine Wl.guardT rfl rfl rfl rfl ?_
  refine vM ?_
  refine vl (Gives.eql rfl rfl rfl) ?_
  refine vT ?_
  refine vM ?_
  refine Wl.guardT rfl rfl rfl rfl ?_
  refine vM ?_
  refine vl (Gives.eql rfl rfl rfl) ?_
  refine vT ?_
  refine vM ?_
  refine Wl.guardT rfl rfl rfl rfl ?_
  refine vF 2 Tryd.underlying30 ?_
  refine vL hb4 ?_
  refine vl (Gives.lenS rfl Tryd.underlying28 rfl) ?_
  refine vl (Gives.eql rfl rfl rfl) ?_
  refine vT ?_
  refine vM ?_
  refine Wl.guardT rfl rfl rfl (by first | exact decide_eq_true (by simp at hm4; omega) | rfl) ?_
  refine vF 1 Tryd.underlying30 ?_
  refine vL hb4 ?_
  refine vl (Gives.eql rfl rfl rfl) ?_
  refine vT ?_
  refine vM ?_
  refine Wl.guardT rfl rfl rfl rfl ?_
  refine vF 0 Tryd.underlying30 ?_
  refine vL hb4 ?_
  refine vl (Gives.eql rfl rfl rfl) ?_
  refine vT ?_
  refine vM ?_
  refine Wl.guardT rfl rfl rfl rfl ?_
  refine Wl.call rfl rfl rfl rfl Tryd.func14 rfl (by kernel_rfl) rfl (headP _ 0 0) ?_
  rintro x5 w440 ⟨S5, m5, k5, rfl, hO5, hx440⟩
  refine ⟨_, rfl, ?_⟩
  have hm5 := hO5.len
  rw [hdS_n (by unfold rngH; omega)] at hm5
  replace hb4 := hb4.ext hx440
  replace hE := hE.trans hx440
  refine vl (Gives.lenS rfl Tryd.underlying22 rfl) ?_
  refine vl (Gives.eql rfl rfl rfl) ?_
  refine vT ?_
  refine vA ?_
  refine vn (hK5 _ _ ?_)
  refine Wc.ret ?_
  refine Wx.ret [_] ⟨rfl, trivial⟩ ?_
  exact ⟨ret_bool (decide_eq_true (by simp at hm5; omega)), hE⟩
end Go.Proofs.YtnbgieccindpnaaDoor
