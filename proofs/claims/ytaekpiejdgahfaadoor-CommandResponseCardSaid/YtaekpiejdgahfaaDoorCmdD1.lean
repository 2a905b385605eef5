/- Commands: the head of a byte form. -/
import Derived.Test.YtaekpiejdgahfaaDoorCmdO
namespace Go.Proofs.YtaekpiejdgahfaaDoor
set_option linter.all false
open Go.RowKit
def lenAt (l : List UInt8) : Nat := (gb1 l 2).toNat * 256 + (gb1 l 3).toNat
def startE (l : List UInt8) : Int := if 2048 < l.length then 4 else if l.length < 5 then 2 else if gb1 l 0 ≠ 83 ∨ gb1 l 1 ≠ 87 then 5 else if l.length < lenAt l then 2 else if lenAt l < l.length then 3 else 0
def startC (l : List UInt8) : Int := if startE l = 0 then ((gb1 l 4).toNat : Int) else 0
theorem bits_or2 (x y : UInt8) : bits BinOp.or IntKind.i64 (IntKind.i64.wrap ((x.toNat : Int) * 2 ^ 8)) (y.toNat : Int) = ((x.toNat * 256 + y.toNat : Nat) : Int) := by
  have hx := x.toNat_lt
  have hy := y.toNat_lt
  have h3 : IntKind.i64.wrap ((x.toNat : Int) * 2 ^ 8) = ((x.toNat * 256 : Nat) : Int) := by rw [IntWalk.i64_in _ (by omega)]; omega
  rw [h3, bits_or_i64 _ _ (by omega) (by omega)]
  have := Nat.shiftLeft_add_eq_or_of_lt (i := 8) (show y.toNat < 2 ^ 8 by omega) x.toNat
  rw [Nat.shiftLeft_eq] at this
  rw [this]
theorem u8_ne {x : UInt8} {k : UInt8} : ((x.toNat : Int) = (k.toNat : Int)) ↔ x = k := by
  constructor
  · intro h; exact UInt8.toNat_inj.1 (by omega)
  · rintro rfl; rfl
theorem start_eq {l : List UInt8} {c e : Int} (he : startE l = e) (hc : (if e = 0 then ((gb1 l 4).toNat : Int) else 0) = c) : Ending.returned (resV [.int .i64 c, .int .i64 e]) = .returned (.tuple #[.int .i64 (startC l), .int .i64 (startE l)]) := by
  unfold startC; rw [he, hc]; rfl
theorem startP_calls {P : Nat → Prop} (w : World) (hT : Tabs w) (A : Option Addr) (n c : Nat) (l : List UInt8) (ha : BV w P A n c l) :
    Calls Tryd.prog 39 #[.slice A n c] w fun e w' => e = .returned (.tuple #[.int .i64 (startC l), .int .i64 (startE l)]) ∧ Quiet w w' := by
  have hl := ha.len
  refine calls_enter Tryd.func39 rfl Tryd.ntmps39 rfl ?_
  refine Wc.seq (fun K1 hK1 => ?_)
  refine Wc.keep [(0, _)] (.cons rfl (.nil)) ?_
  refine Wc.region ?_
  refine Wl.val rfl rfl rfl (Gives.assign rfl rfl) ?_
  refine Wl.val rfl rfl rfl (Gives.assign rfl rfl) ?_
  refine Wl.nil ?_
  refine Wx.thenN (hK1 _ _ ?_)
  refine Wc.seq (fun K2 hK2 => ?_)
  refine Wc.seq (fun K3 hK3 => ?_)
  refine Wc.keep [(0, _)] (.cons rfl (.nil)) ?_
  refine Wc.region ?_
  refine Wl.val rfl rfl rfl (Gives.move rfl rfl) ?_
  refine Wl.val rfl rfl rfl (Gives.lenS rfl Tryd.underlying36 rfl) ?_
  refine Wl.val rfl rfl rfl (Gives.gtr rfl rfl rfl) ?_
  refine Wl.nil ?_
  refine Wx.thenN (hK3 _ _ ?_)
  refine Wc.cond _ rfl (fun h7 => ?_) (fun h7 => ?_)
  · (first | replace h7 := of_decide_eq_true h7 | replace h7 := nd_true h7 | skip)
    refine Wc.seq (fun K4 hK4 => ?_)
    refine Wc.keep [] (.nil) ?_
    refine Wc.region ?_
    refine Wl.val rfl rfl rfl (Gives.assign rfl rfl) ?_
    refine Wl.val rfl rfl rfl (Gives.assign rfl rfl) ?_
    refine Wl.nil ?_
    refine Wx.thenN (hK4 _ _ ?_)
    refine Wc.ret ?_
    refine Wx.thenR ?_
    refine Wx.ret [_, _] ⟨rfl, ⟨rfl, trivial⟩⟩ ?_
    exact ⟨start_eq (by unfold startE; rw [if_pos (by omega)]) rfl, Quiet.refl _⟩
  · (first | replace h7 := of_decide_eq_false h7 | replace h7 := nd_false h7 | skip)
    refine Wc.skip ?_
    refine Wx.thenN (hK2 _ _ ?_)
    refine Wc.seq (fun K5 hK5 => ?_)
    refine Wc.seq (fun K6 hK6 => ?_)
    refine Wc.keep [(0, _)] (.cons rfl (.nil)) ?_
    refine Wc.region ?_
    refine Wl.val rfl rfl rfl (Gives.move rfl rfl) ?_
    refine Wl.val rfl rfl rfl (Gives.lenS rfl Tryd.underlying36 rfl) ?_
    refine Wl.val rfl rfl rfl (Gives.lss rfl rfl rfl) ?_
    refine Wl.nil ?_
    refine Wx.thenN (hK6 _ _ ?_)
    refine Wc.cond _ rfl (fun h10 => ?_) (fun h10 => ?_)
    · (first | replace h10 := of_decide_eq_true h10 | replace h10 := nd_true h10 | skip)
      refine Wc.seq (fun K7 hK7 => ?_)
      refine Wc.keep [] (.nil) ?_
      refine Wc.region ?_
      refine Wl.val rfl rfl rfl (Gives.assign rfl rfl) ?_
      refine Wl.val rfl rfl rfl (Gives.assign rfl rfl) ?_
      refine Wl.nil ?_
      refine Wx.thenN (hK7 _ _ ?_)
      refine Wc.ret ?_
      refine Wx.thenR ?_
      refine Wx.ret [_, _] ⟨rfl, ⟨rfl, trivial⟩⟩ ?_
      exact ⟨start_eq (by unfold startE; rw [if_neg (by omega), if_pos (by omega)]) rfl, Quiet.refl _⟩
    · (first | replace h10 := of_decide_eq_false h10 | replace h10 := nd_false h10 | skip)
      refine Wc.skip ?_
      refine Wx.thenN (hK5 _ _ ?_)
      refine Wc.seq (fun K8 hK8 => ?_)
      refine Wc.seq (fun K9 hK9 => ?_)
      refine Wc.keep [(0, _)] (.cons rfl (.nil)) ?_
      obtain ⟨b, off, rfl, _⟩ := ha.at_ (show 0 < n by omega)
      refine Wc.regionD (fun _ => true) Eq (.read 0 (.read 1 (.read 2 (.read 3 (.read 4 (.read 5 (.read 6 (.read 7 (.read 8 (.read 9 (.read 10 (.read 11 .tail)))))))))))) 12 (by kernel_rfl) (by kernel_rfl) (by kernel_rfl) (fun _ => rfl) (fun _ _ _ h k => h.trans k) Quiet ⟨1, rfl⟩ ?_
      intro w5 hR5
      have hT5 := hT.ext hR5.ext
      have ha5 := ha.ext hR5.ext
      refine RunE.readE rfl rfl rfl rfl (Gives.move rfl rfl) ?_
      refine RunE.readE rfl rfl rfl rfl (Gives.ixS (i := 0) rfl Tryd.underlying36 (by kernel_rfl) rfl rfl rfl (by omega)) ?_
      refine RunE.readE rfl rfl rfl rfl (Gives.ldC rfl (by kernel_rfl) rfl (ha5.cellAt (gb1_some l 0 (by omega)))) ?_
      refine RunE.readE rfl rfl rfl rfl (Gives.ixA (i := 0) rfl Tryd.underlying90 (by kernel_rfl) rfl rfl rfl (by omega)) ?_
      refine RunE.readE rfl rfl rfl rfl (Gives.ldC rfl (by kernel_rfl) rfl (hT5.1.cell0 rfl)) ?_
      refine RunE.readE rfl rfl rfl rfl (Gives.neq rfl rfl rfl) ?_
      refine RunE.readE rfl rfl rfl rfl (Gives.move rfl rfl) ?_
      refine RunE.split (t := 17) rfl (fun h17 => ?_) (fun h17 => ?_)
      · (first | replace h17 := of_decide_eq_true h17 | replace h17 := nd_true h17 | skip)
        refine RunE.pass rfl rfl rfl rfl ?_
        refine RunE.pass rfl rfl rfl rfl ?_
        refine RunE.pass rfl rfl rfl rfl ?_
        refine RunE.pass rfl rfl rfl rfl ?_
        refine RunE.pass rfl rfl rfl rfl ?_
        refine RunE.tail rfl ?_
        refine Wl.pass rfl rfl rfl ?_
        refine Wl.val rfl rfl rfl (Gives.pickT rfl rfl rfl rfl) ?_
        refine Wl.nil ?_
        refine Wx.thenN (hK9 _ _ ?_)
        refine Wc.condT rfl rfl ?_
        refine Wc.seq (fun K10 hK10 => ?_)
        refine Wc.keep [] (.nil) ?_
        refine Wc.region ?_
        refine Wl.val rfl rfl rfl (Gives.assign rfl rfl) ?_
        refine Wl.val rfl rfl rfl (Gives.assign rfl rfl) ?_
        refine Wl.nil ?_
        refine Wx.thenN (hK10 _ _ ?_)
        refine Wc.ret ?_
        refine Wx.thenR ?_
        refine Wx.ret [_, _] ⟨rfl, ⟨rfl, trivial⟩⟩ ?_
        have hb0 : gb1 l 0 ≠ 83 := fun h => h17 (by rw [h]; rfl)
        exact ⟨start_eq (by unfold startE; rw [if_neg (by omega), if_neg (by omega), if_pos (Or.inl hb0)]) rfl, hR5⟩
      · (first | replace h17 := of_decide_eq_false h17 | replace h17 := nd_false h17 | skip)
        refine RunE.readE rfl rfl rfl rfl (Gives.move rfl rfl) ?_
        refine RunE.readE rfl rfl rfl rfl (Gives.ixS (i := 1) rfl Tryd.underlying36 (by kernel_rfl) rfl rfl rfl (by omega)) ?_
        refine RunE.readE rfl rfl rfl rfl (Gives.ldC rfl (by kernel_rfl) rfl (ha5.cellAt (gb1_some l 1 (by omega)))) ?_
        refine RunE.readE rfl rfl rfl rfl (Gives.ixA (i := 1) rfl Tryd.underlying90 (by kernel_rfl) rfl rfl rfl (by omega)) ?_
        refine RunE.readE rfl rfl rfl rfl (Gives.ldC rfl (by kernel_rfl) rfl (hT5.1.cell0 rfl)) ?_
        refine RunE.tail rfl ?_
        refine Wl.val rfl rfl rfl (Gives.neq rfl rfl rfl) ?_
        refine Wl.val rfl rfl rfl (Gives.pickF rfl rfl rfl rfl) ?_
        refine Wl.nil ?_
        refine Wx.thenN (hK9 _ _ ?_)
        refine Wc.cond _ rfl (fun h24 => ?_) (fun h24 => ?_)
        · (first | replace h24 := of_decide_eq_true h24 | replace h24 := nd_true h24 | skip)
          refine Wc.seq (fun K11 hK11 => ?_)
          refine Wc.keep [] (.nil) ?_
          refine Wc.region ?_
          refine Wl.val rfl rfl rfl (Gives.assign rfl rfl) ?_
          refine Wl.val rfl rfl rfl (Gives.assign rfl rfl) ?_
          refine Wl.nil ?_
          refine Wx.thenN (hK11 _ _ ?_)
          refine Wc.ret ?_
          refine Wx.thenR ?_
          refine Wx.ret [_, _] ⟨rfl, ⟨rfl, trivial⟩⟩ ?_
          have hb1 : gb1 l 1 ≠ 87 := fun h => h24 (by rw [h]; rfl)
          exact ⟨start_eq (by unfold startE; rw [if_neg (by omega), if_neg (by omega), if_pos (Or.inr hb1)]) rfl, hR5⟩
        · (first | replace h24 := of_decide_eq_false h24 | replace h24 := nd_false h24 | skip)
          refine Wc.skip ?_
          refine Wx.thenN (hK8 _ _ ?_)
          refine Wc.seq (fun K12 hK12 => ?_)
          refine Wc.keep [(0, _)] (.cons rfl (.nil)) ?_
          have hb0 : gb1 l 0 = 83 := u8_ne.1 h17
          have hb1 : gb1 l 1 = 87 := u8_ne.1 h24
          have hok : ¬ (gb1 l 0 ≠ 83 ∨ gb1 l 1 ≠ 87) := by rw [hb0, hb1]; simp
          refine Wc.regionD (fun _ => true) Eq (.read 0 (.read 1 (.read 2 (.read 3 (.read 4 (.read 5 (.read 6 (.read 7 (.read 8 .tail))))))))) 9 (by kernel_rfl) (by kernel_rfl) (by kernel_rfl) (fun _ => rfl) (fun _ _ _ h k => h.trans k) Quiet ⟨1, rfl⟩ ?_
          intro w7 hR7
          have ha7 := ha5.ext hR7.ext
          have b2 := (gb1 l 2).toNat_lt
          have b3 := (gb1 l 3).toNat_lt
          have b4 := (gb1 l 4).toNat_lt
          refine RunE.readE rfl rfl rfl rfl (Gives.move rfl rfl) ?_
          refine RunE.readE rfl rfl rfl rfl (Gives.ixS (i := 2) rfl Tryd.underlying36 (by kernel_rfl) rfl rfl rfl (by omega)) ?_
          refine RunE.readE rfl rfl rfl rfl (Gives.ldC rfl (by kernel_rfl) rfl (ha7.cellAt (gb1_some l 2 (by omega)))) ?_
          refine RunE.readE rfl rfl rfl rfl (Gives.conv rfl Tryd.underlying5 Tryd.underlying3 rfl (by first | exact IntWalk.i64_in _ (by omega) | exact u64_in _ (by omega) | exact u32_in _ (by omega) | exact u8_in _ (by omega) | exact rfl)) ?_
          refine RunE.readE rfl rfl rfl rfl (Gives.shlN 8 rfl rfl rfl rfl rfl) ?_
          refine RunE.readE rfl rfl rfl rfl (Gives.move rfl rfl) ?_
          refine RunE.readE rfl rfl rfl rfl (Gives.ixS (i := 3) rfl Tryd.underlying36 (by kernel_rfl) rfl rfl rfl (by omega)) ?_
          refine RunE.readE rfl rfl rfl rfl (Gives.ldC rfl (by kernel_rfl) rfl (ha7.cellAt (gb1_some l 3 (by omega)))) ?_
          refine RunE.readE rfl rfl rfl rfl (Gives.conv rfl Tryd.underlying5 Tryd.underlying3 rfl (by first | exact IntWalk.i64_in _ (by omega) | exact u64_in _ (by omega) | exact u32_in _ (by omega) | exact u8_in _ (by omega) | exact rfl)) ?_
          refine RunE.tail rfl ?_
          refine Wl.val rfl rfl rfl (Gives.bits .or (by simp) rfl rfl rfl (bits_or2 _ _)) ?_
          refine Wl.val rfl rfl rfl (Gives.assign rfl rfl) ?_
          refine Wl.nil ?_
          refine Wx.thenN (hK12 _ _ ?_)
          refine Wc.seq (fun K13 hK13 => ?_)
          refine Wc.seq (fun K14 hK14 => ?_)
          refine Wc.keep [(0, _), (4, _)] (.cons rfl (.cons rfl (.nil))) ?_
          refine Wc.region ?_
          refine Wl.val rfl rfl rfl (Gives.move rfl rfl) ?_
          refine Wl.val rfl rfl rfl (Gives.move rfl rfl) ?_
          refine Wl.val rfl rfl rfl (Gives.lenS rfl Tryd.underlying36 rfl) ?_
          refine Wl.val rfl rfl rfl (Gives.gtr rfl rfl rfl) ?_
          refine Wl.nil ?_
          refine Wx.thenN (hK14 _ _ ?_)
          refine Wc.cond _ rfl (fun h38 => ?_) (fun h38 => ?_)
          · (first | replace h38 := of_decide_eq_true h38 | replace h38 := nd_true h38 | skip)
            refine Wc.seq (fun K15 hK15 => ?_)
            refine Wc.keep [] (.nil) ?_
            refine Wc.region ?_
            refine Wl.val rfl rfl rfl (Gives.assign rfl rfl) ?_
            refine Wl.val rfl rfl rfl (Gives.assign rfl rfl) ?_
            refine Wl.nil ?_
            refine Wx.thenN (hK15 _ _ ?_)
            refine Wc.ret ?_
            refine Wx.thenR ?_
            refine Wx.ret [_, _] ⟨rfl, ⟨rfl, trivial⟩⟩ ?_
            exact ⟨start_eq (by unfold startE; rw [if_neg (by omega), if_neg (by omega), if_neg hok, if_pos (by unfold lenAt; omega)]) rfl, hR5.trans hR7⟩
          · (first | replace h38 := of_decide_eq_false h38 | replace h38 := nd_false h38 | skip)
            refine Wc.skip ?_
            refine Wx.thenN (hK13 _ _ ?_)
            refine Wc.seq (fun K16 hK16 => ?_)
            refine Wc.seq (fun K17 hK17 => ?_)
            refine Wc.keep [(0, _), (4, _)] (.cons rfl (.cons rfl (.nil))) ?_
            refine Wc.region ?_
            refine Wl.val rfl rfl rfl (Gives.move rfl rfl) ?_
            refine Wl.val rfl rfl rfl (Gives.move rfl rfl) ?_
            refine Wl.val rfl rfl rfl (Gives.lenS rfl Tryd.underlying36 rfl) ?_
            refine Wl.val rfl rfl rfl (Gives.lss rfl rfl rfl) ?_
            refine Wl.nil ?_
            refine Wx.thenN (hK17 _ _ ?_)
            refine Wc.cond _ rfl (fun h42 => ?_) (fun h42 => ?_)
            · (first | replace h42 := of_decide_eq_true h42 | replace h42 := nd_true h42 | skip)
              refine Wc.seq (fun K18 hK18 => ?_)
              refine Wc.keep [] (.nil) ?_
              refine Wc.region ?_
              refine Wl.val rfl rfl rfl (Gives.assign rfl rfl) ?_
              refine Wl.val rfl rfl rfl (Gives.assign rfl rfl) ?_
              refine Wl.nil ?_
              refine Wx.thenN (hK18 _ _ ?_)
              refine Wc.ret ?_
              refine Wx.thenR ?_
              refine Wx.ret [_, _] ⟨rfl, ⟨rfl, trivial⟩⟩ ?_
              exact ⟨start_eq (by unfold startE; rw [if_neg (by omega), if_neg (by omega), if_neg hok, if_neg (by unfold lenAt; omega), if_pos (by unfold lenAt; omega)]) rfl, hR5.trans hR7⟩
            · (first | replace h42 := of_decide_eq_false h42 | replace h42 := nd_false h42 | skip)
              refine Wc.skip ?_
              refine Wx.thenN (hK16 _ _ ?_)
              refine Wc.seq (fun K19 hK19 => ?_)
              refine Wc.keep [(0, _)] (.cons rfl (.nil)) ?_
              refine Wc.region ?_
              refine Wl.val rfl rfl rfl (Gives.move rfl rfl) ?_
              refine Wl.val rfl rfl rfl (Gives.ixS (i := 4) rfl Tryd.underlying36 (by kernel_rfl) rfl rfl rfl (by omega)) ?_
              refine Wl.val rfl rfl rfl (Gives.ldC rfl (by kernel_rfl) rfl (ha7.cellAt (gb1_some l 4 (by omega)))) ?_
              refine Wl.val rfl rfl rfl (Gives.conv rfl Tryd.underlying5 Tryd.underlying3 rfl (by first | exact IntWalk.i64_in _ (by omega) | exact u64_in _ (by omega) | exact u32_in _ (by omega) | exact u8_in _ (by omega) | exact rfl)) ?_
              refine Wl.val rfl rfl rfl (Gives.assign rfl rfl) ?_
              refine Wl.val rfl rfl rfl (Gives.assign rfl rfl) ?_
              refine Wl.nil ?_
              refine Wx.thenN (hK19 _ _ ?_)
              refine Wc.ret ?_
              refine Wx.ret [_, _] ⟨rfl, ⟨rfl, trivial⟩⟩ ?_
              exact ⟨start_eq (by unfold startE; rw [if_neg (by omega), if_neg (by omega), if_neg hok, if_neg (by unfold lenAt; omega), if_neg (by unfold lenAt; omega)]) (by rw [if_pos rfl]), hR5.trans hR7⟩
end Go.Proofs.YtaekpiejdgahfaaDoor
