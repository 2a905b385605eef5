/- The reference's SHA-256: the sum. -/
import Derived.Test.YtnbgieccindpnaaDoorHashV
import Derived.Test.YtnbgieccindpnaaDoorHashR3
namespace Go.Proofs.YtnbgieccindpnaaDoor
set_option linter.all false
set_option maxRecDepth 20000
open Go.RowKit
theorem word_calls2 {P : Nat → Prop} (w : World) (A : Option Addr) (n c : Nat) (l : List UInt8) (ha : BV w P A n c l) (t : Nat) (ht : 4 * t + 3 < n) :
    Calls Tryd.prog 98 #[.slice A n c, .int .i64 t] w fun e w' => e = .returned (.int .u32 ((wordS l t).toNat : Int)) ∧ Quiet w w' := by
  have hle := ha.le
  obtain ⟨b, off, x0, rfl, hl0, hb0, hc0⟩ := ha.get (show 4 * t < n by omega)
  obtain ⟨b1, off1, x1, hb1, hl1, _, hc1⟩ := ha.get (show 4 * t + 1 < n by omega)
  injection hb1 with hb1; injection hb1 with hb1 hb2; subst hb1; subst hb2
  obtain ⟨b1, off1, x2, hb1, hl2, _, hc2⟩ := ha.get (show 4 * t + 2 < n by omega)
  injection hb1 with hb1; injection hb1 with hb1 hb2; subst hb1; subst hb2
  obtain ⟨b1, off1, x3, hb1, hl3, _, hc3⟩ := ha.get (show 4 * t + 3 < n by omega)
  injection hb1 with hb1; injection hb1 with hb1 hb2; subst hb1; subst hb2
  refine calls_enter Tryd.func98 rfl Tryd.ntmps98 rfl ?_
  refine Wc.seq (fun K1 hK1 => ?_)
  refine Wc.keep [(0, _), (1, _)] (.cons rfl (.cons rfl (.nil))) ?_
  refine Wc.region ?_
  refine Wl.val rfl rfl rfl (Gives.assign rfl rfl) ?_
  refine Wl.nil ?_
  refine Wx.thenN (hK1 _ _ ?_)
  refine Wc.seq (fun K2 hK2 => ?_)
  refine Wc.keep [(0, _), (1, _)] (.cons rfl (.cons rfl (.nil))) ?_
  refine Wc.regionD (fun _ => true) Eq (.read 0 (.read 1 (.read 2 (.read 3 (.read 4 (.read 5 (.read 6 (.read 7 (.read 8 (.read 9 (.read 10 (.read 11 (.read 12 (.read 13 (.read 14 (.read 15 (.read 16 (.read 17 (.read 18 (.read 19 (.read 20 (.read 21 (.read 22 (.read 23 (.read 24 (.read 25 (.read 26 (.read 27 (.read 28 (.read 29 (.read 30 (.read 31 .tail)))))))))))))))))))))))))))))))) 32 (by kernel_rfl) (by kernel_rfl) (by kernel_rfl) (fun _ => rfl) (fun _ _ _ h k => h.trans k) Quiet ⟨1, rfl⟩ ?_
  intro w1 hR1
  have hcell : ∀ p, w1.cell? p = w.cell? p := fun p => by obtain ⟨q, rfl⟩ := hR1; rfl
  refine RunE.readE rfl rfl rfl rfl (Gives.move rfl rfl) ?_
  refine RunE.readE rfl rfl rfl rfl (Gives.move rfl rfl) ?_
  refine RunE.readE rfl rfl rfl rfl (Gives.mul rfl rfl rfl (by first | exact IntWalk.i64_in _ (by omega) | exact u64_in _ (by omega) | exact u32_in _ (by omega) | exact u8_in _ (by omega) | exact rfl)) ?_
  refine RunE.readE rfl rfl rfl rfl (Gives.ixS (i := 4 * t) rfl Tryd.underlying22 (by kernel_rfl) rfl rfl (by omega) (by omega)) ?_
  refine RunE.readE rfl rfl rfl rfl (Gives.ldC rfl (by kernel_rfl) rfl ((hcell _).trans hc0)) ?_
  refine RunE.readE rfl rfl rfl rfl (Gives.u8u32 rfl Tryd.underlying5 Tryd.underlying98 rfl) ?_
  refine RunE.readE rfl rfl rfl rfl (Gives.u32shl 24 rfl rfl rfl (by omega)) ?_
  refine RunE.readE rfl rfl rfl rfl (Gives.move rfl rfl) ?_
  refine RunE.readE rfl rfl rfl rfl (Gives.move rfl rfl) ?_
  refine RunE.readE rfl rfl rfl rfl (Gives.mul rfl rfl rfl (by first | exact IntWalk.i64_in _ (by omega) | exact u64_in _ (by omega) | exact u32_in _ (by omega) | exact u8_in _ (by omega) | exact rfl)) ?_
  refine RunE.readE rfl rfl rfl rfl (Gives.add rfl rfl rfl (by first | exact IntWalk.i64_in _ (by omega) | exact u64_in _ (by omega) | exact u32_in _ (by omega) | exact u8_in _ (by omega) | exact rfl)) ?_
  refine RunE.readE rfl rfl rfl rfl (Gives.ixS (i := 4 * t + 1) rfl Tryd.underlying22 (by kernel_rfl) rfl rfl (by omega) (by omega)) ?_
  refine RunE.readE rfl rfl rfl rfl (Gives.ldC rfl (by kernel_rfl) rfl ((hcell _).trans hc1)) ?_
  refine RunE.readE rfl rfl rfl rfl (Gives.u8u32 rfl Tryd.underlying5 Tryd.underlying98 rfl) ?_
  refine RunE.readE rfl rfl rfl rfl (Gives.u32shl 16 rfl rfl rfl (by omega)) ?_
  refine RunE.readE rfl rfl rfl rfl (Gives.u32or rfl rfl rfl) ?_
  refine RunE.readE rfl rfl rfl rfl (Gives.move rfl rfl) ?_
  refine RunE.readE rfl rfl rfl rfl (Gives.move rfl rfl) ?_
  refine RunE.readE rfl rfl rfl rfl (Gives.mul rfl rfl rfl (by first | exact IntWalk.i64_in _ (by omega) | exact u64_in _ (by omega) | exact u32_in _ (by omega) | exact u8_in _ (by omega) | exact rfl)) ?_
  refine RunE.readE rfl rfl rfl rfl (Gives.add rfl rfl rfl (by first | exact IntWalk.i64_in _ (by omega) | exact u64_in _ (by omega) | exact u32_in _ (by omega) | exact u8_in _ (by omega) | exact rfl)) ?_
  refine RunE.readE rfl rfl rfl rfl (Gives.ixS (i := 4 * t + 2) rfl Tryd.underlying22 (by kernel_rfl) rfl rfl (by omega) (by omega)) ?_
  refine RunE.readE rfl rfl rfl rfl (Gives.ldC rfl (by kernel_rfl) rfl ((hcell _).trans hc2)) ?_
  refine RunE.readE rfl rfl rfl rfl (Gives.u8u32 rfl Tryd.underlying5 Tryd.underlying98 rfl) ?_
  refine RunE.readE rfl rfl rfl rfl (Gives.u32shl 8 rfl rfl rfl (by omega)) ?_
  refine RunE.readE rfl rfl rfl rfl (Gives.u32or rfl rfl rfl) ?_
  refine RunE.readE rfl rfl rfl rfl (Gives.move rfl rfl) ?_
  refine RunE.readE rfl rfl rfl rfl (Gives.move rfl rfl) ?_
  refine RunE.readE rfl rfl rfl rfl (Gives.mul rfl rfl rfl (by first | exact IntWalk.i64_in _ (by omega) | exact u64_in _ (by omega) | exact u32_in _ (by omega) | exact u8_in _ (by omega) | exact rfl)) ?_
  refine RunE.readE rfl rfl rfl rfl (Gives.add rfl rfl rfl (by first | exact IntWalk.i64_in _ (by omega) | exact u64_in _ (by omega) | exact u32_in _ (by omega) | exact u8_in _ (by omega) | exact rfl)) ?_
  refine RunE.readE rfl rfl rfl rfl (Gives.ixS (i := 4 * t + 3) rfl Tryd.underlying22 (by kernel_rfl) rfl rfl (by omega) (by omega)) ?_
  refine RunE.readE rfl rfl rfl rfl (Gives.ldC rfl (by kernel_rfl) rfl ((hcell _).trans hc3)) ?_
  refine RunE.readE rfl rfl rfl rfl (Gives.u8u32 rfl Tryd.underlying5 Tryd.underlying98 rfl) ?_
  refine RunE.tail rfl ?_
  refine Wl.val rfl rfl rfl (Gives.u32or rfl rfl rfl) ?_
  refine Wl.val rfl rfl rfl (Gives.assign rfl rfl) ?_
  refine Wl.nil ?_
  refine Wx.thenN (hK2 _ _ ?_)
  refine Wc.ret ?_
  refine Wx.ret [_] ⟨rfl, trivial⟩ ?_
  exact ⟨by unfold wordS gb word4; simp [hl0, hl1, hl2, hl3]; rfl, hR1⟩
end Go.Proofs.YtnbgieccindpnaaDoor
