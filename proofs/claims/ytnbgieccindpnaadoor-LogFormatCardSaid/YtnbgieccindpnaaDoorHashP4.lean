/- The program's SHA-256: the sum. -/
import Derived.Test.YtnbgieccindpnaaDoorHashP3
namespace Go.Proofs.YtnbgieccindpnaaDoor
set_option linter.all false
set_option maxRecDepth 20000
open Go.RowKit
theorem iv_cells : [Value.int .u32 1779033703, .int .u32 3144134277, .int .u32 1013904242, .int .u32 2773480762, .int .u32 1359893119, .int .u32 2600822924, .int .u32 528734635, .int .u32 1541459225].toArray = (u32s iv256.l).toArray := by kernel_rfl
theorem blocks_end (l : List UInt8) (N : Nat) (h : (padS l).length = 64 * N) : sha256S l = bytesS (blocksS (padS l) iv256 N).l := by
  unfold sha256S; congr 3; omega
set_option maxRecDepth 100000 in
theorem sumP_calls {P : Nat → Prop} (w : World) (hT : Tab w) (A : Option Addr) (n c : Nat) (l : List UInt8) (ha : BV w P A n c l) (hn : n ≤ 1099511627776) :
    Calls Tryd.prog 54 #[.int .i64 1, .slice A n c] w fun e w' => ∃ S k, e = .returned (.slice S 32 k) ∧ OB w' w.heap.size 5 S 32 k (sha256S l) ∧ Ext w w' := by
  have hal := ha.len
  refine calls_enter Tryd.func54 rfl Tryd.ntmps54 rfl ?_
  refine vs fun K1 hK1 => vR [(0, _), (1, _)] ?_
  refine vA ?_
  refine vn (hK1 _ _ ?_)
  refine Wc.seq (fun K2 hK2 => ?_)
  refine vs fun K3 hK3 => vR [(0, _), (1, _)] ?_
  refine vM ?_
  refine vn (hK3 _ _ ?_)
  refine Wc.block ?_
  refine vs fun K4 hK4 => vR [(1, _), (9, _)] ?_
  refine vl (Gives.eql rfl rfl rfl) ?_
  refine vA ?_
  refine vn (hK4 _ _ ?_)
  refine Wc.condF rfl (by decide) ?_
  refine vs fun K5 hK5 => vR [(1, _), (9, _)] ?_
  refine vl (Gives.eql rfl rfl rfl) ?_
  refine vA ?_
  refine vn (hK5 _ _ ?_)
  refine Wc.condT rfl (by decide) ?_
  refine vs fun K6 hK6 => vR [(1, _)] ?_
  refine vl (Gives.buildA1 rfl Tryd.underlying104 (by kernel_rfl) (by kernel_rfl) rfl rfl rfl) ?_
  refine Wl.does rfl rfl rfl (Does.alB (.agg (u32s (List.replicate 8 0)).toArray) rfl info8 rfl) ?_
  rintro _ w1 ⟨gh, rfl, hgh, hk1, hE1⟩
  refine Wl.acts rfl rfl (Does.stL 8 rfl rfl rfl hk1 (by kernel_rfl) rfl rfl rfl) ?_
  rintro _ w2 ⟨hk2, hF2⟩
  have hE2 : Ext w w2 := Ext.over hE1 hF2 hgh
  replace hk2 : WB w2 gh 104 iv256.l := by unfold WB; rw [← iv_cells]; exact hk2
  have hTw := hT.lt
  refine vn (hK6 _ _ ?_)
  refine Wc.seq (fun K7 hK7 => ?_)
  refine vs fun K8 hK8 => vR [(1, _), (7, _)] ?_
  refine vM ?_
  refine Wl.call rfl rfl rfl rfl Tryd.func75 rfl (by kernel_rfl) rfl (padP_calls w2 A n c l (ha.ext hE2) (by omega)) ?_
  rintro x11 w3 ⟨X, xn, xc, rfl, hO3, hE3⟩
  refine ⟨_, rfl, ?_⟩
  refine vA ?_
  refine Wl.nil ?_
  have hxm := padS_mod l
  have hxl := hO3.len
  obtain ⟨N, hN⟩ : ∃ N, xn = 64 * N := ⟨xn / 64, by omega⟩
  subst hN
  have hgh2 := hk2.lt
  have hx3 : BV w3 (fun q => q ≠ gh) X (64 * N) xc (padS l) := OB.bv (P := fun q => q ≠ gh) hO3 (fun q hq => by omega)
  obtain ⟨x, hx⟩ : ∃ x, x = padS l := ⟨_, rfl⟩
  rw [← hx] at hx3 hxl
  refine Wx.thenN (hK8 _ _ ?_)
  refine Wc.block ?_
  refine vK [(7, _), (8, _)] ?_
  refine Wc.loopC (ι := Nat × Option Addr × Nat) [(7, _)] (fun | (k, X, xc) => [(8, .slice X (64 * (N - k)) xc)]) (fun | (k, X, xc), wr => k ≤ N ∧ BV wr (fun q => q ≠ gh) X (64 * (N - k)) xc (x.drop (64 * k)) ∧ WB wr gh 104 (blocksS x iv256 k).l ∧ Ext w wr) (fun | (k, X, xc) => N - k) ((0, X, xc)) (.co (.cons rfl (.nil))) (⟨Nat.zero_le _, by simpa using hx3, hk2.ext hE3, hE2.trans hE3⟩) ?_
  intro ⟨k, X, xc⟩ wr hJ KL2 hKL2
  obtain ⟨hk, hX, hh, hE⟩ := hJ
  have hle := hX.le
  refine Wc.seq (fun K9 hK9 => ?_)
  refine vs fun K10 hK10 => vR [(7, _), (8, _)] ?_
  refine vM ?_
  refine vl (Gives.lenS rfl Tryd.underlying22 rfl) ?_
  refine vl (Gives.gtr rfl rfl rfl) ?_
  refine vn (hK10 _ _ ?_)
  refine Wc.cond _ rfl (fun h32 => ?_) (fun h32 => ?_)
  · first | replace h32 := dT h32 | replace h32 := nT h32 | skip
    refine Wc.skip ?_
    refine Wx.thenN (hK9 _ _ ?_)
    refine Wc.seq (fun K11 hK11 => ?_)
    refine Wc.block ?_
    refine vR [(7, _), (8, _)] ?_
    refine vM ?_
    refine vl (Gives.cutHi rfl Tryd.underlying22 (by kernel_rfl) rfl 64 rfl rfl (by omega)) ?_
    refine Wl.call rfl rfl rfl rfl Tryd.func78 rfl (by kernel_rfl) rfl (compress_calls wr (hT.ext hE) gh (blocksS x iv256 k) hh (by have := hT.lt; omega) X xc ((x.drop (64 * k)).take 64) (hX.take (by omega))) ?_
    rintro x14 w5 ⟨rfl, hh5, hF5⟩
    refine ⟨_, rfl, ?_⟩
    refine Wl.nil ?_
    refine Wx.blockN ?_
    refine Wx.thenN (hK11 _ _ ?_)
    refine vR [(7, _), (8, _)] ?_
    refine vM ?_
    refine vl (Gives.cutLo rfl Tryd.underlying22 (by kernel_rfl) rfl 64 rfl rfl (by omega)) ?_
    refine vA ?_
    refine Wl.nil ?_
    refine Wx.thenN ?_
    refine hKL2 (k + 1, cutAddr X xc 64 1, xc - 64) _ _ (.co (.cons rfl (.nil))) ⟨by omega, ?_, hh5, Ext.over hE hF5 hgh⟩ (by show N - (k + 1) < N - k; omega)
    have h5 := (hX.fr hF5).cut (show 64 ≤ 64 * (N - k) by omega)
    rw [List.drop_drop, show 64 * (N - k) - 64 = 64 * (N - (k + 1)) by omega, show 64 * k + 64 = 64 * (k + 1) by omega] at h5
    exact h5
  first | replace h32 := dF h32 | replace h32 := nF h32 | skip
  refine Wc.exit ?_
  refine Wx.thenE ?_
  refine Wx.thenE ?_
  refine Wx.hit ?_
  refine Wx.thenN (hK7 _ _ ?_)
  refine vs fun K12 hK12 => vK [(7, _)] ?_
  obtain rfl : k = N := by omega
  refine Wc.region ?_
  refine vl (Gives.cutAll rfl Tryd.underlying104 (by kernel_rfl) rfl) ?_
  refine Wl.call rfl rfl rfl rfl Tryd.func77 rfl (by kernel_rfl) rfl (spread_calls wr _ 8 8 _ (hh.uv (P := fun _ => True) trivial rfl (Nat.le_refl _) (by omega)) (by omega)) ?_
  rintro x15 w7 ⟨S, m, kk, rfl, hO, hE7⟩
  refine ⟨_, rfl, ?_⟩
  refine vA ?_
  refine vn (hK12 _ _ ?_)
  refine Wc.ret ?_
  refine Wx.blockR ?_
  refine Wx.thenR ?_
  refine Wx.ret [_] ⟨rfl, trivial⟩ ?_
  have hm32 : m = 32 := by have := hO.len; rw [bytesS_len] at this; exact this.symm
  subst hm32
  refine ⟨S, kk, rfl, ?_, hE.trans hE7⟩
  rw [blocks_end l k (by rw [← hx]; exact hxl), ← hx]
  exact hO.mono hE.size
end Go.Proofs.YtnbgieccindpnaaDoor
