/- The program's SHA-256: pad, word, spread, rotations. -/
import Derived.Test.YtnbgieccindpnaaDoorHashV3
import Derived.Test.YtnbgieccindpnaaDoorVcA
namespace Go.Proofs.YtnbgieccindpnaaDoor
set_option linter.all false
set_option maxRecDepth 20000
open Go.RowKit
theorem padP_calls {P : Nat → Prop} (w : World) (A : Option Addr) (n c : Nat) (l : List UInt8) (ha : BV w P A n c l) (hn : n ≤ 35184372088832) :
    Calls Tryd.prog 75 #[.slice A n c] w fun e w' => ∃ S m k, e = .returned (.slice S m k) ∧ OB w' w.heap.size 5 S m k (padS l) ∧ Ext w w' := by
  have HL := ha.len
  refine calls_enter Tryd.func75 rfl Tryd.ntmps75 rfl ?_
  refine vs fun K1 hK1 => vR [(0, _)] ?_
  refine vA ?_
  refine vn (hK1 _ _ ?_)
  refine vs fun K2 hK2 => vR [(0, _)] ?_
  refine vM ?_
  refine vl (Gives.lenS rfl Tryd.underlying22 rfl) ?_
  refine vAdd ?_
  refine Wl.does rfl rfl rfl (Does.mk0 (n + 72) rfl rfl Tryd.underlying22 infoB rfl rfl (by omega) (by omega) (by omega)) ?_
  rintro _ w1 ⟨g1, rfl, hO1, hE1⟩
  replace hO1 : OB w1 w.heap.size 5 (some ⟨g1, 0, none⟩) 0 (n + 72) [] := hO1
  refine vM ?_
  refine Wl.does rfl rfl rfl (Does.appO rfl Tryd.underlying22 infoB rfl rfl hO1 (ha.ext hE1) (by omega) hE1.size) ?_
  rintro _ w2 ⟨S2, k2, rfl, hO2, hB2⟩
  have hE2 : Ext w w2 := Ext.step hE1 hB2 (Nat.le_refl _)
  refine Wl.does rfl rfl rfl (Does.lit rfl Tryd.underlying22 infoB2 rfl rfl rfl rfl rfl) ?_
  rintro _ w3 ⟨g3, rfl, hg3, hk3, hE3⟩
  refine Wl.does rfl rfl rfl (Does.appO rfl Tryd.underlying22 infoB rfl rfl (hO2.ext hE3) ((mb1 128 hk3 rfl).bv (P := fun _ => True) trivial rfl (Nat.le_refl _) (by omega)) (by omega) (hE2.trans hE3).size) ?_
  rintro _ w4 ⟨S4, k4, rfl, hO4, hB4⟩
  have hE4 : Ext w w4 := Ext.step (hE2.trans hE3) hB4 (Nat.le_refl _)
  refine vA ?_
  refine vn (hK2 _ _ ?_)
  refine Wc.seq (fun K3 hK3 => ?_)
  refine Wc.block ?_
  refine vK [(0, _), (3, _)] ?_
  refine Wc.loopC (ι := Nat × Option Addr × Nat × Nat) [(0, _)] (fun | (k, S, m, kk) => [(3, .slice S m kk)]) (fun | (k, S, m, kk), wr => OB wr w.heap.size 5 S m kk (zs l k) ∧ k ≤ padN n ∧ Ext w wr) (fun | (k, S, m, kk) => padN n - k) ((0, S4, n + 1, k4)) (.co (.cons rfl (.nil))) (⟨by simpa [zs] using hO4, Nat.zero_le _, hE4⟩) ?_
  intro ⟨k, S, m, kk⟩ wr hJ KL1 hKL1
  obtain ⟨hO, hk, hE⟩ := hJ
  have hm : m = n + 1 + k := by have h1 := hO.len; rw [zs_len, HL] at h1; omega
  have hpd : padN n = (119 - n % 64) % 64 := rfl
  refine Wc.seq (fun K4 hK4 => ?_)
  refine vs fun K5 hK5 => vR [(0, _), (3, _)] ?_
  refine vM ?_
  refine vl (Gives.lenS rfl Tryd.underlying22 rfl) ?_
  refine vl (Gives.rem rfl rfl rfl (by omega) (by first | exact Int.tmod_eq_emod_of_nonneg (by omega) | exact rfl)) ?_
  refine vl (Gives.neq rfl rfl rfl) ?_
  refine vn (hK5 _ _ ?_)
  refine Wc.cond _ rfl (fun h17 => ?_) (fun h17 => ?_)
  · first | replace h17 := dT h17 | replace h17 := nT h17 | skip
    refine Wc.skip ?_
    refine Wx.thenN (hK4 _ _ ?_)
    refine Wc.block ?_
    refine vR [(0, _), (3, _)] ?_
    refine vM ?_
    refine Wl.does rfl rfl rfl (Does.lit rfl Tryd.underlying22 infoB2 rfl rfl rfl rfl rfl) ?_
    rintro _ w5 ⟨g5, rfl, hg5, hk5, hE5⟩
    refine Wl.does rfl rfl rfl (Does.appO rfl Tryd.underlying22 infoB rfl rfl (hO.ext hE5) ((mb1 0 hk5 rfl).bv (P := fun _ => True) trivial rfl (Nat.le_refl _) (by omega)) (by omega) (hE.trans hE5).size) ?_
    rintro _ w6 ⟨S6, k6, rfl, hO6, hB6⟩
    have hE6 : Ext w w6 := Ext.step (hE.trans hE5) hB6 (Nat.le_refl _)
    rw [← zs_step] at hO6
    refine vA ?_
    refine Wl.nil ?_
    refine Wx.blockN ?_
    refine Wx.thenN ?_
    refine hKL1 (k + 1, S6, m + 1, k6) _ _ (.co (.cons rfl (.nil))) ⟨hO6, by omega, hE6⟩ (by show padN n - (k + 1) < padN n - k; omega)
  first | replace h17 := dF h17 | replace h17 := nF h17 | skip
  refine Wc.exit ?_
  refine Wx.thenE ?_
  refine Wx.thenE ?_
  refine Wx.hit ?_
  refine Wx.thenN (hK3 _ _ ?_)
  refine vs fun K6 hK6 => vK [(0, _), (3, _)] ?_
  have hkp : k = padN n := by omega
  refine Wc.region ?_
  refine vM ?_
  refine vl (Gives.lenS rfl Tryd.underlying22 rfl) ?_
  refine vl (Gives.conv rfl Tryd.underlying3 Tryd.underlying80 rfl (by first | exact IntWalk.i64_in _ (by omega) | exact u64_in _ (by omega) | exact u32_in _ (by omega) | exact u8_in _ (by omega) | exact rfl)) ?_
  refine vl (Gives.mul rfl rfl rfl (by exact u64_in _ (by omega))) ?_
  refine vA ?_
  refine vn (hK6 _ _ ?_)
  refine Wc.seq (fun K7 hK7 => ?_)
  refine vs fun K8 hK8 => vR [(3, _), (4, _)] ?_
  refine vA ?_
  refine vn (hK8 _ _ ?_)
  refine Wc.block ?_
  refine vK [(3, _), (4, _), (5, _)] ?_
  refine Wc.loopC (ι := Nat × Option Addr × Nat × Nat) [(4, _)] (fun | (j, S, m, kk) => [(3, .slice S m kk), (5, .int .i64 (8 * (j : Int) - 8))]) (fun | (j, S, m, kk), wr => OB wr w.heap.size 5 S m kk (lenUp (zs l k) (n * 8) j) ∧ Ext w wr ∧ j ≤ 8) (fun | (j, S, m, kk) => j) ((8, S, m, kk)) (.co (.co (.cons rfl (.nil)))) (⟨by simpa [lenUp] using hO, hE, by omega⟩) ?_
  intro ⟨j, S, m', kk⟩ wr hJ KL2 hKL2
  obtain ⟨hO, hE, hj⟩ := hJ
  have hml : m' ≤ n + 73 := by have h1 := hO.len; have h2 := lenUp_len (zs l k) (n * 8) j; rw [zs_len, HL] at h2; omega
  refine Wc.seq (fun K9 hK9 => ?_)
  refine vs fun K10 hK10 => vR [(3, _), (4, _), (5, _)] ?_
  refine vM ?_
  refine vl (Gives.geq rfl rfl rfl) ?_
  refine vn (hK10 _ _ ?_)
  refine Wc.cond _ rfl (fun h26 => ?_) (fun h26 => ?_)
  · first | replace h26 := dT h26 | replace h26 := nT h26 | skip
    refine Wc.skip ?_
    refine Wx.thenN (hK9 _ _ ?_)
    refine Wc.seq (fun K11 hK11 => ?_)
    refine Wc.block ?_
    refine vK [(3, _), (4, _), (5, _)] ?_
    obtain ⟨j, rfl⟩ : ∃ q, j = q + 1 := ⟨j - 1, by omega⟩
    refine Wc.region ?_
    refine vM ?_
    refine vM ?_
    refine vM ?_
    refine vl (Gives.conv rfl Tryd.underlying3 Tryd.underlying73 rfl (show IntKind.u64.wrap _ = ((8 * j : Nat) : Int) by rw [u64_in _ (by omega)]; omega)) ?_
    refine vl (Gives.shrN (8 * j) rfl rfl rfl (by rw [Nat.ble_eq]; show 8 * j ≤ 64; omega) rfl) ?_
    refine vl (Gives.conv rfl Tryd.underlying80 Tryd.underlying5 rfl ((wrap8 _).trans (len_byte n j))) ?_
    refine Wl.does rfl rfl rfl (Does.lit rfl Tryd.underlying22 infoB2 rfl rfl rfl rfl rfl) ?_
    rintro _ w7 ⟨g7, rfl, hg7, hk7, hE7⟩
    refine Wl.does rfl rfl rfl (Does.appO rfl Tryd.underlying22 infoB rfl rfl (hO.ext hE7) ((mb1 (UInt8.ofNat (n * 8 / 256 ^ j % 256)) hk7 rfl).bv (P := fun _ => True) trivial rfl (Nat.le_refl _) (by omega)) (by omega) (hE.trans hE7).size) ?_
    rintro _ w8 ⟨S8, k8, rfl, hO8, hB8⟩
    have hE8 : Ext w w8 := Ext.step (hE.trans hE7) hB8 (Nat.le_refl _)
    rw [← lenUp_step _ _ _ (by omega)] at hO8
    refine vA ?_
    refine Wl.nil ?_
    refine Wx.blockN ?_
    refine Wx.thenN (hK11 _ _ ?_)
    refine vR [(3, _), (4, _), (5, _)] ?_
    refine vM ?_
    refine vSub ?_
    refine vA ?_
    refine Wl.nil ?_
    refine Wx.thenN ?_
    refine hKL2 (j, S8, m' + 1, k8) _ _ (.co (.co (.cons rfl (.nil)))) ⟨hO8, hE8, by omega⟩ (by show j < j + 1; omega)
  first | replace h26 := dF h26 | replace h26 := nF h26 | skip
  refine Wc.exit ?_
  refine Wx.thenE ?_
  refine Wx.thenE ?_
  refine Wx.hit ?_
  refine Wx.thenN (hK7 _ _ ?_)
  refine vs fun K12 hK12 => vK [(3, _)] ?_
  obtain rfl : j = 0 := by omega
  rw [lenUp_all, hkp, ← HL, zs_pad] at hO
  refine Wc.region ?_
  refine vM ?_
  refine vA ?_
  refine vn (hK12 _ _ ?_)
  refine Wc.ret ?_
  refine Wx.ret [_] ⟨rfl, trivial⟩ ?_
  exact ⟨S, m', kk, rfl, hO, hE⟩
end Go.Proofs.YtnbgieccindpnaaDoor
