/- CommandShape, CommandLong: the walks of the laws. -/
import Derived.Test.YtaekpiejdgahfaaDoorCmdSh
import Derived.Test.YtaekpiejdgahfaaDoorCmdE
import Derived.Test.YtaekpiejdgahfaaDoorVc6
namespace Go.Proofs.YtaekpiejdgahfaaDoor
set_option linter.all false
open Go.RowKit
set_option maxHeartbeats 1000000 in
set_option maxRecDepth 10000 in
theorem commandShape_walk (w : World) (hT : Tabs w) (code : Int) :
    Calls Tryd.prog 3 #[.int .i64 code] w fun e w' => e = .returned (.bool true) ∧ Ext w w' := by
  refine calls_enter Tryd.func3 rfl Tryd.ntmps3 rfl ?_
  have hE : Ext w w := Ext.refl w
  refine Wc.seq (fun K1 hK1 => ?_)
  refine Wc.keep [(0, _)] (.cons rfl (.nil)) ?_
  refine Wc.region ?_
  refine Wl.val rfl rfl rfl (Gives.assign rfl rfl) ?_
  refine Wl.nil ?_
  refine Wx.thenN (hK1 _ _ ?_)
  refine Wc.seq (fun K2 hK2 => ?_)
  refine Wc.seq (fun K3 hK3 => ?_)
  refine Wc.keep [(0, _)] (.cons rfl (.nil)) ?_
  refine Wc.region ?_
  refine Wl.call rfl rfl rfl rfl Tryd.func10 rfl (by kernel_rfl) rfl (awake_calls _ (hT.ext hE)) ?_
  rintro x0 w0 ⟨rfl, hx0⟩
  refine ⟨_, rfl, ?_⟩
  replace hE := hE.trans hx0
  refine Wl.val rfl rfl rfl (Gives.not rfl rfl) ?_
  refine Wl.nil ?_
  refine Wx.thenN (hK3 _ _ ?_)
  refine Wc.condF rfl rfl ?_
  refine Wc.skip ?_
  refine Wx.thenN (hK2 _ _ ?_)
  refine Wc.seq (fun K4 hK4 => ?_)
  refine Wc.seq (fun K5 hK5 => ?_)
  refine Wc.keep [(0, _)] (.cons rfl (.nil)) ?_
  refine Wc.region ?_
  refine Wl.val rfl rfl rfl (Gives.assign rfl rfl) ?_
  refine Wl.nil ?_
  refine Wx.thenN (hK5 _ _ ?_)
  refine Wc.block ?_
  refine Wc.keep [(0, _), (3, _)] (.cons rfl (.cons rfl (.nil))) ?_
  refine Wc.loopC (ι := Int) [(0, _)] (fun c => [(3, .int .i64 c)]) (fun c wr => -1 ≤ c ∧ c ≤ 40 ∧ Ext w wr) (fun c => (40 - c).toNat) (-1) (.cons (by first | exact rfl | exact look_int rfl (by omega) | exact look_slice rfl (by omega)) (.cons rfl (.nil))) (⟨by omega, by omega, hE⟩) ?_
  intro c wr hJ KL1 hKL1
  clear hE
  obtain ⟨hc1, hc2, hE⟩ := hJ
  refine Wc.seq (fun K6 hK6 => ?_)
  refine Wc.seq (fun K7 hK7 => ?_)
  refine Wc.keep [(0, _), (3, _)] (.cons rfl (.cons rfl (.nil))) ?_
  refine Wc.region ?_
  refine Wl.val rfl rfl rfl (Gives.move rfl rfl) ?_
  refine Wl.val rfl rfl rfl (Gives.lss rfl rfl rfl) ?_
  refine Wl.nil ?_
  refine Wx.thenN (hK7 _ _ ?_)
  refine Wc.cond _ rfl (fun h21 => ?_) (fun h21 => ?_)
  · (first | replace h21 := of_decide_eq_true h21 | replace h21 := nd_true h21 | skip)
    refine Wc.skip ?_
    refine Wx.thenN (hK6 _ _ ?_)
    refine Wc.seq (fun K8 hK8 => ?_)
    refine Wc.block ?_
    refine Wc.seq (fun K9 hK9 => ?_)
    refine Wc.keep [(0, _), (3, _)] (.cons rfl (.cons rfl (.nil))) ?_
    refine Wc.region ?_
    refine Wl.val rfl rfl rfl (Gives.move rfl rfl) ?_
    refine Wl.call rfl rfl rfl rfl Tryd.func11 rfl (by kernel_rfl) rfl (shapeP_calls _ (hT.ext hE) c) ?_
    rintro x1 w11 ⟨rfl, hx1⟩
    refine ⟨_, rfl, ?_⟩
    replace hE := hE.trans hx1
    refine Wl.val rfl rfl rfl (Gives.move rfl rfl) ?_
    refine Wl.val rfl rfl rfl (Gives.extract rfl rfl rfl) ?_
    refine Wl.val rfl rfl rfl (Gives.extract rfl rfl rfl) ?_
    refine Wl.val rfl rfl rfl (Gives.extract rfl rfl rfl) ?_
    refine Wl.val rfl rfl rfl (Gives.extract rfl rfl rfl) ?_
    refine Wl.val rfl rfl rfl (Gives.extract rfl rfl rfl) ?_
    refine Wl.val rfl rfl rfl (Gives.assign rfl rfl) ?_
    refine Wl.val rfl rfl rfl (Gives.assign rfl rfl) ?_
    refine Wl.val rfl rfl rfl (Gives.assign rfl rfl) ?_
    refine Wl.val rfl rfl rfl (Gives.assign rfl rfl) ?_
    refine Wl.val rfl rfl rfl (Gives.assign rfl rfl) ?_
    refine Wl.nil ?_
    refine Wx.thenN (hK9 _ _ ?_)
    refine Wc.seq (fun K10 hK10 => ?_)
    refine Wc.keep [(0, _), (3, _), (4, _), (5, _), (6, _), (7, _), (8, _)] (.cons rfl (.cons rfl (.cons rfl (.cons rfl (.cons rfl (.cons rfl (.cons rfl (.nil)))))))) ?_
    refine Wc.region ?_
    refine Wl.val rfl rfl rfl (Gives.move rfl rfl) ?_
    refine Wl.call rfl rfl rfl rfl Tryd.func12 rfl (by kernel_rfl) rfl (shapeR_calls _ c) ?_
    rintro x2 w12 ⟨rfl, hx2⟩
    refine ⟨_, rfl, ?_⟩
    replace hE := hE.trans hx2
    refine Wl.val rfl rfl rfl (Gives.move rfl rfl) ?_
    refine Wl.val rfl rfl rfl (Gives.extract rfl rfl rfl) ?_
    refine Wl.val rfl rfl rfl (Gives.extract rfl rfl rfl) ?_
    refine Wl.does rfl rfl rfl (Does.alB (.agg #[(.int .i64 0), (.int .i64 0), (.int .i64 0), (.int .i64 0)]) rfl (by kernel_rfl) rfl) ?_
    rintro _ w7_5 ⟨b9, rfl, hs9, hb9, hx7_5⟩
    have hg9 : w.heap.size ≤ b9 := Nat.le_trans hE.size hs9
    replace hE := hE.trans hx7_5
    refine Wl.acts rfl rfl (Does.stL 4 rfl rfl rfl hb9 (by kernel_rfl) rfl rfl rfl) ?_
    rintro _ w7_6 ⟨hbn, hF7_6⟩
    replace hE := Ext.over hE hF7_6 hg9
    replace hb9 := hbn
    clear hbn
    refine Wl.val rfl rfl rfl (Gives.assign rfl rfl) ?_
    refine Wl.nil ?_
    refine Wx.thenN (hK10 _ _ ?_)
    refine Wc.seq (fun K11 hK11 => ?_)
    refine Wc.keep [(0, _), (3, _), (4, _), (5, _), (6, _), (7, _), (8, _), (9, _), (10, _)] (.cons rfl (.cons rfl (.cons rfl (.cons rfl (.cons rfl (.cons rfl (.cons rfl (.cons rfl (.cons rfl (.nil)))))))))) ?_
    refine Wc.region ?_
    refine Wl.val rfl rfl rfl (Gives.move rfl rfl) ?_
    refine Wl.val rfl rfl rfl (Gives.move rfl rfl) ?_
    refine Wl.val rfl rfl rfl (Gives.boolNeq rfl rfl rfl Tryd.underlying4) ?_
    refine Wl.val rfl rfl rfl (Gives.move rfl rfl) ?_
    refine Wl.guardT rfl rfl rfl (by simp) ?_
    refine Wl.val rfl rfl rfl (Gives.move rfl rfl) ?_
    refine Wl.val rfl rfl rfl (Gives.move rfl rfl) ?_
    refine Wl.val rfl rfl rfl (Gives.move rfl rfl) ?_
    refine Wl.val rfl rfl rfl (Gives.move rfl rfl) ?_
    refine Wl.val rfl rfl rfl (Gives.buildA1 rfl Tryd.underlying25 (by kernel_rfl) (by kernel_rfl) rfl rfl rfl) ?_
    refine Wl.val rfl rfl rfl (Gives.ldW rfl (by kernel_rfl) rfl hb9 (by kernel_rfl)) ?_
    refine Wl.val rfl rfl rfl (Gives.neqA rfl rfl rfl Tryd.eqGuardType25 (eq4 _ _ _ _ _)) ?_
    refine Wl.val rfl rfl rfl (Gives.pickF rfl rfl rfl rfl) ?_
    refine Wl.nil ?_
    refine Wx.thenN (hK11 _ _ ?_)
    refine Wc.condF rfl rfl ?_
    refine Wc.skip ?_
    refine Wx.blockN ?_
    refine Wx.thenN (hK8 _ _ ?_)
    refine Wc.keep [(0, _), (3, _)] (.cons rfl (.cons rfl (.nil))) ?_
    refine Wc.region ?_
    refine Wl.val rfl rfl rfl (Gives.move rfl rfl) ?_
    refine Wl.val rfl rfl rfl (Gives.add rfl rfl rfl (by first | exact IntWalk.i64_in _ (by omega) | exact u64_in _ (by omega) | exact u32_in _ (by omega) | exact u8_in _ (by omega) | exact rfl)) ?_
    refine Wl.val rfl rfl rfl (Gives.assign rfl rfl) ?_
    refine Wl.nil ?_
    refine Wx.thenN ?_
    refine hKL1 (c + 1) _ _ (.cons (by first | exact rfl | exact look_int rfl (by omega) | exact look_slice rfl (by omega)) (.cons rfl (.nil))) ⟨by omega, by omega, hE⟩ (by omega)
  · (first | replace h21 := of_decide_eq_false h21 | replace h21 := nd_false h21 | skip)
    refine Wc.exit ?_
    refine Wx.thenE ?_
    refine Wx.thenE ?_
    refine Wx.hit ?_
    refine Wx.thenN (hK4 _ _ ?_)
    refine Wc.seq (fun K12 hK12 => ?_)
    refine Wc.keep [(0, _)] (.cons rfl (.nil)) ?_
    refine Wc.region ?_
    refine Wl.val rfl rfl rfl (Gives.move rfl rfl) ?_
    refine Wl.call rfl rfl rfl rfl Tryd.func11 rfl (by kernel_rfl) rfl (shapeP_calls _ (hT.ext hE) code) ?_
    rintro x1 w11 ⟨rfl, hx1⟩
    refine ⟨_, rfl, ?_⟩
    replace hE := hE.trans hx1
    refine Wl.val rfl rfl rfl (Gives.move rfl rfl) ?_
    refine Wl.val rfl rfl rfl (Gives.extract rfl rfl rfl) ?_
    refine Wl.val rfl rfl rfl (Gives.extract rfl rfl rfl) ?_
    refine Wl.val rfl rfl rfl (Gives.extract rfl rfl rfl) ?_
    refine Wl.val rfl rfl rfl (Gives.extract rfl rfl rfl) ?_
    refine Wl.val rfl rfl rfl (Gives.extract rfl rfl rfl) ?_
    refine Wl.val rfl rfl rfl (Gives.assign rfl rfl) ?_
    refine Wl.val rfl rfl rfl (Gives.assign rfl rfl) ?_
    refine Wl.val rfl rfl rfl (Gives.assign rfl rfl) ?_
    refine Wl.val rfl rfl rfl (Gives.assign rfl rfl) ?_
    refine Wl.val rfl rfl rfl (Gives.assign rfl rfl) ?_
    refine Wl.nil ?_
    refine Wx.thenN (hK12 _ _ ?_)
    refine Wc.seq (fun K13 hK13 => ?_)
    refine Wc.keep [(0, _), (15, _)] (.cons rfl (.cons rfl (.nil))) ?_
    refine Wc.region ?_
    refine Wl.val rfl rfl rfl (Gives.move rfl rfl) ?_
    refine Wl.call rfl rfl rfl rfl Tryd.func12 rfl (by kernel_rfl) rfl (shapeR_calls _ code) ?_
    rintro x2 w12 ⟨rfl, hx2⟩
    refine ⟨_, rfl, ?_⟩
    replace hE := hE.trans hx2
    refine Wl.val rfl rfl rfl (Gives.move rfl rfl) ?_
    refine Wl.val rfl rfl rfl (Gives.extract rfl rfl rfl) ?_
    refine Wl.val rfl rfl rfl (Gives.extract rfl rfl rfl) ?_
    refine Wl.does rfl rfl rfl (Does.alB (.agg #[(.int .i64 0), (.int .i64 0), (.int .i64 0), (.int .i64 0)]) rfl (by kernel_rfl) rfl) ?_
    rintro _ w11_5 ⟨b16, rfl, hs16, hb16, hx11_5⟩
    have hg16 : w.heap.size ≤ b16 := Nat.le_trans hE.size hs16
    replace hE := hE.trans hx11_5
    refine Wl.acts rfl rfl (Does.stL 4 rfl rfl rfl hb16 (by kernel_rfl) rfl rfl rfl) ?_
    rintro _ w11_6 ⟨hbn, hF11_6⟩
    replace hE := Ext.over hE hF11_6 hg16
    replace hb16 := hbn
    clear hbn
    refine Wl.val rfl rfl rfl (Gives.assign rfl rfl) ?_
    refine Wl.nil ?_
    refine Wx.thenN (hK13 _ _ ?_)
    refine Wc.seq (fun K14 hK14 => ?_)
    refine Wc.keep [(15, _), (17, _)] (.cons rfl (.cons rfl (.nil))) ?_
    refine Wc.region ?_
    refine Wl.val rfl rfl rfl (Gives.move rfl rfl) ?_
    refine Wl.val rfl rfl rfl (Gives.move rfl rfl) ?_
    refine Wl.val rfl rfl rfl (Gives.boolEql rfl rfl rfl Tryd.underlying4) ?_
    refine Wl.val rfl rfl rfl (Gives.assign rfl rfl) ?_
    refine Wl.nil ?_
    refine Wx.thenN (hK14 _ _ ?_)
    refine Wc.ret ?_
    refine Wx.ret [_] ⟨rfl, trivial⟩ ?_
    exact ⟨rb (by simp), hE⟩
theorem dec_long {l : List UInt8} (h : 2048 < l.length) : (decP l).2 = 4 := by
  have hs : startE l = 4 := by unfold startE; rw [if_pos h]
  unfold decP
  rw [hs, if_pos (by decide)]
theorem spliceL (n : Nat) (b : List UInt8) (h : b.length ≤ n) : (spliceB (List.replicate n 0) 0 (b.take n)).length = n := by rw [spliceB_len _ _ _ (by simp; omega)]; simp
set_option maxHeartbeats 1000000 in
set_option maxRecDepth 10000 in
theorem commandLong_walk (w : World) (hT : Tabs w) (z : Int) (A : Option Addr) (n c : Nat) (l : List UInt8) (ha : BV w (fun _ => True) A n c l) :
    Calls Tryd.prog 7 #[.int .i64 z, .slice A n c] w fun e w' => e = .returned (.bool true) ∧ Ext w w' := by
  have hl := ha.len
  refine calls_enter Tryd.func7 rfl Tryd.ntmps7 rfl ?_
  have hE : Ext w w := Ext.refl w
  refine Wc.seq (fun K1 hK1 => ?_)
  refine Wc.keep [(0, _), (1, _)] (.cons rfl (.cons rfl (.nil))) ?_
  refine Wc.region ?_
  refine Wl.val rfl rfl rfl (Gives.assign rfl rfl) ?_
  refine Wl.nil ?_
  refine Wx.thenN (hK1 _ _ ?_)
  refine Wc.seq (fun K2 hK2 => ?_)
  refine Wc.seq (fun K3 hK3 => ?_)
  refine Wc.keep [(0, _), (1, _)] (.cons rfl (.cons rfl (.nil))) ?_
  refine Wc.region ?_
  refine Wl.call rfl rfl rfl rfl Tryd.func10 rfl (by kernel_rfl) rfl (awake_calls _ (hT.ext hE)) ?_
  rintro x0 w0 ⟨rfl, hx0⟩
  refine ⟨_, rfl, ?_⟩
  replace hE := hE.trans hx0
  refine Wl.val rfl rfl rfl (Gives.not rfl rfl) ?_
  refine Wl.nil ?_
  refine Wx.thenN (hK3 _ _ ?_)
  refine Wc.condF rfl rfl ?_
  refine Wc.skip ?_
  refine Wx.thenN (hK2 _ _ ?_)
  refine Wc.seq (fun K4 hK4 => ?_)
  refine Wc.seq (fun K5 hK5 => ?_)
  refine Wc.keep [(0, _), (1, _)] (.cons rfl (.cons rfl (.nil))) ?_
  refine Wc.region ?_
  refine Wl.val rfl rfl rfl (Gives.move rfl rfl) ?_
  refine Wl.val rfl rfl rfl (Gives.lss rfl rfl rfl) ?_
  refine Wl.val rfl rfl rfl (Gives.move rfl rfl) ?_
  refine Wl.guard rfl rfl rfl (fun h14 => ?_) (fun h14 => ?_)
  · (first | replace h14 := of_decide_eq_false h14 | replace h14 := nd_false h14 | skip)
    refine Wl.val rfl rfl rfl (Gives.move rfl rfl) ?_
    refine Wl.val rfl rfl rfl (Gives.gtr rfl rfl rfl) ?_
    refine Wl.val rfl rfl rfl (Gives.pickF rfl rfl rfl rfl) ?_
    refine Wl.val rfl rfl rfl (Gives.move rfl rfl) ?_
    refine Wl.guard rfl rfl rfl (fun h18 => ?_) (fun h18 => ?_)
    · (first | replace h18 := of_decide_eq_false h18 | replace h18 := nd_false h18 | skip)
      refine Wl.val rfl rfl rfl (Gives.move rfl rfl) ?_
      refine Wl.val rfl rfl rfl (Gives.lenS rfl Tryd.underlying36 rfl) ?_
      refine Wl.val rfl rfl rfl (Gives.gtr rfl rfl rfl) ?_
      refine Wl.val rfl rfl rfl (Gives.pickF rfl rfl rfl rfl) ?_
      refine Wl.nil ?_
      refine Wx.thenN (hK5 _ _ ?_)
      refine Wc.cond _ rfl (fun h22 => ?_) (fun h22 => ?_)
      · (first | replace h22 := of_decide_eq_true h22 | replace h22 := nd_true h22 | skip)
        refine Wc.seq (fun K6 hK6 => ?_)
        refine Wc.keep [] (.nil) ?_
        refine Wc.region ?_
        refine Wl.val rfl rfl rfl (Gives.assign rfl rfl) ?_
        refine Wl.nil ?_
        refine Wx.thenN (hK6 _ _ ?_)
        refine Wc.ret ?_
        refine Wx.thenR ?_
        refine Wx.ret [_] ⟨rfl, trivial⟩ ?_
        first | exact ⟨rfl, hE⟩ | exact ⟨rb (decide_eq_true (dec_long (by omega))), hE⟩
      · (first | replace h22 := of_decide_eq_false h22 | replace h22 := nd_false h22 | skip)
        refine Wc.skip ?_
        refine Wx.thenN (hK4 _ _ ?_)
        refine Wc.seq (fun K7 hK7 => ?_)
        refine Wc.keep [(0, _), (1, _)] (.cons rfl (.cons rfl (.nil))) ?_
        obtain ⟨k, rfl⟩ := Int.eq_ofNat_of_zero_le (show 0 ≤ z by omega)
        refine Wc.region ?_
        refine Wl.val rfl rfl rfl (Gives.move rfl rfl) ?_
        refine Wl.does rfl rfl rfl (Does.mkM k rfl rfl Tryd.underlying36 infoB rfl rfl rfl (by omega)) ?_
        rintro _ w51 ⟨g, rfl, hg, hM, hx51⟩
        have hg0 : w.heap.size ≤ g := Nat.le_trans hE.size hg
        replace hE := hE.trans hx51
        refine Wl.val rfl rfl rfl (Gives.assign rfl rfl) ?_
        refine Wl.nil ?_
        refine Wx.thenN (hK7 _ _ ?_)
        refine Wc.seq (fun K8 hK8 => ?_)
        refine Wc.keep [(0, _), (1, _), (5, _)] (.cons rfl (.cons rfl (.cons rfl (.nil)))) ?_
        refine Wc.region ?_
        refine Wl.val rfl rfl rfl (Gives.move rfl rfl) ?_
        refine Wl.val rfl rfl rfl (Gives.move rfl rfl) ?_
        refine Wl.does rfl rfl rfl (Does.cpM (g := g) (off := 0) rfl rfl Tryd.underlying36 infoB rfl rfl (ha.ext hE) (fun _ => rfl) hM (by simp)) ?_
        rintro _ w62 ⟨rfl, hM2, hF62⟩
        replace hE := Ext.over hE hF62 hg0
        have hB : BV w62 (fun _ => True) (some ⟨g, 0, none⟩) k k (spliceB (List.replicate k 0) 0 (l.take k)) := hM2.bv trivial (spliceL k l (by omega)) (Nat.le_refl _) (by omega)
        generalize spliceB (List.replicate k 0) 0 (l.take k) = b at *
        have hbl := hB.len
        refine Wl.nil ?_
        refine Wx.thenN (hK8 _ _ ?_)
        refine Wc.seq (fun K9 hK9 => ?_)
        refine Wc.keep [(0, _), (5, _)] (.cons rfl (.cons rfl (.nil))) ?_
        refine Wc.region ?_
        refine Wl.val rfl rfl rfl (Gives.move rfl rfl) ?_
        refine Wl.call rfl rfl rfl rfl Tryd.func21 rfl (by kernel_rfl) rfl (decodeP_calls (P := fun _ => True) _ (hT.ext hE) (some ⟨g, 0, none⟩) k k b hB (by omega)) ?_
        rintro x1 w71 ⟨r1, rfl, hq1, hx71⟩
        refine ⟨_, rfl, ?_⟩
        replace hB := hB.ext hx71
        replace hE := hE.trans hx71
        refine Wl.val rfl rfl rfl (Gives.move rfl rfl) ?_
        refine Wl.val rfl rfl rfl (Gives.extract rfl rfl rfl) ?_
        refine Wl.val rfl rfl rfl (Gives.extract rfl rfl rfl) ?_
        refine Wl.does rfl rfl rfl (Does.alB (.agg #[(.int .i64 0), (.slice none 0 0), (.slice none 0 0), (.slice none 0 0), (.slice none 0 0)]) rfl (by kernel_rfl) rfl) ?_
        rintro _ w7_5 ⟨b6, rfl, hs6, hb6, hx7_5⟩
        have hg6 : w.heap.size ≤ b6 := Nat.le_trans hE.size hs6
        replace hE := hE.trans hx7_5
        refine Wl.acts rfl rfl (Does.stL 5 rfl rfl rfl hb6 (by kernel_rfl) rfl rfl rfl) ?_
        rintro _ w7_6 ⟨hbn, hF7_6⟩
        replace hE := Ext.over hE hF7_6 hg6
        replace hb6 := hbn
        clear hbn
        replace hB := ((hB.off hs6).ext hx7_5).fr hF7_6
        refine Wl.val rfl rfl rfl (Gives.assign rfl rfl) ?_
        refine Wl.nil ?_
        refine Wx.thenN (hK9 _ _ ?_)
        refine Wc.seq (fun K10 hK10 => ?_)
        refine Wc.keep [(0, _), (5, _), (7, _)] (.cons rfl (.cons rfl (.cons rfl (.nil)))) ?_
        refine Wc.region ?_
        refine Wl.val rfl rfl rfl (Gives.move rfl rfl) ?_
        refine Wl.call rfl rfl rfl rfl Tryd.func23 rfl (by kernel_rfl) rfl (decodeR_calls (P := fun _ => True) _ (some ⟨g, 0, none⟩) k k b (hB.mono (fun _ _ => trivial)) (by omega)) ?_
        rintro x2 w81 ⟨r2, rfl, hq2, hx81⟩
        refine ⟨_, rfl, ?_⟩
        rw [dec_eq]
        replace hb6 := hb6.ext hx81
        replace hE := hE.trans hx81
        refine Wl.val rfl rfl rfl (Gives.move rfl rfl) ?_
        refine Wl.val rfl rfl rfl (Gives.extract rfl rfl rfl) ?_
        refine Wl.val rfl rfl rfl (Gives.extract rfl rfl rfl) ?_
        refine Wl.does rfl rfl rfl (Does.alB (.agg #[(.int .i64 0), (.slice none 0 0), (.slice none 0 0), (.slice none 0 0), (.slice none 0 0)]) rfl (by kernel_rfl) rfl) ?_
        rintro _ w8_5 ⟨b8, rfl, hs8, hb8, hx8_5⟩
        have hn6_8 : b6 ≠ b8 := hb6.ne hs8
        have hg8 : w.heap.size ≤ b8 := Nat.le_trans hE.size hs8
        replace hb6 := hb6.ext hx8_5
        replace hE := hE.trans hx8_5
        refine Wl.acts rfl rfl (Does.stL 5 rfl rfl rfl hb8 (by kernel_rfl) rfl rfl rfl) ?_
        rintro _ w8_6 ⟨hbn, hF8_6⟩
        replace hb6 := hb6.fr hF8_6 (by first | assumption | exact Ne.symm (by assumption))
        replace hE := Ext.over hE hF8_6 hg8
        replace hb8 := hbn
        clear hbn
        refine Wl.val rfl rfl rfl (Gives.assign rfl rfl) ?_
        refine Wl.nil ?_
        refine Wx.thenN (hK10 _ _ ?_)
        refine Wc.seq (fun K11 hK11 => ?_)
        refine Wc.keep [(0, _), (7, _), (9, _)] (.cons rfl (.cons rfl (.cons rfl (.nil)))) ?_
        refine Wc.region ?_
        refine Wl.val rfl rfl rfl (Gives.move rfl rfl) ?_
        refine Wl.val rfl rfl rfl (Gives.move rfl rfl) ?_
        refine Wl.val rfl rfl rfl (Gives.eql rfl rfl rfl) ?_
        refine Wl.val rfl rfl rfl (Gives.move rfl rfl) ?_
        refine Wl.guardT rfl rfl rfl (by simp) ?_
        refine Wl.val rfl rfl rfl (Gives.move rfl rfl) ?_
        refine Wl.val rfl rfl rfl (Gives.leq rfl rfl rfl) ?_
        refine Wl.val rfl rfl rfl (Gives.move rfl rfl) ?_
        refine Wl.guard rfl rfl rfl (fun h44 => ?_) (fun h44 => ?_)
        · (first | replace h44 := of_decide_eq_false h44 | replace h44 := nd_false h44 | skip)
          refine Wl.val rfl rfl rfl (Gives.move rfl rfl) ?_
          refine Wl.val rfl rfl rfl (Gives.eql rfl rfl rfl) ?_
          refine Wl.val rfl rfl rfl (Gives.pickF rfl rfl rfl rfl) ?_
          refine Wl.val rfl rfl rfl (Gives.pickT rfl rfl rfl rfl) ?_
          refine Wl.val rfl rfl rfl (Gives.assign rfl rfl) ?_
          refine Wl.nil ?_
          refine Wx.thenN (hK11 _ _ ?_)
          refine Wc.ret ?_
          refine Wx.ret [_] ⟨rfl, trivial⟩ ?_
          first | exact ⟨rfl, hE⟩ | exact ⟨rb (decide_eq_true (dec_long (by omega))), hE⟩
        · (first | replace h44 := of_decide_eq_true h44 | replace h44 := nd_true h44 | skip)
          refine Wl.pass rfl rfl rfl ?_
          refine Wl.pass rfl rfl rfl ?_
          refine Wl.val rfl rfl rfl (Gives.pickT rfl rfl rfl rfl) ?_
          refine Wl.val rfl rfl rfl (Gives.pickT rfl rfl rfl rfl) ?_
          refine Wl.val rfl rfl rfl (Gives.assign rfl rfl) ?_
          refine Wl.nil ?_
          refine Wx.thenN (hK11 _ _ ?_)
          refine Wc.ret ?_
          refine Wx.ret [_] ⟨rfl, trivial⟩ ?_
          first | exact ⟨rfl, hE⟩ | exact ⟨rb (decide_eq_true (dec_long (by omega))), hE⟩
    · (first | replace h18 := of_decide_eq_true h18 | replace h18 := nd_true h18 | skip)
      refine Wl.pass rfl rfl rfl ?_
      refine Wl.pass rfl rfl rfl ?_
      refine Wl.pass rfl rfl rfl ?_
      refine Wl.val rfl rfl rfl (Gives.pickT rfl rfl rfl rfl) ?_
      refine Wl.nil ?_
      refine Wx.thenN (hK5 _ _ ?_)
      refine Wc.condT rfl rfl ?_
      refine Wc.seq (fun K12 hK12 => ?_)
      refine Wc.keep [] (.nil) ?_
      refine Wc.region ?_
      refine Wl.val rfl rfl rfl (Gives.assign rfl rfl) ?_
      refine Wl.nil ?_
      refine Wx.thenN (hK12 _ _ ?_)
      refine Wc.ret ?_
      refine Wx.thenR ?_
      refine Wx.ret [_] ⟨rfl, trivial⟩ ?_
      first | exact ⟨rfl, hE⟩ | exact ⟨rb (decide_eq_true (dec_long (by omega))), hE⟩
  · (first | replace h14 := of_decide_eq_true h14 | replace h14 := nd_true h14 | skip)
    refine Wl.pass rfl rfl rfl ?_
    refine Wl.pass rfl rfl rfl ?_
    refine Wl.val rfl rfl rfl (Gives.pickT rfl rfl rfl rfl) ?_
    refine Wl.val rfl rfl rfl (Gives.move rfl rfl) ?_
    refine Wl.guardF rfl rfl rfl rfl ?_
    refine Wl.pass rfl rfl rfl ?_
    refine Wl.pass rfl rfl rfl ?_
    refine Wl.pass rfl rfl rfl ?_
    refine Wl.val rfl rfl rfl (Gives.pickT rfl rfl rfl rfl) ?_
    refine Wl.nil ?_
    refine Wx.thenN (hK5 _ _ ?_)
    refine Wc.condT rfl rfl ?_
    refine Wc.seq (fun K13 hK13 => ?_)
    refine Wc.keep [] (.nil) ?_
    refine Wc.region ?_
    refine Wl.val rfl rfl rfl (Gives.assign rfl rfl) ?_
    refine Wl.nil ?_
    refine Wx.thenN (hK13 _ _ ?_)
    refine Wc.ret ?_
    refine Wx.thenR ?_
    refine Wx.ret [_] ⟨rfl, trivial⟩ ?_
    first | exact ⟨rfl, hE⟩ | exact ⟨rb (decide_eq_true (dec_long (by omega))), hE⟩
end Go.Proofs.YtaekpiejdgahfaaDoor
