/- CommandTrip, CommandDecode: the walks of the laws. -/
import Derived.Test.YtaekpiejdgahfaaDoorCmdSh
import Derived.Test.YtaekpiejdgahfaaDoorVc6
namespace Go.Proofs.YtaekpiejdgahfaaDoor
set_option linter.all false
open Go.RowKit
theorem check_04 {q : Req} (hok : (shapeS q.code).ok = true) (harg : argOk q (shapeS q.code) = true) : checkS q = 0 ∨ checkS q = 4 := by
  unfold checkS
  rw [if_neg (by rw [hok]; decide), if_neg (by rw [harg]; decide)]
  split
  · exact Or.inr rfl
  · exact Or.inl rfl
theorem encS_len (q : Req) : (encS q).length ≤ 2048 := by
  unfold encS
  split
  · rename_i h; exact ((fine_iff q).1 h).len
  · exact Nat.zero_le _
theorem dec_enc {q : Req} (h : checkS q = 0) : decP (encS q) = (q, 0) := by unfold encS; rw [if_pos h]; exact dec_form ((fine_iff q).1 h)
set_option maxHeartbeats 1000000 in
set_option maxRecDepth 10000 in
theorem commandTrip_walk (w : World) (hT : Tabs w) (q : Req) (r : RA) (hq : ReqV w (fun _ => True) q r) (code : Int) :
    Calls Tryd.prog 5 #[.agg #[.int .i64 q.code, .slice r.hA r.hn r.hc, .slice r.aA r.an r.ac, .slice r.iA r.iN r.ic, .slice r.bA r.bn r.bc], .int .i64 code] w fun e w' => e = .returned (.bool true) ∧ Ext w w' := by
  refine calls_enter Tryd.func5 rfl Tryd.ntmps5 rfl ?_
  have hE : Ext w w := Ext.refl w
  refine Wc.seq (fun K1 hK1 => ?_)
  refine Wc.keep [(0, _), (1, _)] (.cons rfl (.cons rfl (.nil))) ?_
  refine Wc.region ?_
  refine Wl.does rfl rfl rfl (Does.boxA rfl rfl) ?_
  rintro _ w0_0 ⟨b2, rfl, hs2, hb2, hx0_0⟩
  have hg2 : w.heap.size ≤ b2 := Nat.le_trans hE.size hs2
  replace hE := hE.trans hx0_0
  refine Wl.val rfl rfl rfl (Gives.assign rfl rfl) ?_
  refine Wl.nil ?_
  refine Wx.thenN (hK1 _ _ ?_)
  refine Wc.seq (fun K2 hK2 => ?_)
  refine Wc.seq (fun K3 hK3 => ?_)
  refine Wc.keep [(1, _), (2, _)] (.cons rfl (.cons rfl (.nil))) ?_
  refine Wc.region ?_
  refine Wl.call rfl rfl rfl rfl Tryd.func10 rfl (by kernel_rfl) rfl (awake_calls _ (hT.ext hE)) ?_
  rintro x0 w0 ⟨rfl, hx0⟩
  refine ⟨_, rfl, ?_⟩
  replace hb2 := hb2.ext hx0
  replace hE := hE.trans hx0
  refine Wl.val rfl rfl rfl (Gives.not rfl rfl) ?_
  refine Wl.nil ?_
  refine Wx.thenN (hK3 _ _ ?_)
  refine Wc.condF rfl rfl ?_
  refine Wc.skip ?_
  refine Wx.thenN (hK2 _ _ ?_)
  refine Wc.seq (fun K4 hK4 => ?_)
  refine Wc.seq (fun K5 hK5 => ?_)
  refine Wc.keep [(1, _), (2, _)] (.cons rfl (.cons rfl (.nil))) ?_
  refine Wc.region ?_
  refine Wl.val rfl rfl rfl (Gives.ldW rfl (by kernel_rfl) rfl hb2 (by kernel_rfl)) ?_
  refine Wl.call rfl rfl rfl rfl Tryd.func13 rfl (by kernel_rfl) rfl (few_calls (P := fun _ => True) _ q r (hq.ext hE)) ?_
  rintro x1 w1 ⟨b, rfl, hfew, hx1⟩
  refine ⟨_, rfl, ?_⟩
  replace hb2 := hb2.ext hx1
  replace hE := hE.trans hx1
  refine Wl.val rfl rfl rfl (Gives.not rfl rfl) ?_
  refine Wl.nil ?_
  refine Wx.thenN (hK5 _ _ ?_)
  refine Wc.cond _ rfl (fun h14 => ?_) (fun h14 => ?_)
  · (first | replace h14 := of_decide_eq_true h14 | replace h14 := nd_true h14 | skip)
    refine Wc.seq (fun K6 hK6 => ?_)
    refine Wc.keep [] (.nil) ?_
    refine Wc.region ?_
    refine Wl.val rfl rfl rfl (Gives.assign rfl rfl) ?_
    refine Wl.nil ?_
    refine Wx.thenN (hK6 _ _ ?_)
    refine Wc.ret ?_
    refine Wx.thenR ?_
    refine Wx.ret [_] ⟨rfl, trivial⟩ ?_
    exact ⟨rfl, hE⟩
  · (first | replace h14 := of_decide_eq_false h14 | replace h14 := nd_false h14 | skip)
    refine Wc.skip ?_
    refine Wx.thenN (hK4 _ _ ?_)
    refine Wc.seq (fun K7 hK7 => ?_)
    refine Wc.keep [(1, _), (2, _)] (.cons rfl (.cons rfl (.nil))) ?_
    refine Wc.region ?_
    refine Wl.val rfl rfl rfl (Gives.ldW rfl (by kernel_rfl) rfl hb2 (by kernel_rfl)) ?_
    refine Wl.val rfl rfl rfl (Gives.move rfl rfl) ?_
    refine Wl.call rfl rfl rfl rfl Tryd.func14 rfl (by kernel_rfl) rfl (shaped_calls (P := fun _ => True) _ q r (hq.ext hE) code) ?_
    rintro x2 w12 ⟨p, rp, N1, N2, N3, N4, rfl, hSh, hok, harg, hx2⟩
    refine ⟨_, rfl, ?_⟩
    have hp := hSh.req
    replace hb2 := hb2.ext hx2
    replace hE := hE.trans hx2
    refine Wl.does rfl rfl rfl (Does.alB (.agg #[(.int .i64 0), (.slice none 0 0), (.slice none 0 0), (.slice none 0 0), (.slice none 0 0)]) rfl (by kernel_rfl) rfl) ?_
    rintro _ w5_3 ⟨b5, rfl, hs5, hb5, hx5_3⟩
    have hn2_5 : b2 ≠ b5 := hb2.ne hs5
    have hg5 : w.heap.size ≤ b5 := Nat.le_trans hE.size hs5
    replace hb2 := hb2.ext hx5_3
    replace hE := hE.trans hx5_3
    refine Wl.acts rfl rfl (Does.stL 5 rfl rfl rfl hb5 (by kernel_rfl) rfl rfl rfl) ?_
    rintro _ w5_4 ⟨hbn, hF5_4⟩
    replace hb2 := hb2.fr hF5_4 (by first | assumption | exact Ne.symm (by assumption))
    replace hE := Ext.over hE hF5_4 hg5
    replace hb5 := hbn
    clear hbn
    replace hp := hp.ext (Ext.over hx5_3 hF5_4 hs5)
    refine Wl.nil ?_
    refine Wx.thenN (hK7 _ _ ?_)
    refine Wc.seq (fun K8 hK8 => ?_)
    refine Wc.keep [(5, _)] (.cons rfl (.nil)) ?_
    refine Wc.region ?_
    refine Wl.val rfl rfl rfl (Gives.ldW rfl (by kernel_rfl) rfl hb5 (by kernel_rfl)) ?_
    refine Wl.call rfl rfl rfl rfl Tryd.func16 rfl (by kernel_rfl) rfl (encodeP_calls (P := fun _ => True) _ (hT.ext hE) p rp hp (few_of harg)) ?_
    rintro x3 w13 ⟨S, m, c, rfl, hO, hx3⟩
    refine ⟨_, rfl, ?_⟩
    replace hp := hp.ext hx3
    replace hb2 := hb2.ext hx3
    replace hb5 := hb5.ext hx3
    replace hE := hE.trans hx3
    have hB := hO.bv (P := fun _ => True) (fun _ _ => trivial)
    have hBl := hB.len
    have hel := encS_len p
    refine Wl.val rfl rfl rfl (Gives.move rfl rfl) ?_
    refine Wl.val rfl rfl rfl (Gives.extract rfl rfl rfl) ?_
    refine Wl.val rfl rfl rfl (Gives.extract rfl rfl rfl) ?_
    refine Wl.val rfl rfl rfl (Gives.assign rfl rfl) ?_
    refine Wl.val rfl rfl rfl (Gives.assign rfl rfl) ?_
    refine Wl.nil ?_
    refine Wx.thenN (hK8 _ _ ?_)
    refine Wc.seq (fun K9 hK9 => ?_)
    refine Wc.keep [(5, _), (6, _), (7, _)] (.cons rfl (.cons rfl (.cons rfl (.nil)))) ?_
    refine Wc.region ?_
    refine Wl.val rfl rfl rfl (Gives.move rfl rfl) ?_
    refine Wl.call rfl rfl rfl rfl Tryd.func21 rfl (by kernel_rfl) rfl (decodeP_calls (P := fun _ => True) _ (hT.ext hE) S m c (encS p) hB (by omega)) ?_
    rintro x4 w14 ⟨rd, rfl, hqd, hx4⟩
    refine ⟨_, rfl, ?_⟩
    replace hp := hp.ext hx4
    replace hb2 := hb2.ext hx4
    replace hb5 := hb5.ext hx4
    replace hE := hE.trans hx4
    refine Wl.val rfl rfl rfl (Gives.move rfl rfl) ?_
    refine Wl.val rfl rfl rfl (Gives.extract rfl rfl rfl) ?_
    refine Wl.val rfl rfl rfl (Gives.extract rfl rfl rfl) ?_
    refine Wl.does rfl rfl rfl (Does.alB (.agg #[(.int .i64 0), (.slice none 0 0), (.slice none 0 0), (.slice none 0 0), (.slice none 0 0)]) rfl (by kernel_rfl) rfl) ?_
    rintro _ w7_5 ⟨b8, rfl, hs8, hb8, hx7_5⟩
    have hn2_8 : b2 ≠ b8 := hb2.ne hs8
    have hn5_8 : b5 ≠ b8 := hb5.ne hs8
    have hg8 : w.heap.size ≤ b8 := Nat.le_trans hE.size hs8
    replace hb2 := hb2.ext hx7_5
    replace hb5 := hb5.ext hx7_5
    replace hE := hE.trans hx7_5
    refine Wl.acts rfl rfl (Does.stL 5 rfl rfl rfl hb8 (by kernel_rfl) rfl rfl rfl) ?_
    rintro _ w7_6 ⟨hbn, hF7_6⟩
    replace hb2 := hb2.fr hF7_6 (by first | assumption | exact Ne.symm (by assumption))
    replace hb5 := hb5.fr hF7_6 (by first | assumption | exact Ne.symm (by assumption))
    replace hE := Ext.over hE hF7_6 hg8
    replace hb8 := hbn
    clear hbn
    replace hp := hp.ext (Ext.over hx7_5 hF7_6 hs8)
    replace hqd := hqd.ext (Ext.over hx7_5 hF7_6 hs8)
    refine Wl.val rfl rfl rfl (Gives.assign rfl rfl) ?_
    refine Wl.nil ?_
    refine Wx.thenN (hK9 _ _ ?_)
    refine Wc.seq (fun K10 hK10 => ?_)
    refine Wc.seq (fun K11 hK11 => ?_)
    refine Wc.keep [(5, _), (6, _), (7, _), (8, _), (9, _)] (.cons rfl (.cons rfl (.cons rfl (.cons rfl (.cons rfl (.nil)))))) ?_
    refine Wc.region ?_
    refine Wl.val rfl rfl rfl (Gives.move rfl rfl) ?_
    refine Wl.val rfl rfl rfl (Gives.neq rfl rfl rfl) ?_
    refine Wl.nil ?_
    refine Wx.thenN (hK11 _ _ ?_)
    refine Wc.cond _ rfl (fun h29 => ?_) (fun h29 => ?_)
    · (first | replace h29 := of_decide_eq_true h29 | replace h29 := nd_true h29 | skip)
      refine Wc.seq (fun K12 hK12 => ?_)
      refine Wc.keep [(5, _), (7, _)] (.cons rfl (.cons rfl (.nil))) ?_
      have h4 : checkS p = 4 := (check_04 hok harg).resolve_left h29
      refine Wc.region ?_
      refine Wl.val rfl rfl rfl (Gives.move rfl rfl) ?_
      refine Wl.val rfl rfl rfl (Gives.eql rfl rfl rfl) ?_
      refine Wl.val rfl rfl rfl (Gives.move rfl rfl) ?_
      refine Wl.guardT rfl rfl rfl (by rw [h4]; rfl) ?_
      refine Wl.val rfl rfl rfl (Gives.ldW rfl (by kernel_rfl) rfl hb5 (by kernel_rfl)) ?_
      refine Wl.call rfl rfl rfl rfl Tryd.func19 rfl (by kernel_rfl) rfl (checkR_calls (P := fun _ => True) _ p rp hp (few_of harg)) ?_
      rintro x5 w15 ⟨rfl, hx5⟩
      refine ⟨_, rfl, ?_⟩
      replace hb2 := hb2.ext hx5
      replace hb5 := hb5.ext hx5
      replace hb8 := hb8.ext hx5
      replace hE := hE.trans hx5
      refine Wl.val rfl rfl rfl (Gives.move rfl rfl) ?_
      refine Wl.val rfl rfl rfl (Gives.eql rfl rfl rfl) ?_
      refine Wl.val rfl rfl rfl (Gives.pickT rfl rfl rfl rfl) ?_
      refine Wl.val rfl rfl rfl (Gives.assign rfl rfl) ?_
      refine Wl.nil ?_
      refine Wx.thenN (hK12 _ _ ?_)
      refine Wc.ret ?_
      refine Wx.thenR ?_
      refine Wx.ret [_] ⟨rfl, trivial⟩ ?_
      exact ⟨rb (decide_eq_true rfl), hE⟩
    · (first | replace h29 := of_decide_eq_false h29 | replace h29 := nd_false h29 | skip)
      refine Wc.skip ?_
      refine Wx.thenN (hK10 _ _ ?_)
      refine Wc.seq (fun K13 hK13 => ?_)
      refine Wc.keep [(5, _), (6, _), (8, _), (9, _)] (.cons rfl (.cons rfl (.cons rfl (.cons rfl (.nil))))) ?_
      have h0 : checkS p = 0 := h29
      have hdec := dec_enc h0
      rw [hdec] at hqd hb8
      rw [hdec]
      refine Wc.region ?_
      refine Wl.val rfl rfl rfl (Gives.move rfl rfl) ?_
      refine Wl.val rfl rfl rfl (Gives.eql rfl rfl rfl) ?_
      refine Wl.val rfl rfl rfl (Gives.move rfl rfl) ?_
      refine Wl.guardT rfl rfl rfl rfl ?_
      refine Wl.val rfl rfl rfl (Gives.ldW rfl (by kernel_rfl) rfl hb8 (by kernel_rfl)) ?_
      refine Wl.val rfl rfl rfl (Gives.ldW rfl (by kernel_rfl) rfl hb5 (by kernel_rfl)) ?_
      refine Wl.call rfl rfl rfl rfl Tryd.func22 rfl (by kernel_rfl) rfl (sameQ_calls (P := fun _ => True) (P' := fun _ => True) _ p rd rp hqd hp) ?_
      rintro x6 w16 ⟨rfl, hx6⟩
      refine ⟨_, rfl, ?_⟩
      replace hb2 := hb2.ext hx6
      replace hb5 := hb5.ext hx6
      replace hb8 := hb8.ext hx6
      replace hE := hE.trans hx6
      refine Wl.val rfl rfl rfl (Gives.pickT rfl rfl rfl rfl) ?_
      refine Wl.val rfl rfl rfl (Gives.move rfl rfl) ?_
      refine Wl.guardT rfl rfl rfl rfl ?_
      refine Wl.val rfl rfl rfl (Gives.move rfl rfl) ?_
      refine Wl.val rfl rfl rfl (Gives.lenS rfl Tryd.underlying36 rfl) ?_
      refine Wl.val rfl rfl rfl (Gives.leq rfl rfl rfl) ?_
      refine Wl.val rfl rfl rfl (Gives.pickT rfl rfl rfl rfl) ?_
      refine Wl.val rfl rfl rfl (Gives.assign rfl rfl) ?_
      refine Wl.nil ?_
      refine Wx.thenN (hK13 _ _ ?_)
      refine Wc.ret ?_
      refine Wx.ret [_] ⟨rfl, trivial⟩ ?_
      exact ⟨rb (decide_eq_true (by omega)), hE⟩
end Go.Proofs.YtaekpiejdgahfaaDoor
