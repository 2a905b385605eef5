/- ImageCheck, ImageLines: the walks. -/
import Derived.Test.YteppchoeiflnhaaDoorImgR
namespace Go.Proofs.YteppchoeiflnhaaDoor
set_option linter.all false
set_option maxRecDepth 20000
open Go.RowKit
set_option maxRecDepth 20000 in
set_option maxHeartbeats 4000000 in
theorem imageCheck_walk {P P' : Nat → Prop} (w : World) (hTM : Tab w ∧ TabM w) (r v : Int) (nm : List UInt8) (A : Option Addr) (n c : Nat) (pay : List UInt8) (hp : BV w P A n c pay) (C : Option Addr) (cn cc : Nat) (codes : List UInt8) (hc : BV w P' C cn cc codes) (role which : Int) :
    Calls Tryd.prog 4 #[.agg #[.int .i64 r, txt nm, .int .i64 v, .slice A n c], .slice C cn cc, .int .i64 role, .int .i64 which] w fun e w' => e = .returned (.bool true) ∧ Ext w w' := by
  obtain ⟨hT, hM⟩ := hTM
  have hle := hp.le
  have hq := hp.cutS 300
  have hm4 := Int.emod_nonneg role (show (4 : Int) ≠ 0 by decide)
  have hm4' := Int.emod_lt_of_pos role (show (0 : Int) < 4 by decide)
  refine calls_enter Tryd.func4 rfl Tryd.ntmps4 rfl ?_
  have hE : Ext w w := Ext.refl w
  refine Wc.seq (fun K1 hK1 => ?_)
  refine Wc.keep [(0, _), (1, _), (2, _), (3, _)] (.cons rfl (.cons rfl (.cons rfl (.cons rfl (.nil))))) ?_
  refine Wc.region ?_
  refine Wl.does rfl rfl rfl (Does.boxA rfl rfl) ?_
  rintro _ w0_0 ⟨b4, rfl, hs4, hb4, hx0_0⟩
  have hg4 : w.heap.size ≤ b4 := Nat.le_trans hE.size hs4
  replace hE := hE.trans hx0_0
  refine Wl.val rfl rfl rfl (Gives.assign rfl rfl) ?_
  refine Wl.nil ?_
  refine Wx.thenN (hK1 _ _ ?_)
  refine Wc.seq (fun K2 hK2 => ?_)
  refine Wc.seq (fun K3 hK3 => ?_)
  refine Wc.keep [(1, _), (2, _), (3, _), (4, _)] (.cons rfl (.cons rfl (.cons rfl (.cons rfl (.nil))))) ?_
  refine Wc.region ?_
  refine Wl.call rfl rfl rfl rfl Tryd.func13 rfl (by kernel_rfl) rfl (awakeI _ (hT.ext hE) (hM.ext hE)) ?_
  rintro x0 w0 ⟨rfl, hx0⟩
  refine ⟨_, rfl, ?_⟩
  replace hb4 := hb4.ext hx0
  replace hE := hE.trans hx0
  refine Wl.val rfl rfl rfl (Gives.not rfl rfl) ?_
  refine Wl.nil ?_
  refine Wx.thenN (hK3 _ _ ?_)
  refine Wc.condF rfl rfl ?_
  refine Wc.skip ?_
  refine Wx.thenN (hK2 _ _ ?_)
  refine Wc.seq (fun K4 hK4 => ?_)
  refine Wc.keep [(1, _), (2, _), (3, _), (4, _)] (.cons rfl (.cons rfl (.cons rfl (.cons rfl (.nil))))) ?_
  refine Wc.region ?_
  refine Wl.val rfl rfl rfl (Gives.ldW rfl (by kernel_rfl) rfl hb4 (by kernel_rfl)) ?_
  refine Wl.call rfl rfl rfl rfl Tryd.func21 rfl (by kernel_rfl) rfl (fewI _ r v nm A n c hle) ?_
  rintro x1 w31 ⟨nm', rfl, hnm', hx31⟩
  refine ⟨_, rfl, ?_⟩
  replace hb4 := hb4.ext hx31
  replace hE := hE.trans hx31
  refine Wl.acts rfl rfl (Does.stL 4 rfl rfl rfl hb4 (by kernel_rfl) rfl rfl rfl) ?_
  rintro _ w3_2 ⟨hbn, hF3_2⟩
  replace hE := Ext.over hE hF3_2 hg4
  replace hb4 := hbn
  clear hbn
  refine Wl.nil ?_
  refine Wx.thenN (hK4 _ _ ?_)
  refine Wc.seq (fun K5 hK5 => ?_)
  refine Wc.keep [(1, _), (2, _), (3, _), (4, _)] (.cons rfl (.cons rfl (.cons rfl (.cons rfl (.nil))))) ?_
  refine Wc.region ?_
  refine Wl.val rfl rfl rfl (Gives.move rfl rfl) ?_
  refine Wl.call rfl rfl rfl rfl Tryd.func18 rfl (by kernel_rfl) rfl (newD _ C cn cc codes (hc.ext hE) 40) ?_
  rintro x2 w41 ⟨gC, rfl, hgC, hC, hx41⟩
  refine ⟨_, rfl, ?_⟩
  have hgw : w.heap.size ≤ gC := Nat.le_trans hE.size hgC
  have hn4g : b4 ≠ gC := by { have := hb4.lt; omega }
  replace hb4 := hb4.ext hx41
  replace hE := hE.trans hx41
  refine Wl.val rfl rfl rfl (Gives.move rfl rfl) ?_
  refine Wl.call rfl rfl rfl rfl Tryd.func20 rfl (by kernel_rfl) rfl (mod_calls _ role 4 (by omega) (by omega)) ?_
  rintro x3 w43 ⟨rfl, rfl⟩
  refine ⟨_, rfl, ?_⟩
  refine Wl.val rfl rfl rfl (Gives.add rfl rfl rfl (by first | exact IntWalk.i64_in _ (by omega) | exact u64_in _ (by omega) | exact u32_in _ (by omega) | exact u8_in _ (by omega) | exact rfl)) ?_
  refine Wl.call rfl rfl rfl rfl Tryd.func22 rfl (by kernel_rfl) rfl (imageD _ gC _ hC (Nat.le_refl _) (1 + role % 4) (by omega)) ?_
  rintro x4 w45 ⟨x, S1, m1, k1, rfl, hO1, hxe, hrole, hC2, hF45⟩
  refine ⟨_, rfl, ?_⟩
  have hm1 := hO1.len
  have hx64 := (img_ok hxe).2.2.1
  replace hb4 := hb4.fr hF45 (by first | assumption | exact Ne.symm (by assumption))
  replace hE := Ext.over hE hF45 hgw
  refine Wl.does rfl rfl rfl (Does.alB (.agg #[(.int .i64 0), (.string ByteArray.empty), (.int .i64 0), (.slice none 0 0)]) rfl (by kernel_rfl) rfl) ?_
  rintro _ w4_6 ⟨b9, rfl, hs9, hb9, hx4_6⟩
  have hn4_9 : b4 ≠ b9 := hb4.ne hs9
  have hg9 : w.heap.size ≤ b9 := Nat.le_trans hE.size hs9
  replace hb4 := hb4.ext hx4_6
  replace hE := hE.trans hx4_6
  refine Wl.acts rfl rfl (Does.stL 4 rfl rfl rfl hb9 (by kernel_rfl) rfl rfl rfl) ?_
  rintro _ w4_7 ⟨hbn, hF4_7⟩
  replace hb4 := hb4.fr hF4_7 (by first | assumption | exact Ne.symm (by assumption))
  replace hE := Ext.over hE hF4_7 hg9
  replace hb9 := hbn
  clear hbn
  have hP1 : BV w4_7 (fun q => q ≠ b9) S1 m1 k1 x.pay := ((((hO1.bv (P := fun _ => True) fun _ _ => trivial).bd).mono (P' := fun q => q ≠ b9) fun q hq => by omega).ext hx4_6).fr hF4_7
  refine Wl.nil ?_
  refine Wx.thenN (hK5 _ _ ?_)
  refine Wc.seq (fun K6 hK6 => ?_)
  refine Wc.seq (fun K7 hK7 => ?_)
  refine Wc.keep [(3, _), (4, _), (9, _)] (.cons rfl (.cons rfl (.cons rfl (.nil)))) ?_
  refine Wc.regionB (fun q => [0, 1, 2].contains q) [] (.read 0 (.read 2 (.call false 1 .tail .none))) 3 (by kernel_rfl) (by kernel_rfl) (by kernel_rfl) ?_
  intro w5 hR5
  replace hb4 := hb4.ext hR5.ext
  replace hb9 := hb9.ext hR5.ext
  replace hE := hE.trans hR5.ext
  have hO5_4 : Old w5.heap.size [] b4 := ⟨hb4.lt, trivial⟩
  have hO5_9 : Old w5.heap.size [] b9 := ⟨hb9.lt, trivial⟩
  have hX := Ext.refl w5
  replace hP1 := hP1.ext hR5.ext
  refine RunE.readM rfl rfl rfl rfl rfl (fun wS hS => (Gives.ldW rfl (by kernel_rfl) rfl ((hb4.ext hX).fr hS hO5_4) (by kernel_rfl))) ?_
  refine RunE.readM rfl rfl rfl rfl rfl (fun wS hS => (Gives.ldW rfl (by kernel_rfl) rfl ((hb4.ext hX).fr hS hO5_4) (by kernel_rfl))) ?_
  refine RunE.turnC rfl rfl rfl rfl rfl Tryd.func23 rfl (by kernel_rfl) rfl (checkP _ r v nm' A (min n 300) c (pay.take 300) (hq.ext (hE.trans hX))) ?_ RunE.none
  rintro x5 w51 ⟨rfl, hx51⟩
  refine ⟨_, rfl, ?_⟩
  have hP1a := hP1.ext (hX.trans hx51)
  refine ⟨hx51.fr, ?_⟩
  replace hX := hX.trans hx51
  refine RunE.tail rfl ?_
  replace hb4 := hb4.ext hX
  replace hb9 := hb9.ext hX
  replace hE := hE.trans hX
  refine Wl.call rfl rfl rfl rfl Tryd.func24 rfl (by kernel_rfl) rfl (checkR _ r v nm' A (min n 300) c (pay.take 300) (hq.ext hE) (by omega)) ?_
  rintro x6 w53 ⟨rfl, hx53⟩
  refine ⟨_, rfl, ?_⟩
  have hP1b := hP1a.ext hx53
  replace hb4 := hb4.ext hx53
  replace hb9 := hb9.ext hx53
  replace hE := hE.trans hx53
  refine Wl.val rfl rfl rfl (Gives.neq rfl rfl rfl) ?_
  refine Wl.val rfl rfl rfl (Gives.move rfl rfl) ?_
  refine Wl.guardT rfl rfl rfl (by simp) ?_
  refine Wl.val rfl rfl rfl (Gives.ldW rfl (by kernel_rfl) rfl hb9 (by kernel_rfl)) ?_
  refine Wl.call rfl rfl rfl rfl Tryd.func23 rfl (by kernel_rfl) rfl (checkP _ x.role x.ver x.name S1 m1 k1 x.pay hP1b) ?_
  rintro x7 w57 ⟨rfl, hx57⟩
  refine ⟨_, rfl, ?_⟩
  have hP2 := hP1b.ext hx57
  replace hb4 := hb4.ext hx57
  replace hb9 := hb9.ext hx57
  replace hE := hE.trans hx57
  refine Wl.val rfl rfl rfl (Gives.neq rfl rfl rfl) ?_
  refine Wl.val rfl rfl rfl (Gives.pickF rfl rfl rfl rfl) ?_
  refine Wl.nil ?_
  refine Wx.thenN (hK7 _ _ ?_)
  refine Wc.condF rfl (by rw [show imgE ⟨x.role, x.name, x.ver, x.pay⟩ = 0 from hxe]; rfl) ?_
  refine Wc.skip ?_
  refine Wx.thenN (hK6 _ _ ?_)
  refine Wc.seq (fun K8 hK8 => ?_)
  refine Wc.seq (fun K9 hK9 => ?_)
  refine Wc.keep [(3, _), (4, _), (9, _)] (.cons rfl (.cons rfl (.cons rfl (.nil)))) ?_
  refine Wc.region ?_
  refine Wl.val rfl rfl rfl (Gives.move rfl rfl) ?_
  refine Wl.call rfl rfl rfl rfl Tryd.func20 rfl (by kernel_rfl) rfl (mod_calls _ which 5 (by omega) (by omega)) ?_
  rintro x8 w71 ⟨rfl, rfl⟩
  refine ⟨_, rfl, ?_⟩
  refine Wl.nil ?_
  refine Wx.thenN (hK9 _ _ ?_)
  refine Wc.block ?_
  refine Wc.seq (fun K10 hK10 => ?_)
  refine Wc.keep [(4, _), (9, _), (31, _)] (.cons rfl (.cons rfl (.cons rfl (.nil)))) ?_
  refine Wc.region ?_
  refine Wl.val rfl rfl rfl (Gives.eql rfl rfl rfl) ?_
  refine Wl.val rfl rfl rfl (Gives.assign rfl rfl) ?_
  refine Wl.nil ?_
  refine Wx.thenN (hK10 _ _ ?_)
  refine Wc.cond _ rfl (fun h36 => ?_) (fun h36 => ?_)
  · (first | replace h36 := of_decide_eq_true h36 | replace h36 := nd_true h36 | skip)
    refine Wc.keep [(4, _), (9, _)] (.cons rfl (.cons rfl (.nil))) ?_
    refine Wc.region ?_
    refine Wl.val rfl rfl rfl (Gives.fieldAt 0 rfl Tryd.underlying26 rfl (by kernel_rfl) rfl rfl) ?_
    refine Wl.val rfl rfl rfl (Gives.ldK rfl (by kernel_rfl) rfl hb4 rfl) ?_
    refine Wl.val rfl rfl rfl (Gives.fieldAt 0 rfl Tryd.underlying26 rfl (by kernel_rfl) rfl rfl) ?_
    refine Wl.acts rfl rfl (Does.stC rfl rfl rfl hb9 (by kernel_rfl) (Nat.le_of_ble_eq_true rfl) rfl) ?_
    rintro _ w10_3 ⟨hbn, hF10_3⟩
    replace hb4 := hb4.fr hF10_3 (by first | assumption | exact Ne.symm (by assumption))
    replace hE := Ext.over hE hF10_3 hg9
    replace hb9 := hbn
    clear hbn
    (try simp only [List.setIfInBounds_toArray, List.set_cons_zero, List.set_cons_succ, Nat.reduceAdd, Nat.zero_add] at hb9)
    have hPf := hP2.fr hF10_3
    refine Wl.nil ?_
    refine Wx.blockN ?_
    refine Wx.thenN (hK8 _ _ ?_)
    refine Wc.seq (fun K11 hK11 => ?_)
    refine Wc.keep [(9, _)] (.cons rfl (.nil)) ?_
    refine Wc.regionB (fun q => [0, 1, 2].contains q) [] (.read 0 (.read 2 (.call false 1 .tail .none))) 3 (by kernel_rfl) (by kernel_rfl) (by kernel_rfl) ?_
    intro w17 hR17
    replace hb4 := hb4.ext hR17.ext
    replace hb9 := hb9.ext hR17.ext
    replace hE := hE.trans hR17.ext
    have hO17_4 : Old w17.heap.size [] b4 := ⟨hb4.lt, trivial⟩
    have hO17_9 : Old w17.heap.size [] b9 := ⟨hb9.lt, trivial⟩
    have hX := Ext.refl w17
    replace hPf := hPf.ext hR17.ext
    refine RunE.readM rfl rfl rfl rfl rfl (fun wS hS => (Gives.ldW rfl (by kernel_rfl) rfl ((hb9.ext hX).fr hS hO17_9) (by kernel_rfl))) ?_
    refine RunE.readM rfl rfl rfl rfl rfl (fun wS hS => (Gives.ldW rfl (by kernel_rfl) rfl ((hb9.ext hX).fr hS hO17_9) (by kernel_rfl))) ?_
    refine RunE.turnC rfl rfl rfl rfl rfl Tryd.func23 rfl (by kernel_rfl) rfl (checkP _ _ _ _ _ _ _ _ (by first | exact hPf.ext hX | exact hq.ext (hE.trans hX))) ?_ RunE.none
    rintro x10 w171 ⟨rfl, hx171⟩
    refine ⟨_, rfl, ?_⟩
    have hx5171 := hX.trans hx171
    refine ⟨hx171.fr, ?_⟩
    replace hX := hX.trans hx171
    refine RunE.tail rfl ?_
    replace hb4 := hb4.ext hX
    replace hb9 := hb9.ext hX
    replace hE := hE.trans hX
    refine Wl.call rfl rfl rfl rfl Tryd.func24 rfl (by kernel_rfl) rfl (checkR _ _ _ _ _ _ _ _ (by first | exact hPf.ext hx5171 | exact hq.ext hE) (by omega)) ?_
    rintro x11 w173 ⟨rfl, hx173⟩
    refine ⟨_, rfl, ?_⟩
    replace hb4 := hb4.ext hx173
    replace hb9 := hb9.ext hx173
    replace hE := hE.trans hx173
    refine Wl.val rfl rfl rfl (Gives.eql rfl rfl rfl) ?_
    refine Wl.val rfl rfl rfl (Gives.assign rfl rfl) ?_
    refine Wl.nil ?_
    refine Wx.thenN (hK11 _ _ ?_)
    refine Wc.ret ?_
    refine Wx.ret [_] ⟨rfl, trivial⟩ ?_
    first | exact ⟨rfl, hE⟩ | exact ⟨ret_bool (by simp), hE⟩
  · (first | replace h36 := of_decide_eq_false h36 | replace h36 := nd_false h36 | skip)
    refine Wc.seq (fun K12 hK12 => ?_)
    refine Wc.keep [(4, _), (9, _), (31, _)] (.cons rfl (.cons rfl (.cons rfl (.nil)))) ?_
    refine Wc.region ?_
    refine Wl.val rfl rfl rfl (Gives.eql rfl rfl rfl) ?_
    refine Wl.val rfl rfl rfl (Gives.assign rfl rfl) ?_
    refine Wl.nil ?_
    refine Wx.thenN (hK12 _ _ ?_)
    refine Wc.cond _ rfl (fun h41 => ?_) (fun h41 => ?_)
    · (first | replace h41 := of_decide_eq_true h41 | replace h41 := nd_true h41 | skip)
      refine Wc.keep [(4, _), (9, _)] (.cons rfl (.cons rfl (.nil))) ?_
      refine Wc.region ?_
      refine Wl.val rfl rfl rfl (Gives.fieldAt 1 rfl Tryd.underlying26 rfl (by kernel_rfl) rfl rfl) ?_
      refine Wl.val rfl rfl rfl (Gives.ldK rfl (by kernel_rfl) rfl hb4 rfl) ?_
      refine Wl.val rfl rfl rfl (Gives.fieldAt 1 rfl Tryd.underlying26 rfl (by kernel_rfl) rfl rfl) ?_
      refine Wl.acts rfl rfl (Does.stC rfl rfl rfl hb9 (by kernel_rfl) (Nat.le_of_ble_eq_true rfl) rfl) ?_
      rintro _ w12_3 ⟨hbn, hF12_3⟩
      replace hb4 := hb4.fr hF12_3 (by first | assumption | exact Ne.symm (by assumption))
      replace hE := Ext.over hE hF12_3 hg9
      replace hb9 := hbn
      clear hbn
      (try simp only [List.setIfInBounds_toArray, List.set_cons_zero, List.set_cons_succ, Nat.reduceAdd, Nat.zero_add] at hb9)
      have hPf := hP2.fr hF12_3
      refine Wl.nil ?_
      refine Wx.blockN ?_
      refine Wx.thenN (hK8 _ _ ?_)
      refine Wc.seq (fun K13 hK13 => ?_)
      refine Wc.keep [(9, _)] (.cons rfl (.nil)) ?_
      refine Wc.regionB (fun q => [0, 1, 2].contains q) [] (.read 0 (.read 2 (.call false 1 .tail .none))) 3 (by kernel_rfl) (by kernel_rfl) (by kernel_rfl) ?_
      intro w17 hR17
      replace hb4 := hb4.ext hR17.ext
      replace hb9 := hb9.ext hR17.ext
      replace hE := hE.trans hR17.ext
      have hO17_4 : Old w17.heap.size [] b4 := ⟨hb4.lt, trivial⟩
      have hO17_9 : Old w17.heap.size [] b9 := ⟨hb9.lt, trivial⟩
      have hX := Ext.refl w17
      replace hPf := hPf.ext hR17.ext
      refine RunE.readM rfl rfl rfl rfl rfl (fun wS hS => (Gives.ldW rfl (by kernel_rfl) rfl ((hb9.ext hX).fr hS hO17_9) (by kernel_rfl))) ?_
      refine RunE.readM rfl rfl rfl rfl rfl (fun wS hS => (Gives.ldW rfl (by kernel_rfl) rfl ((hb9.ext hX).fr hS hO17_9) (by kernel_rfl))) ?_
      refine RunE.turnC rfl rfl rfl rfl rfl Tryd.func23 rfl (by kernel_rfl) rfl (checkP _ _ _ _ _ _ _ _ (by first | exact hPf.ext hX | exact hq.ext (hE.trans hX))) ?_ RunE.none
      rintro x10 w171 ⟨rfl, hx171⟩
      refine ⟨_, rfl, ?_⟩
      have hx5171 := hX.trans hx171
      refine ⟨hx171.fr, ?_⟩
      replace hX := hX.trans hx171
      refine RunE.tail rfl ?_
      replace hb4 := hb4.ext hX
      replace hb9 := hb9.ext hX
      replace hE := hE.trans hX
      refine Wl.call rfl rfl rfl rfl Tryd.func24 rfl (by kernel_rfl) rfl (checkR _ _ _ _ _ _ _ _ (by first | exact hPf.ext hx5171 | exact hq.ext hE) (by omega)) ?_
      rintro x11 w173 ⟨rfl, hx173⟩
      refine ⟨_, rfl, ?_⟩
      replace hb4 := hb4.ext hx173
      replace hb9 := hb9.ext hx173
      replace hE := hE.trans hx173
      refine Wl.val rfl rfl rfl (Gives.eql rfl rfl rfl) ?_
      refine Wl.val rfl rfl rfl (Gives.assign rfl rfl) ?_
      refine Wl.nil ?_
      refine Wx.thenN (hK13 _ _ ?_)
      refine Wc.ret ?_
      refine Wx.ret [_] ⟨rfl, trivial⟩ ?_
      first | exact ⟨rfl, hE⟩ | exact ⟨ret_bool (by simp), hE⟩
    · (first | replace h41 := of_decide_eq_false h41 | replace h41 := nd_false h41 | skip)
      refine Wc.seq (fun K14 hK14 => ?_)
      refine Wc.keep [(4, _), (9, _), (31, _)] (.cons rfl (.cons rfl (.cons rfl (.nil)))) ?_
      refine Wc.region ?_
      refine Wl.val rfl rfl rfl (Gives.eql rfl rfl rfl) ?_
      refine Wl.val rfl rfl rfl (Gives.assign rfl rfl) ?_
      refine Wl.nil ?_
      refine Wx.thenN (hK14 _ _ ?_)
      refine Wc.cond _ rfl (fun h46 => ?_) (fun h46 => ?_)
      · (first | replace h46 := of_decide_eq_true h46 | replace h46 := nd_true h46 | skip)
        refine Wc.keep [(4, _), (9, _)] (.cons rfl (.cons rfl (.nil))) ?_
        refine Wc.region ?_
        refine Wl.val rfl rfl rfl (Gives.fieldAt 2 rfl Tryd.underlying26 rfl (by kernel_rfl) rfl rfl) ?_
        refine Wl.val rfl rfl rfl (Gives.ldK rfl (by kernel_rfl) rfl hb4 rfl) ?_
        refine Wl.val rfl rfl rfl (Gives.fieldAt 2 rfl Tryd.underlying26 rfl (by kernel_rfl) rfl rfl) ?_
        refine Wl.acts rfl rfl (Does.stC rfl rfl rfl hb9 (by kernel_rfl) (Nat.le_of_ble_eq_true rfl) rfl) ?_
        rintro _ w14_3 ⟨hbn, hF14_3⟩
        replace hb4 := hb4.fr hF14_3 (by first | assumption | exact Ne.symm (by assumption))
        replace hE := Ext.over hE hF14_3 hg9
        replace hb9 := hbn
        clear hbn
        (try simp only [List.setIfInBounds_toArray, List.set_cons_zero, List.set_cons_succ, Nat.reduceAdd, Nat.zero_add] at hb9)
        have hPf := hP2.fr hF14_3
        refine Wl.nil ?_
        refine Wx.blockN ?_
        refine Wx.thenN (hK8 _ _ ?_)
        refine Wc.seq (fun K15 hK15 => ?_)
        refine Wc.keep [(9, _)] (.cons rfl (.nil)) ?_
        refine Wc.regionB (fun q => [0, 1, 2].contains q) [] (.read 0 (.read 2 (.call false 1 .tail .none))) 3 (by kernel_rfl) (by kernel_rfl) (by kernel_rfl) ?_
        intro w17 hR17
        replace hb4 := hb4.ext hR17.ext
        replace hb9 := hb9.ext hR17.ext
        replace hE := hE.trans hR17.ext
        have hO17_4 : Old w17.heap.size [] b4 := ⟨hb4.lt, trivial⟩
        have hO17_9 : Old w17.heap.size [] b9 := ⟨hb9.lt, trivial⟩
        have hX := Ext.refl w17
        replace hPf := hPf.ext hR17.ext
        refine RunE.readM rfl rfl rfl rfl rfl (fun wS hS => (Gives.ldW rfl (by kernel_rfl) rfl ((hb9.ext hX).fr hS hO17_9) (by kernel_rfl))) ?_
        refine RunE.readM rfl rfl rfl rfl rfl (fun wS hS => (Gives.ldW rfl (by kernel_rfl) rfl ((hb9.ext hX).fr hS hO17_9) (by kernel_rfl))) ?_
        refine RunE.turnC rfl rfl rfl rfl rfl Tryd.func23 rfl (by kernel_rfl) rfl (checkP _ _ _ _ _ _ _ _ (by first | exact hPf.ext hX | exact hq.ext (hE.trans hX))) ?_ RunE.none
        rintro x10 w171 ⟨rfl, hx171⟩
        refine ⟨_, rfl, ?_⟩
        have hx5171 := hX.trans hx171
        refine ⟨hx171.fr, ?_⟩
        replace hX := hX.trans hx171
        refine RunE.tail rfl ?_
        replace hb4 := hb4.ext hX
        replace hb9 := hb9.ext hX
        replace hE := hE.trans hX
        refine Wl.call rfl rfl rfl rfl Tryd.func24 rfl (by kernel_rfl) rfl (checkR _ _ _ _ _ _ _ _ (by first | exact hPf.ext hx5171 | exact hq.ext hE) (by omega)) ?_
        rintro x11 w173 ⟨rfl, hx173⟩
        refine ⟨_, rfl, ?_⟩
        replace hb4 := hb4.ext hx173
        replace hb9 := hb9.ext hx173
        replace hE := hE.trans hx173
        refine Wl.val rfl rfl rfl (Gives.eql rfl rfl rfl) ?_
        refine Wl.val rfl rfl rfl (Gives.assign rfl rfl) ?_
        refine Wl.nil ?_
        refine Wx.thenN (hK15 _ _ ?_)
        refine Wc.ret ?_
        refine Wx.ret [_] ⟨rfl, trivial⟩ ?_
        first | exact ⟨rfl, hE⟩ | exact ⟨ret_bool (by simp), hE⟩
      · (first | replace h46 := of_decide_eq_false h46 | replace h46 := nd_false h46 | skip)
        refine Wc.seq (fun K16 hK16 => ?_)
        refine Wc.keep [(4, _), (9, _), (31, _)] (.cons rfl (.cons rfl (.cons rfl (.nil)))) ?_
        refine Wc.region ?_
        refine Wl.val rfl rfl rfl (Gives.eql rfl rfl rfl) ?_
        refine Wl.val rfl rfl rfl (Gives.assign rfl rfl) ?_
        refine Wl.nil ?_
        refine Wx.thenN (hK16 _ _ ?_)
        refine Wc.cond _ rfl (fun h51 => ?_) (fun h51 => ?_)
        · (first | replace h51 := of_decide_eq_true h51 | replace h51 := nd_true h51 | skip)
          refine Wc.keep [(4, _), (9, _)] (.cons rfl (.cons rfl (.nil))) ?_
          refine Wc.region ?_
          refine Wl.val rfl rfl rfl (Gives.fieldAt 3 rfl Tryd.underlying26 rfl (by kernel_rfl) rfl rfl) ?_
          refine Wl.val rfl rfl rfl (Gives.ldK rfl (by kernel_rfl) rfl hb4 rfl) ?_
          refine Wl.val rfl rfl rfl (Gives.fieldAt 3 rfl Tryd.underlying26 rfl (by kernel_rfl) rfl rfl) ?_
          refine Wl.acts rfl rfl (Does.stC rfl rfl rfl hb9 (by kernel_rfl) (Nat.le_of_ble_eq_true rfl) rfl) ?_
          rintro _ w16_3 ⟨hbn, hF16_3⟩
          replace hb4 := hb4.fr hF16_3 (by first | assumption | exact Ne.symm (by assumption))
          replace hE := Ext.over hE hF16_3 hg9
          replace hb9 := hbn
          clear hbn
          (try simp only [List.setIfInBounds_toArray, List.set_cons_zero, List.set_cons_succ, Nat.reduceAdd, Nat.zero_add] at hb9)
          have hPf := hP2.fr hF16_3
          refine Wl.nil ?_
          refine Wx.blockN ?_
          refine Wx.thenN (hK8 _ _ ?_)
          refine Wc.seq (fun K17 hK17 => ?_)
          refine Wc.keep [(9, _)] (.cons rfl (.nil)) ?_
          refine Wc.regionB (fun q => [0, 1, 2].contains q) [] (.read 0 (.read 2 (.call false 1 .tail .none))) 3 (by kernel_rfl) (by kernel_rfl) (by kernel_rfl) ?_
          intro w17 hR17
          replace hb4 := hb4.ext hR17.ext
          replace hb9 := hb9.ext hR17.ext
          replace hE := hE.trans hR17.ext
          have hO17_4 : Old w17.heap.size [] b4 := ⟨hb4.lt, trivial⟩
          have hO17_9 : Old w17.heap.size [] b9 := ⟨hb9.lt, trivial⟩
          have hX := Ext.refl w17
          replace hPf := hPf.ext hR17.ext
          refine RunE.readM rfl rfl rfl rfl rfl (fun wS hS => (Gives.ldW rfl (by kernel_rfl) rfl ((hb9.ext hX).fr hS hO17_9) (by kernel_rfl))) ?_
          refine RunE.readM rfl rfl rfl rfl rfl (fun wS hS => (Gives.ldW rfl (by kernel_rfl) rfl ((hb9.ext hX).fr hS hO17_9) (by kernel_rfl))) ?_
          refine RunE.turnC rfl rfl rfl rfl rfl Tryd.func23 rfl (by kernel_rfl) rfl (checkP _ _ _ _ _ _ _ _ (by first | exact hPf.ext hX | exact hq.ext (hE.trans hX))) ?_ RunE.none
          rintro x10 w171 ⟨rfl, hx171⟩
          refine ⟨_, rfl, ?_⟩
          have hx5171 := hX.trans hx171
          refine ⟨hx171.fr, ?_⟩
          replace hX := hX.trans hx171
          refine RunE.tail rfl ?_
          replace hb4 := hb4.ext hX
          replace hb9 := hb9.ext hX
          replace hE := hE.trans hX
          refine Wl.call rfl rfl rfl rfl Tryd.func24 rfl (by kernel_rfl) rfl (checkR _ _ _ _ _ _ _ _ (by first | exact hPf.ext hx5171 | exact hq.ext hE) (by omega)) ?_
          rintro x11 w173 ⟨rfl, hx173⟩
          refine ⟨_, rfl, ?_⟩
          replace hb4 := hb4.ext hx173
          replace hb9 := hb9.ext hx173
          replace hE := hE.trans hx173
          refine Wl.val rfl rfl rfl (Gives.eql rfl rfl rfl) ?_
          refine Wl.val rfl rfl rfl (Gives.assign rfl rfl) ?_
          refine Wl.nil ?_
          refine Wx.thenN (hK17 _ _ ?_)
          refine Wc.ret ?_
          refine Wx.ret [_] ⟨rfl, trivial⟩ ?_
          first | exact ⟨rfl, hE⟩ | exact ⟨ret_bool (by simp), hE⟩
        · (first | replace h51 := of_decide_eq_false h51 | replace h51 := nd_false h51 | skip)
          refine Wc.keep [(4, _), (9, _)] (.cons rfl (.cons rfl (.nil))) ?_
          refine Wc.region ?_
          refine Wl.val rfl rfl rfl (Gives.fieldAt 0 rfl Tryd.underlying26 rfl (by kernel_rfl) rfl rfl) ?_
          refine Wl.val rfl rfl rfl (Gives.ldK rfl (by kernel_rfl) rfl hb4 rfl) ?_
          refine Wl.call rfl rfl rfl rfl Tryd.func20 rfl (by kernel_rfl) rfl (mod_calls _ r 6 (by omega) (by omega)) ?_
          rintro x9 w82 ⟨rfl, rfl⟩
          refine ⟨_, rfl, ?_⟩
          refine Wl.val rfl rfl rfl (Gives.fieldAt 0 rfl Tryd.underlying26 rfl (by kernel_rfl) rfl rfl) ?_
          refine Wl.acts rfl rfl (Does.stC rfl rfl rfl hb9 (by kernel_rfl) (Nat.le_of_ble_eq_true rfl) rfl) ?_
          rintro _ w8_4 ⟨hbn, hF8_4⟩
          replace hb4 := hb4.fr hF8_4 (by first | assumption | exact Ne.symm (by assumption))
          replace hE := Ext.over hE hF8_4 hg9
          replace hb9 := hbn
          clear hbn
          (try simp only [List.setIfInBounds_toArray, List.set_cons_zero, List.set_cons_succ, Nat.reduceAdd, Nat.zero_add] at hb9)
          have hPf := hP2.fr hF8_4
          refine Wl.nil ?_
          refine Wx.blockN ?_
          refine Wx.thenN (hK8 _ _ ?_)
          refine Wc.seq (fun K18 hK18 => ?_)
          refine Wc.keep [(9, _)] (.cons rfl (.nil)) ?_
          refine Wc.regionB (fun q => [0, 1, 2].contains q) [] (.read 0 (.read 2 (.call false 1 .tail .none))) 3 (by kernel_rfl) (by kernel_rfl) (by kernel_rfl) ?_
          intro w17 hR17
          replace hb4 := hb4.ext hR17.ext
          replace hb9 := hb9.ext hR17.ext
          replace hE := hE.trans hR17.ext
          have hO17_4 : Old w17.heap.size [] b4 := ⟨hb4.lt, trivial⟩
          have hO17_9 : Old w17.heap.size [] b9 := ⟨hb9.lt, trivial⟩
          have hX := Ext.refl w17
          replace hPf := hPf.ext hR17.ext
          refine RunE.readM rfl rfl rfl rfl rfl (fun wS hS => (Gives.ldW rfl (by kernel_rfl) rfl ((hb9.ext hX).fr hS hO17_9) (by kernel_rfl))) ?_
          refine RunE.readM rfl rfl rfl rfl rfl (fun wS hS => (Gives.ldW rfl (by kernel_rfl) rfl ((hb9.ext hX).fr hS hO17_9) (by kernel_rfl))) ?_
          refine RunE.turnC rfl rfl rfl rfl rfl Tryd.func23 rfl (by kernel_rfl) rfl (checkP _ _ _ _ _ _ _ _ (by first | exact hPf.ext hX | exact hq.ext (hE.trans hX))) ?_ RunE.none
          rintro x10 w171 ⟨rfl, hx171⟩
          refine ⟨_, rfl, ?_⟩
          have hx5171 := hX.trans hx171
          refine ⟨hx171.fr, ?_⟩
          replace hX := hX.trans hx171
          refine RunE.tail rfl ?_
          replace hb4 := hb4.ext hX
          replace hb9 := hb9.ext hX
          replace hE := hE.trans hX
          refine Wl.call rfl rfl rfl rfl Tryd.func24 rfl (by kernel_rfl) rfl (checkR _ _ _ _ _ _ _ _ (by first | exact hPf.ext hx5171 | exact hq.ext hE) (by omega)) ?_
          rintro x11 w173 ⟨rfl, hx173⟩
          refine ⟨_, rfl, ?_⟩
          replace hb4 := hb4.ext hx173
          replace hb9 := hb9.ext hx173
          replace hE := hE.trans hx173
          refine Wl.val rfl rfl rfl (Gives.eql rfl rfl rfl) ?_
          refine Wl.val rfl rfl rfl (Gives.assign rfl rfl) ?_
          refine Wl.nil ?_
          refine Wx.thenN (hK18 _ _ ?_)
          refine Wc.ret ?_
          refine Wx.ret [_] ⟨rfl, trivial⟩ ?_
          first | exact ⟨rfl, hE⟩ | exact ⟨ret_bool (by simp), hE⟩
set_option maxRecDepth 20000 in
set_option maxHeartbeats 4000000 in
theorem imageLines_walk {P P' : Nat → Prop} (w : World) (hTM : Tab w ∧ TabM w) (A : Option Addr) (n c : Nat) (raw : List UInt8) (hp : BV w P A n c raw) (C : Option Addr) (cn cc : Nat) (codes : List UInt8) (hc : BV w P' C cn cc codes) (pos : Int) (by' : UInt8) :
    Calls Tryd.prog 3 #[.slice A n c, .slice C cn cc, .int .i64 pos, .int .u8 (by'.toNat : Int)] w fun e w' => e = .returned (.bool true) ∧ Ext w w' := by
  obtain ⟨hT, hM⟩ := hTM
  have hle := hp.le
  have hq := hp.cutS 200
  refine calls_enter Tryd.func3 rfl Tryd.ntmps3 rfl ?_
  have hE : Ext w w := Ext.refl w
  refine Wc.seq (fun K1 hK1 => ?_)
  refine Wc.keep [(0, _), (1, _), (2, _), (3, _)] (.cons rfl (.cons rfl (.cons rfl (.cons rfl (.nil))))) ?_
  refine Wc.region ?_
  refine Wl.val rfl rfl rfl (Gives.assign rfl rfl) ?_
  refine Wl.nil ?_
  refine Wx.thenN (hK1 _ _ ?_)
  refine Wc.seq (fun K2 hK2 => ?_)
  refine Wc.seq (fun K3 hK3 => ?_)
  refine Wc.keep [(0, _), (1, _), (2, _), (3, _)] (.cons rfl (.cons rfl (.cons rfl (.cons rfl (.nil))))) ?_
  refine Wc.region ?_
  refine Wl.call rfl rfl rfl rfl Tryd.func13 rfl (by kernel_rfl) rfl (awakeI _ (hT.ext hE) (hM.ext hE)) ?_
  rintro x0 w0 ⟨rfl, hx0⟩
  refine ⟨_, rfl, ?_⟩
  replace hE := hE.trans hx0
  refine Wl.val rfl rfl rfl (Gives.not rfl rfl) ?_
  refine Wl.nil ?_
  refine Wx.thenN (hK3 _ _ ?_)
  refine Wc.condF rfl rfl ?_
  refine Wc.skip ?_
  refine Wx.thenN (hK2 _ _ ?_)
  refine Wc.seq (fun K4 hK4 => ?_)
  refine Wc.keep [(0, _), (1, _), (2, _), (3, _)] (.cons rfl (.cons rfl (.cons rfl (.cons rfl (.nil))))) ?_
  refine Wc.region ?_
  refine Wl.val rfl rfl rfl (Gives.move rfl rfl) ?_
  refine Wl.call rfl rfl rfl rfl Tryd.func14 rfl (by kernel_rfl) rfl (cutN_calls _ A n c hle 200 rfl) ?_
  rintro x8 w31 ⟨rfl, rfl⟩
  refine ⟨_, rfl, ?_⟩
  refine Wl.val rfl rfl rfl (Gives.buildS (pl := [(0, 1), (1, 1), (2, 1), (3, 1)]) (zv := (.agg #[(.int .i64 0), (.string ByteArray.empty), (.int .i64 0), (.slice none 0 0)])) rfl Tryd.underlying26 (by kernel_rfl) (by kernel_rfl) rfl rfl) ?_
  refine Wl.does rfl rfl rfl (Does.alB (.agg #[(.int .i64 0), (.string ByteArray.empty), (.int .i64 0), (.slice none 0 0)]) rfl (by kernel_rfl) rfl) ?_
  rintro _ w3_3 ⟨b9, rfl, hs9, hb9, hx3_3⟩
  have hg9 : w.heap.size ≤ b9 := Nat.le_trans hE.size hs9
  replace hE := hE.trans hx3_3
  refine Wl.acts rfl rfl (Does.stL 4 rfl rfl rfl hb9 (by kernel_rfl) rfl rfl rfl) ?_
  rintro _ w3_4 ⟨hbn, hF3_4⟩
  replace hE := Ext.over hE hF3_4 hg9
  replace hb9 := hbn
  clear hbn
  refine Wl.nil ?_
  refine Wx.thenN (hK4 _ _ ?_)
  refine Wc.seq (fun K5 hK5 => ?_)
  refine Wc.seq (fun K6 hK6 => ?_)
  refine Wc.keep [(1, _), (2, _), (3, _), (9, _)] (.cons rfl (.cons rfl (.cons rfl (.cons rfl (.nil))))) ?_
  refine Wc.regionB (fun q => [0, 1, 2].contains q) [] (.read 0 (.read 2 (.call false 1 .tail .none))) 3 (by kernel_rfl) (by kernel_rfl) (by kernel_rfl) ?_
  intro w4 hR4
  replace hb9 := hb9.ext hR4.ext
  replace hE := hE.trans hR4.ext
  have hO4_9 : Old w4.heap.size [] b9 := ⟨hb9.lt, trivial⟩
  have hX := Ext.refl w4
  refine RunE.readM rfl rfl rfl rfl rfl (fun wS hS => (Gives.ldW rfl (by kernel_rfl) rfl ((hb9.ext hX).fr hS hO4_9) (by kernel_rfl))) ?_
  refine RunE.readM rfl rfl rfl rfl rfl (fun wS hS => (Gives.ldW rfl (by kernel_rfl) rfl ((hb9.ext hX).fr hS hO4_9) (by kernel_rfl))) ?_
  refine RunE.turnC rfl rfl rfl rfl rfl Tryd.func16 rfl (by kernel_rfl) rfl (linesP _ 0 0 [] A (min n 200) c (raw.take 200) (hq.ext (hE.trans hX))) ?_ RunE.none
  rintro x1 w41 ⟨S1, m1, k1, rfl, hL1, hx41⟩
  refine ⟨_, rfl, ?_⟩
  refine ⟨hx41.fr, ?_⟩
  replace hX := hX.trans hx41
  refine RunE.tail rfl ?_
  replace hb9 := hb9.ext hX
  replace hE := hE.trans hX
  refine Wl.call rfl rfl rfl rfl Tryd.func17 rfl (by kernel_rfl) rfl (linesR _ 0 0 [] A (min n 200) c (raw.take 200) (hq.ext hE) (by omega)) ?_
  rintro x2 w43 ⟨S2, m2, k2, rfl, hL2, hx43⟩
  refine ⟨_, rfl, ?_⟩
  replace hL1 := hL1.ext hx43
  replace hb9 := hb9.ext hx43
  replace hE := hE.trans hx43
  refine Wl.call rfl rfl rfl rfl Tryd.func15 rfl (by kernel_rfl) rfl (lists_calls _ _ _ _ _ _ _ _ _ hL1 hL2) ?_
  rintro x3 w44 ⟨rfl, hq44⟩
  refine ⟨_, rfl, ?_⟩
  have hx44 := hq44.ext
  replace hb9 := hb9.ext hx44
  replace hE := hE.trans hx44
  refine Wl.val rfl rfl rfl (Gives.not rfl rfl) ?_
  refine Wl.nil ?_
  refine Wx.thenN (hK6 _ _ ?_)
  refine Wc.condF rfl (by simp) ?_
  refine Wc.skip ?_
  refine Wx.thenN (hK5 _ _ ?_)
  refine Wc.seq (fun K7 hK7 => ?_)
  refine Wc.keep [(1, _), (2, _), (3, _), (9, _)] (.cons rfl (.cons rfl (.cons rfl (.cons rfl (.nil))))) ?_
  refine Wc.region ?_
  refine Wl.val rfl rfl rfl (Gives.move rfl rfl) ?_
  refine Wl.call rfl rfl rfl rfl Tryd.func18 rfl (by kernel_rfl) rfl (newD _ C cn cc codes (hc.ext hE) 20) ?_
  rintro x4 w61 ⟨gC, rfl, hgC, hC, hx61⟩
  refine ⟨_, rfl, ?_⟩
  have hgw : w.heap.size ≤ gC := Nat.le_trans hE.size hgC
  have hn9g : b9 ≠ gC := by { have := hb9.lt; omega }
  have hz9 := hb9.lt
  replace hb9 := hb9.ext hx61
  replace hE := hE.trans hx61
  refine Wl.call rfl rfl rfl rfl Tryd.func19 rfl (by kernel_rfl) rfl (payloadD _ gC _ hC (Nat.le_refl _)) ?_
  rintro x5 w62 ⟨S3, m3, k3, l3, rfl, hO3, hls, hl1, hl36, hC2, hF62⟩
  refine ⟨_, rfl, ?_⟩
  have hm3 := hO3.len
  have hz62 := hx61.size
  have hzE := hE.size
  replace hb9 := hb9.fr hF62 (by first | assumption | exact Ne.symm (by assumption))
  replace hE := Ext.over hE hF62 hgw
  refine Wl.val rfl rfl rfl (Gives.fieldAt 3 rfl Tryd.underlying26 rfl (by kernel_rfl) rfl rfl) ?_
  refine Wl.acts rfl rfl (Does.stC rfl rfl rfl hb9 (by kernel_rfl) (Nat.le_of_ble_eq_true rfl) rfl) ?_
  rintro _ w6_4 ⟨hbn, hF6_4⟩
  replace hE := Ext.over hE hF6_4 hg9
  replace hb9 := hbn
  clear hbn
  (try simp only [List.setIfInBounds_toArray, List.set_cons_zero, List.set_cons_succ, Nat.reduceAdd, Nat.zero_add] at hb9)
  have hO4 : OB w6_4 w61.heap.size 5 S3 m3 k3 l3 := own_fr hO3 hF6_4 (fun q hq => by omega)
  have hL3 := hO4.bv (P := fun _ => True) fun _ _ => trivial
  refine Wl.nil ?_
  refine Wx.thenN (hK7 _ _ ?_)
  refine Wc.seq (fun K8 hK8 => ?_)
  refine Wc.seq (fun K9 hK9 => ?_)
  refine Wc.keep [(2, _), (3, _), (9, _)] (.cons rfl (.cons rfl (.cons rfl (.nil)))) ?_
  refine Wc.region ?_
  refine Wl.val rfl rfl rfl (Gives.ldW rfl (by kernel_rfl) rfl hb9 (by kernel_rfl)) ?_
  refine Wl.call rfl rfl rfl rfl Tryd.func16 rfl (by kernel_rfl) rfl (linesP _ 0 0 [] S3 m3 k3 l3 hL3) ?_
  rintro x6 w71 ⟨S4, m4, k4, rfl, hL4, hx71⟩
  refine ⟨_, rfl, ?_⟩
  have hm4 := hL4.len
  have hln : (linesS l3).length ≠ 0 := fun h => hls (List.eq_nil_of_length_eq_zero h)
  replace hO4 := hO4.ext hx71
  replace hb9 := hb9.ext hx71
  replace hE := hE.trans hx71
  refine Wl.val rfl rfl rfl (Gives.lenS rfl Tryd.underlying28 rfl) ?_
  refine Wl.val rfl rfl rfl (Gives.eql rfl rfl rfl) ?_
  refine Wl.nil ?_
  refine Wx.thenN (hK9 _ _ ?_)
  refine Wc.condF rfl (by rw [← hm4]; exact decide_eq_false (by omega)) ?_
  refine Wc.skip ?_
  refine Wx.thenN (hK8 _ _ ?_)
  refine Wc.seq (fun K10 hK10 => ?_)
  refine Wc.keep [(2, _), (3, _), (9, _)] (.cons rfl (.cons rfl (.cons rfl (.nil)))) ?_
  have hp0 := Int.emod_nonneg pos (show ((m3 : Nat) : Int) ≠ 0 by omega)
  have hp1 := Int.emod_lt_of_pos pos (show (0 : Int) < ((m3 : Nat) : Int) by omega)
  obtain ⟨j, hj⟩ := Int.eq_ofNat_of_zero_le hp0
  obtain ⟨gS, rfl, hgS⟩ := hO4.head (by omega)
  have hgSw : w.heap.size ≤ gS := by omega
  have hn9S : b9 ≠ gS := by omega
  refine Wc.regionD (fun _ => true) Eq (.read 0 (.read 1 (.read 2 (.read 3 (.read 4 (.read 5 (.read 6 (.read 7 .tail)))))))) 8 (by kernel_rfl) (by kernel_rfl) (by kernel_rfl) (fun _ => rfl) (fun _ _ _ h k => h.trans k) Quiet ⟨1, rfl⟩ ?_
  intro w9 hR9
  replace hb9 := hb9.ext hR9.ext
  replace hE := hE.trans hR9.ext
  refine RunE.readE rfl rfl rfl rfl (Gives.fieldAt 3 rfl Tryd.underlying26 rfl (by kernel_rfl) rfl rfl) ?_
  refine RunE.readE rfl rfl rfl rfl (Gives.ldK rfl (by kernel_rfl) rfl hb9 rfl) ?_
  refine RunE.readE rfl rfl rfl rfl (Gives.move rfl rfl) ?_
  refine RunE.readE rfl rfl rfl rfl (Gives.fieldAt 3 rfl Tryd.underlying26 rfl (by kernel_rfl) rfl rfl) ?_
  refine RunE.readE rfl rfl rfl rfl (Gives.ldK rfl (by kernel_rfl) rfl hb9 rfl) ?_
  refine RunE.readE rfl rfl rfl rfl (Gives.lenS rfl Tryd.underlying22 rfl) ?_
  refine RunE.readE rfl rfl rfl rfl (Gives.call rfl Tryd.func20 rfl (by kernel_rfl) rfl (mod_calls _ pos ((m3 : Nat) : Int) (by omega) (by omega))) ?_
  refine RunE.readE rfl rfl rfl rfl (Gives.move rfl rfl) ?_
  refine RunE.tail rfl ?_
  refine Wl.val rfl rfl rfl (Gives.ixS (i := j) rfl Tryd.underlying22 (by kernel_rfl) rfl rfl (by omega) (by omega)) ?_
  refine Wl.acts rfl rfl (Does.stO (i := j) by' rfl rfl rfl rfl (hO4.ext hR9.ext) (by kernel_rfl) (by omega)) ?_
  rintro _ w99 ⟨hO5, hF99⟩
  have hB5 := hO5.bv (P := fun _ => True) fun _ _ => trivial
  replace hb9 := hb9.fr hF99 (by first | assumption | exact Ne.symm (by assumption))
  replace hE := Ext.over hE hF99 hgSw
  refine Wl.nil ?_
  refine Wx.thenN (hK10 _ _ ?_)
  refine Wc.seq (fun K11 hK11 => ?_)
  refine Wc.keep [(9, _)] (.cons rfl (.nil)) ?_
  refine Wc.regionB (fun q => [0, 1, 2].contains q) [] (.read 0 (.read 2 (.call false 1 .tail .none))) 3 (by kernel_rfl) (by kernel_rfl) (by kernel_rfl) ?_
  intro w10 hR10
  replace hb9 := hb9.ext hR10.ext
  replace hE := hE.trans hR10.ext
  have hO10_9 : Old w10.heap.size [] b9 := ⟨hb9.lt, trivial⟩
  have hX := Ext.refl w10
  replace hB5 := hB5.ext hR10.ext
  refine RunE.readM rfl rfl rfl rfl rfl (fun wS hS => (Gives.ldW rfl (by kernel_rfl) rfl ((hb9.ext hX).fr hS hO10_9) (by kernel_rfl))) ?_
  refine RunE.readM rfl rfl rfl rfl rfl (fun wS hS => (Gives.ldW rfl (by kernel_rfl) rfl ((hb9.ext hX).fr hS hO10_9) (by kernel_rfl))) ?_
  refine RunE.turnC rfl rfl rfl rfl rfl Tryd.func16 rfl (by kernel_rfl) rfl (linesP _ 0 0 [] _ m3 k3 _ (hB5.ext hX)) ?_ RunE.none
  rintro x7 w101 ⟨S5, m5, k5, rfl, hL5, hx101⟩
  refine ⟨_, rfl, ?_⟩
  have hB5a := hB5.ext (hX.trans hx101)
  refine ⟨hx101.fr, ?_⟩
  replace hX := hX.trans hx101
  refine RunE.tail rfl ?_
  replace hb9 := hb9.ext hX
  replace hE := hE.trans hX
  refine Wl.call rfl rfl rfl rfl Tryd.func17 rfl (by kernel_rfl) rfl (linesR _ 0 0 [] _ m3 k3 _ hB5a (by omega)) ?_
  rintro x8 w103 ⟨S6, m6, k6, rfl, hL6, hx103⟩
  refine ⟨_, rfl, ?_⟩
  replace hL5 := hL5.ext hx103
  replace hb9 := hb9.ext hx103
  replace hE := hE.trans hx103
  refine Wl.call rfl rfl rfl rfl Tryd.func15 rfl (by kernel_rfl) rfl (lists_calls _ _ _ _ _ _ _ _ _ hL5 hL6) ?_
  rintro x9 w104 ⟨rfl, hq104⟩
  refine ⟨_, rfl, ?_⟩
  have hx104 := hq104.ext
  replace hb9 := hb9.ext hx104
  replace hE := hE.trans hx104
  refine Wl.val rfl rfl rfl (Gives.assign rfl rfl) ?_
  refine Wl.nil ?_
  refine Wx.thenN (hK11 _ _ ?_)
  refine Wc.ret ?_
  refine Wx.ret [_] ⟨rfl, trivial⟩ ?_
  first | exact ⟨rfl, hE⟩ | exact ⟨ret_bool (by simp), hE⟩
end Go.Proofs.YteppchoeiflnhaaDoor
