/- LogHeader: the walk. -/
import Derived.Test.YtnbgieccindpnaaDoorLogM
namespace Go.Proofs.YtnbgieccindpnaaDoor
set_option linter.all false
set_option maxRecDepth 20000
open Go.RowKit
theorem parH {a n : Int} (h : rngH a n) : parS (hdS a n) = (⟨a, n, []⟩, 0) := by
  have hp := par_fmt (L := ⟨a, n, []⟩) ⟨h, by simp, by simp⟩ (by unfold lgB evT; simp; have := hdS_le a n; omega)
  unfold lgB evT at hp
  simpa using hp
theorem parNil : parS [] = (⟨0, 0, []⟩, 5) := by
  have hno : ¬ hOk [] := fun h => by have := (head_drop h).2; simp at this
  have hs := scan_n hno
  rw [par_e (by simp) (by rw [hs]; decide), hs]
set_option maxRecDepth 20000 in
set_option maxHeartbeats 2000000 in
theorem logHeader_walk (w : World) (hT : Tab w) (a n : Int) (raw : Bool) :
    Calls Tryd.prog 5 #[.int .i64 a, .int .i64 n, .bool raw] w fun e w' => e = .returned (.bool true) ∧ Ext w w' := by
  refine calls_enter Tryd.func5 rfl Tryd.ntmps5 rfl ?_
  have hE : Ext w w := Ext.refl w
  refine Wc.seq (fun K1 hK1 => ?_)
  refine Wc.keep [(0, _), (1, _), (2, _)] (.cons rfl (.cons rfl (.cons rfl (.nil)))) ?_
  refine Wc.region ?_
  refine Wl.val rfl rfl rfl (Gives.assign rfl rfl) ?_
  refine Wl.nil ?_
  refine Wx.thenN (hK1 _ _ ?_)
  refine Wc.seq (fun K2 hK2 => ?_)
  refine Wc.seq (fun K3 hK3 => ?_)
  refine Wc.keep [(0, _), (1, _), (2, _)] (.cons rfl (.cons rfl (.cons rfl (.nil)))) ?_
  refine Wc.region ?_
  refine Wl.call rfl rfl rfl rfl Tryd.func10 rfl (by kernel_rfl) rfl (awakeL _ (hT.ext hE)) ?_
  rintro x0 w0 ⟨rfl, hx0⟩
  refine ⟨_, rfl, ?_⟩
  replace hE := hE.trans hx0
  refine Wl.val rfl rfl rfl (Gives.not rfl rfl) ?_
  refine Wl.nil ?_
  refine Wx.thenN (hK3 _ _ ?_)
  refine Wc.condF rfl rfl ?_
  refine Wc.skip ?_
  refine Wx.thenN (hK2 _ _ ?_)
  refine Wc.joinC (ι := Int × Int) [] (fun | (a, n) => [(0, .int .i64 a), (1, .int .i64 n)]) (fun _ wr => Ext w wr) ?_ ?_ (.nil)
  · intro K4 hJ4
    refine Wc.seq (fun K5 hK5 => ?_)
    refine Wc.keep [(0, _), (1, _), (2, _)] (.cons rfl (.cons rfl (.cons rfl (.nil)))) ?_
    refine Wc.region ?_
    refine Wl.val rfl rfl rfl (Gives.move rfl rfl) ?_
    refine Wl.val rfl rfl rfl (Gives.not rfl rfl) ?_
    refine Wl.nil ?_
    refine Wx.thenN (hK5 _ _ ?_)
    refine Wc.cond _ rfl (fun h13 => ?_) (fun h13 => ?_)
    · (first | replace h13 := of_decide_eq_true h13 | replace h13 := nd_true h13 | skip)
      refine Wc.keep [(0, _), (1, _)] (.cons rfl (.cons rfl (.nil))) ?_
      refine Wc.region ?_
      refine Wl.val rfl rfl rfl (Gives.move rfl rfl) ?_
      refine Wl.call rfl rfl rfl rfl Tryd.func12 rfl (by kernel_rfl) rfl (mod_calls _ a 6 (by omega) (by omega)) ?_
      rintro x1 w41 ⟨rfl, rfl⟩
      refine ⟨_, rfl, ?_⟩
      have ha0 := Int.emod_nonneg a (show (6 : Int) ≠ 0 by decide)
      have ha1 := Int.emod_lt_of_pos a (show (0 : Int) < 6 by decide)
      refine Wl.val rfl rfl rfl (Gives.sub rfl rfl rfl (by first | exact IntWalk.i64_in _ (by omega) | exact u64_in _ (by omega) | exact u32_in _ (by omega) | exact u8_in _ (by omega) | exact rfl)) ?_
      refine Wl.val rfl rfl rfl (Gives.move rfl rfl) ?_
      refine Wl.call rfl rfl rfl rfl Tryd.func12 rfl (by kernel_rfl) rfl (mod_calls _ n 1099511627778 (by omega) (by omega)) ?_
      rintro x2 w44 ⟨rfl, rfl⟩
      refine ⟨_, rfl, ?_⟩
      refine Wl.val rfl rfl rfl (Gives.assign rfl rfl) ?_
      refine Wl.val rfl rfl rfl (Gives.assign rfl rfl) ?_
      refine Wl.nil ?_
      refine Wx.thenN ?_
      exact hJ4 (_, _) _ _ (.cons (by first | exact rfl | exact look_int rfl (by omega) | exact look_slice rfl (by omega)) (.cons (by first | exact rfl | exact look_int rfl (by omega) | exact look_slice rfl (by omega)) (.nil))) hE
    · (first | replace h13 := of_decide_eq_false h13 | replace h13 := nd_false h13 | skip)
      refine Wc.skip ?_
      refine Wx.thenN ?_
      exact hJ4 (_, _) _ _ (.cons (by first | exact rfl | exact look_int rfl (by omega) | exact look_slice rfl (by omega)) (.cons (by first | exact rfl | exact look_int rfl (by omega) | exact look_slice rfl (by omega)) (.nil))) hE
  intro ⟨a, n⟩ wj hJ
  clear hE
  have hE := hJ
  refine Wc.seq (fun K6 hK6 => ?_)
  refine Wc.keep [(0, _), (1, _)] (.cons rfl (.cons rfl (.nil))) ?_
  refine Wc.region ?_
  refine Wl.val rfl rfl rfl (Gives.move rfl rfl) ?_
  refine Wl.val rfl rfl rfl (Gives.move rfl rfl) ?_
  refine Wl.call rfl rfl rfl rfl Tryd.func14 rfl (by kernel_rfl) rfl (headP _ a n) ?_
  rintro x3 w52 ⟨S1, m1, k1, rfl, hO1, hx52⟩
  refine ⟨_, rfl, ?_⟩
  have hm1 := hO1.len
  have hB1 := hO1.bv (P := fun _ => True) fun _ _ => trivial
  replace hE := hE.trans hx52
  refine Wl.val rfl rfl rfl (Gives.assign rfl rfl) ?_
  refine Wl.nil ?_
  refine Wx.thenN (hK6 _ _ ?_)
  refine Wc.seq (fun K7 hK7 => ?_)
  refine Wc.seq (fun K8 hK8 => ?_)
  refine Wc.keep [(0, _), (1, _), (7, _)] (.cons rfl (.cons rfl (.cons rfl (.nil)))) ?_
  refine Wc.region ?_
  refine Wl.val rfl rfl rfl (Gives.move rfl rfl) ?_
  refine Wl.val rfl rfl rfl (Gives.move rfl rfl) ?_
  refine Wl.val rfl rfl rfl (Gives.move rfl rfl) ?_
  refine Wl.call rfl rfl rfl rfl Tryd.func24 rfl (by kernel_rfl) rfl (headR _ a n) ?_
  rintro x4 w63 ⟨S2, m2, k2, rfl, hO2, hx63⟩
  refine ⟨_, rfl, ?_⟩
  replace hB1 := hB1.ext hx63
  replace hE := hE.trans hx63
  refine Wl.call rfl rfl rfl rfl Tryd.func18 rfl (by kernel_rfl) rfl (same_calls _ _ _ _ _ _ _ _ _ hB1 (hO2.bv (P := fun _ => True) fun _ _ => trivial)) ?_
  rintro x5 w64 ⟨rfl, hq64⟩
  refine ⟨_, rfl, ?_⟩
  replace hB1 := hB1.ext hq64.ext
  replace hE := hE.trans hq64.ext
  refine Wl.val rfl rfl rfl (Gives.not rfl rfl) ?_
  refine Wl.nil ?_
  refine Wx.thenN (hK8 _ _ ?_)
  refine Wc.condF rfl (by simp) ?_
  refine Wc.skip ?_
  refine Wx.thenN (hK7 _ _ ?_)
  refine Wc.seq (fun K9 hK9 => ?_)
  refine Wc.keep [(0, _), (1, _), (7, _)] (.cons rfl (.cons rfl (.cons rfl (.nil)))) ?_
  refine Wc.region ?_
  refine Wl.val rfl rfl rfl (Gives.move rfl rfl) ?_
  refine Wl.call rfl rfl rfl rfl Tryd.func22 rfl (by kernel_rfl) rfl (parseLP _ S1 m1 k1 _ hB1) ?_
  rintro x6 w81 ⟨S3, m3, k3, rfl, hS3, hx81⟩
  refine ⟨_, rfl, ?_⟩
  have hm3 := hS3.len
  replace hE := hE.trans hx81
  refine Wl.val rfl rfl rfl (Gives.move rfl rfl) ?_
  refine Wl.val rfl rfl rfl (Gives.extract rfl rfl rfl) ?_
  refine Wl.val rfl rfl rfl (Gives.extract rfl rfl rfl) ?_
  refine Wl.does rfl rfl rfl (Does.alB (.agg #[(.int .i64 0), (.int .i64 0), (.slice none 0 0)]) rfl (by kernel_rfl) rfl) ?_
  rintro _ w8_5 ⟨b8, rfl, hs8, hb8, hx8_5⟩
  have hg8 : w.heap.size ≤ b8 := Nat.le_trans hE.size hs8
  replace hE := hE.trans hx8_5
  refine Wl.acts rfl rfl (Does.stL 3 rfl rfl rfl hb8 (by kernel_rfl) rfl rfl rfl) ?_
  rintro _ w8_6 ⟨hbn, hF8_6⟩
  replace hE := Ext.over hE hF8_6 hg8
  replace hb8 := hbn
  clear hbn
  refine Wl.val rfl rfl rfl (Gives.assign rfl rfl) ?_
  refine Wl.nil ?_
  refine Wx.thenN (hK9 _ _ ?_)
  refine Wc.seq (fun K10 hK10 => ?_)
  refine Wc.seq (fun K11 hK11 => ?_)
  refine Wc.keep [(0, _), (1, _), (7, _), (8, _), (9, _)] (.cons rfl (.cons rfl (.cons rfl (.cons rfl (.cons rfl (.nil)))))) ?_
  refine Wc.region ?_
  refine Wl.val rfl rfl rfl (Gives.move rfl rfl) ?_
  refine Wl.val rfl rfl rfl (Gives.lenS rfl Tryd.underlying22 rfl) ?_
  refine Wl.val rfl rfl rfl (Gives.eql rfl rfl rfl) ?_
  refine Wl.nil ?_
  refine Wx.thenN (hK11 _ _ ?_)
  refine Wc.cond _ rfl (fun h35 => ?_) (fun h35 => ?_)
  · (first | replace h35 := of_decide_eq_true h35 | replace h35 := nd_true h35 | skip)
    refine Wc.seq (fun K12 hK12 => ?_)
    refine Wc.keep [(9, _)] (.cons rfl (.nil)) ?_
    refine Wc.region ?_
    refine Wl.val rfl rfl rfl (Gives.move rfl rfl) ?_
    refine Wl.val rfl rfl rfl (Gives.eql rfl rfl rfl) ?_
    refine Wl.val rfl rfl rfl (Gives.assign rfl rfl) ?_
    refine Wl.nil ?_
    refine Wx.thenN (hK12 _ _ ?_)
    refine Wc.ret ?_
    refine Wx.thenR ?_
    refine Wx.ret [_] ⟨rfl, trivial⟩ ?_
    have hr : ¬ rngH a n := fun h => by rw [hdS_len h] at hm1; omega
    exact ⟨ret_bool (by rw [hdS_n hr, parNil]; rfl), hE⟩
  · (first | replace h35 := of_decide_eq_false h35 | replace h35 := nd_false h35 | skip)
    refine Wc.skip ?_
    refine Wx.thenN (hK10 _ _ ?_)
    refine Wc.seq (fun K13 hK13 => ?_)
    refine Wc.keep [(0, _), (1, _), (8, _), (9, _)] (.cons rfl (.cons rfl (.cons rfl (.cons rfl (.nil))))) ?_
    have hr : rngH a n := hdS_pos (by omega)
    have hpr := parH hr
    rw [hpr] at hm3
    have hm30 : m3 = 0 := by simpa using hm3.symm
    refine Wc.region ?_
    refine Wl.val rfl rfl rfl (Gives.move rfl rfl) ?_
    refine Wl.val rfl rfl rfl (Gives.eql rfl rfl rfl) ?_
    refine Wl.val rfl rfl rfl (Gives.move rfl rfl) ?_
    refine Wl.guardT rfl rfl rfl (by rw [parH (hdS_pos (by omega))]; rfl) ?_
    refine Wl.val rfl rfl rfl (Gives.fieldAt 0 rfl Tryd.underlying30 rfl (by kernel_rfl) rfl rfl) ?_
    refine Wl.val rfl rfl rfl (Gives.ldK rfl (by kernel_rfl) rfl hb8 rfl) ?_
    refine Wl.val rfl rfl rfl (Gives.move rfl rfl) ?_
    refine Wl.val rfl rfl rfl (Gives.eql rfl rfl rfl) ?_
    refine Wl.val rfl rfl rfl (Gives.pickT rfl rfl rfl rfl) ?_
    refine Wl.val rfl rfl rfl (Gives.move rfl rfl) ?_
    refine Wl.guardT rfl rfl rfl (by rw [parH (hdS_pos (by omega))]; simp) ?_
    refine Wl.val rfl rfl rfl (Gives.fieldAt 1 rfl Tryd.underlying30 rfl (by kernel_rfl) rfl rfl) ?_
    refine Wl.val rfl rfl rfl (Gives.ldK rfl (by kernel_rfl) rfl hb8 rfl) ?_
    refine Wl.val rfl rfl rfl (Gives.move rfl rfl) ?_
    refine Wl.val rfl rfl rfl (Gives.eql rfl rfl rfl) ?_
    refine Wl.val rfl rfl rfl (Gives.pickT rfl rfl rfl rfl) ?_
    refine Wl.val rfl rfl rfl (Gives.move rfl rfl) ?_
    refine Wl.guardT rfl rfl rfl (by rw [parH (hdS_pos (by omega))]; simp) ?_
    refine Wl.val rfl rfl rfl (Gives.fieldAt 2 rfl Tryd.underlying30 rfl (by kernel_rfl) rfl rfl) ?_
    refine Wl.val rfl rfl rfl (Gives.ldK rfl (by kernel_rfl) rfl hb8 rfl) ?_
    refine Wl.val rfl rfl rfl (Gives.lenS rfl Tryd.underlying28 rfl) ?_
    refine Wl.val rfl rfl rfl (Gives.eql rfl rfl rfl) ?_
    refine Wl.val rfl rfl rfl (Gives.pickT rfl rfl rfl rfl) ?_
    refine Wl.val rfl rfl rfl (Gives.assign rfl rfl) ?_
    refine Wl.nil ?_
    refine Wx.thenN (hK13 _ _ ?_)
    refine Wc.ret ?_
    refine Wx.ret [_] ⟨rfl, trivial⟩ ?_
    exact ⟨ret_bool (decide_eq_true (by omega)), hE⟩
end Go.Proofs.YtnbgieccindpnaaDoor
