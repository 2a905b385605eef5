/- ImageDecode: the walk. -/
import Derived.Test.YteppchoeiflnhaaDoorImgR
namespace Go.Proofs.YteppchoeiflnhaaDoor
set_option linter.all false
set_option maxRecDepth 20000
open Go.RowKit
theorem enc_decI {l : List UInt8} (h : decE l = 0) : imgB (decI l) = l ∧ imgE (decI l) = 0 := by
  unfold decE at h
  split at h
  · rename_i hk
    unfold decI
    rw [if_pos hk]
    refine ⟨enc_dec hk, ?_⟩
    unfold decOk at hk
    simp only [Bool.and_eq_true, decide_eq_true_eq] at hk
    exact hk.2
  · cases h
theorem decI_le (l : List UInt8) : (decI l).pay.length ≤ l.length := by
  unfold decI
  split
  · exact id4_le l
  · exact Nat.zero_le _
set_option maxRecDepth 20000 in
set_option maxHeartbeats 4000000 in
theorem imageDecode_walk {P P' : Nat → Prop} (w : World) (hTM : Tab w ∧ TabM w) (A : Option Addr) (n c : Nat) (raw : List UInt8) (hp : BV w P A n c raw) (C : Option Addr) (cn cc : Nat) (codes : List UInt8) (hc : BV w P' C cn cc codes) (role pos : Int) (by' : UInt8) (cut : Int) :
    Calls Tryd.prog 6 #[.slice A n c, .slice C cn cc, .int .i64 role, .int .i64 pos, .int .u8 (by'.toNat : Int), .int .i64 cut] w fun e w' => e = .returned (.bool true) ∧ Ext w w' := by
  obtain ⟨hT, hM⟩ := hTM
  have hle := hp.le
  have hq := hp.cutS 300
  have hm4 := Int.emod_nonneg role (show (4 : Int) ≠ 0 by decide)
  have hm4' := Int.emod_lt_of_pos role (show (0 : Int) < 4 by decide)
  refine calls_enter Tryd.func6 rfl Tryd.ntmps6 rfl ?_
  have hE : Ext w w := Ext.refl w
  refine Wc.seq (fun K1 hK1 => ?_)
  refine Wc.keep [(0, _), (1, _), (2, _), (3, _), (4, _), (5, _)] (.cons rfl (.cons rfl (.cons rfl (.cons rfl (.cons rfl (.cons rfl (.nil))))))) ?_
  refine Wc.region ?_
  refine Wl.val rfl rfl rfl (Gives.assign rfl rfl) ?_
  refine Wl.nil ?_
  refine Wx.thenN (hK1 _ _ ?_)
  refine Wc.seq (fun K2 hK2 => ?_)
  refine Wc.seq (fun K3 hK3 => ?_)
  refine Wc.keep [(0, _), (1, _), (2, _), (3, _), (4, _), (5, _)] (.cons rfl (.cons rfl (.cons rfl (.cons rfl (.cons rfl (.cons rfl (.nil))))))) ?_
  refine Wc.region ?_
  refine Wl.call rfl rfl rfl rfl Tryd.func13 rfl (by kernel_rfl) rfl (awakeI _ (hT.ext hE) (hM.ext hE)) ?_
  rintro x0 w0 ⟨rfl, hx0⟩
  refine ⟨_, rfl, ?_⟩
  replace hE := hE.trans hx0
  refine Wl.val rfl rfl rfl (Gives.not rfl rfl) ?_
  refine Wl.nil ?_
  refine Wx.thenN (hK3 _ _ ?_)
  refine Wc.condF rfl rfl ?_
  refine Wc.skip ?_
  refine Wx.thenN (hK2 _ _ ?_)
  refine Wc.seq (fun K4 hK4 => ?_)
  refine Wc.keep [(0, _), (1, _), (2, _), (3, _), (4, _), (5, _)] (.cons rfl (.cons rfl (.cons rfl (.cons rfl (.cons rfl (.cons rfl (.nil))))))) ?_
  refine Wc.region ?_
  refine Wl.val rfl rfl rfl (Gives.move rfl rfl) ?_
  refine Wl.call rfl rfl rfl rfl Tryd.func18 rfl (by kernel_rfl) rfl (newD _ C cn cc codes (hc.ext hE) 40) ?_
  rintro x2 w41 ⟨gC, rfl, hgC, hC, hx41⟩
  refine ⟨_, rfl, ?_⟩
  have hgw : w.heap.size ≤ gC := Nat.le_trans hE.size hgC
  replace hE := hE.trans hx41
  refine Wl.val rfl rfl rfl (Gives.move rfl rfl) ?_
  refine Wl.call rfl rfl rfl rfl Tryd.func20 rfl (by kernel_rfl) rfl (mod_calls _ role 4 (by omega) (by omega)) ?_
  rintro x3 w43 ⟨rfl, rfl⟩
  refine ⟨_, rfl, ?_⟩
  refine Wl.val rfl rfl rfl (Gives.add rfl rfl rfl (by first | exact IntWalk.i64_in _ (by omega) | exact u64_in _ (by omega) | exact u32_in _ (by omega) | exact u8_in _ (by omega) | exact rfl)) ?_
  refine Wl.call rfl rfl rfl rfl Tryd.func22 rfl (by kernel_rfl) rfl (imageD _ gC _ hC (Nat.le_refl _) (1 + role % 4) (by omega)) ?_
  rintro x4 w45 ⟨x, S1, m1, k1, rfl, hO1, hxe, hrole, hC2, hF45⟩
  refine ⟨_, rfl, ?_⟩
  have hm1 := hO1.len
  have hx64 := (img_ok hxe).2.2.1
  replace hE := Ext.over hE hF45 hgw
  refine Wl.call rfl rfl rfl rfl Tryd.func28 rfl (by kernel_rfl) rfl (encR _ x.role x.ver x.name S1 m1 k1 x.pay (hO1.bv (P := fun _ => True) fun _ _ => trivial) (by omega)) ?_
  rintro x5 w36 ⟨S2, m2, k2, rfl, hO2, hx36⟩
  refine ⟨_, rfl, ?_⟩
  have hO2' : OB w36 w45.heap.size 5 S2 m2 k2 (imgB x) := hO2
  have hm2 := hO2'.len
  rw [imgB_len hxe] at hm2
  have hzE := hE.size
  replace hE := hE.trans hx36
  refine Wl.val rfl rfl rfl (Gives.assign rfl rfl) ?_
  refine Wl.nil ?_
  refine Wx.thenN (hK4 _ _ ?_)
  refine Wc.seq (fun K5 hK5 => ?_)
  refine Wc.keep [(0, _), (3, _), (4, _), (5, _), (13, _)] (.cons rfl (.cons rfl (.cons rfl (.cons rfl (.cons rfl (.nil)))))) ?_
  have hp0 := Int.emod_nonneg pos (show ((m2 : Nat) : Int) ≠ 0 by omega)
  have hp1 := Int.emod_lt_of_pos pos (show (0 : Int) < ((m2 : Nat) : Int) by omega)
  have hx12 := (name_max (img_ok hxe).2.1).2
  obtain ⟨j, hj⟩ := Int.eq_ofNat_of_zero_le hp0
  obtain ⟨gS, rfl, hgS⟩ := hO2'.head (by omega)
  have hgSw : w.heap.size ≤ gS := by omega
  refine Wc.region ?_
  refine Wl.val rfl rfl rfl (Gives.move rfl rfl) ?_
  refine Wl.val rfl rfl rfl (Gives.move rfl rfl) ?_
  refine Wl.val rfl rfl rfl (Gives.move rfl rfl) ?_
  refine Wl.val rfl rfl rfl (Gives.lenS rfl Tryd.underlying22 rfl) ?_
  refine Wl.call rfl rfl rfl rfl Tryd.func20 rfl (by kernel_rfl) rfl (mod_calls _ pos ((m2 : Nat) : Int) (by omega) (by omega)) ?_
  rintro x6 w44 ⟨rfl, rfl⟩
  refine ⟨_, rfl, ?_⟩
  refine Wl.val rfl rfl rfl (Gives.move rfl rfl) ?_
  refine Wl.val rfl rfl rfl (Gives.ixS (i := j) rfl Tryd.underlying22 (by kernel_rfl) rfl rfl (by omega) (by omega)) ?_
  refine Wl.acts rfl rfl (Does.stO (i := j) by' rfl rfl rfl rfl hO2' (by kernel_rfl) (by omega)) ?_
  rintro _ w47 ⟨hO3, hF47⟩
  have hBb := hO3.bv (P := fun _ => True) fun _ _ => trivial
  replace hE := Ext.over hE hF47 hgSw
  refine Wl.nil ?_
  refine Wx.thenN (hK5 _ _ ?_)
  refine Wc.joinC (ι := Nat × List UInt8) [(0, _)] (fun | (q, _) => [(13, .slice (some ⟨gS, 0, none⟩) q k2)]) (fun | (q, l), wr => q ≤ 300 ∧ BV wr (fun _ => True) (some ⟨gS, 0, none⟩) q k2 l ∧ Ext w wr) ?_ ?_ (.cons rfl (.nil))
  · intro K6 hJ6
    refine Wc.seq (fun K7 hK7 => ?_)
    refine Wc.keep [(0, _), (5, _), (13, _)] (.cons rfl (.cons rfl (.cons rfl (.nil)))) ?_
    refine Wc.region ?_
    refine Wl.val rfl rfl rfl (Gives.move rfl rfl) ?_
    refine Wl.val rfl rfl rfl (Gives.bits .and (by simp) rfl rfl rfl rfl) ?_
    refine Wl.val rfl rfl rfl (Gives.eql rfl rfl rfl) ?_
    refine Wl.nil ?_
    refine Wx.thenN (hK7 _ _ ?_)
    refine Wc.cond _ rfl (fun h38 => ?_) (fun h38 => ?_)
    · (first | replace h38 := of_decide_eq_true h38 | replace h38 := nd_true h38 | skip)
      refine Wc.keep [(0, _), (5, _), (13, _)] (.cons rfl (.cons rfl (.cons rfl (.nil)))) ?_
      have hs0 := Int.emod_nonneg (cut / 2 ^ 1) (show ((m2 : Nat) : Int) + 1 ≠ 0 by omega)
      have hs1 := Int.emod_lt_of_pos (cut / 2 ^ 1) (show (0 : Int) < ((m2 : Nat) : Int) + 1 by omega)
      obtain ⟨j2, hj2⟩ := Int.eq_ofNat_of_zero_le hs0
      refine Wc.region ?_
      refine Wl.val rfl rfl rfl (Gives.move rfl rfl) ?_
      refine Wl.val rfl rfl rfl (Gives.move rfl rfl) ?_
      refine Wl.val rfl rfl rfl (Gives.shrN 1 rfl rfl rfl rfl rfl) ?_
      refine Wl.val rfl rfl rfl (Gives.move rfl rfl) ?_
      refine Wl.val rfl rfl rfl (Gives.lenS rfl Tryd.underlying22 rfl) ?_
      refine Wl.val rfl rfl rfl (Gives.add rfl rfl rfl (by first | exact IntWalk.i64_in _ (by omega) | exact u64_in _ (by omega) | exact u32_in _ (by omega) | exact u8_in _ (by omega) | exact rfl)) ?_
      refine Wl.call rfl rfl rfl rfl Tryd.func20 rfl (by kernel_rfl) rfl (mod_calls _ (cut / 2 ^ 1) (((m2 : Nat) : Int) + 1) (by omega) (by omega)) ?_
      rintro x7 w66 ⟨rfl, rfl⟩
      refine ⟨_, rfl, ?_⟩
      refine Wl.val rfl rfl rfl (Gives.cutHi rfl Tryd.underlying22 (by kernel_rfl) rfl j2 rfl hj2 (by have := hO3.le; omega)) ?_
      refine Wl.val rfl rfl rfl (Gives.assign rfl rfl) ?_
      refine Wl.nil ?_
      refine Wx.thenN ?_
      exact hJ6 (j2, _) _ _ (.cons (by first | exact rfl | exact look_int rfl (by omega) | exact look_slice rfl (by omega)) (.cons rfl (.nil))) ⟨by omega, hBb.take (by omega), hE⟩
    · (first | replace h38 := of_decide_eq_false h38 | replace h38 := nd_false h38 | skip)
      refine Wc.skip ?_
      refine Wx.thenN ?_
      exact hJ6 (m2, _) _ _ (.cons (by first | exact rfl | exact look_int rfl (by omega) | exact look_slice rfl (by omega)) (.cons rfl (.nil))) ⟨by omega, hBb, hE⟩
  intro ⟨q, l⟩ wj hJ
  clear hE hBb
  obtain ⟨hq300, hBl, hE⟩ := hJ
  refine Wc.seq (fun K8 hK8 => ?_)
  refine Wc.seq (fun K9 hK9 => ?_)
  refine Wc.keep [(0, _), (13, _)] (.cons rfl (.cons rfl (.nil))) ?_
  refine Wc.region ?_
  refine Wl.val rfl rfl rfl (Gives.move rfl rfl) ?_
  refine Wl.call rfl rfl rfl rfl Tryd.func14 rfl (by kernel_rfl) rfl (cutN_calls _ A n c hle 300 rfl) ?_
  rintro x8 w71 ⟨rfl, rfl⟩
  refine ⟨_, rfl, ?_⟩
  refine Wl.val rfl rfl rfl (Gives.move rfl rfl) ?_
  refine Wl.does rfl rfl rfl (Does.lit rfl Tryd.underlying28 infoL2 rfl rfl rfl rfl rfl) ?_
  rintro _ w73 ⟨g73, rfl, hs73, hk73, hx73⟩
  have hLL := bl2 (P := fun _ => True) (hk73 : Blk w73 g73 _ #[.slice A (min n 300) c, .slice (some ⟨gS, 0, none⟩) q k2]) ((hq.ext (hE.trans hx73)).mono fun _ _ => trivial) (hBl.ext hx73) trivial
  have hx300 : ∀ y ∈ [raw.take 300, l], y.length ≤ 300 := fun y hy => by
    rcases List.mem_cons.1 hy with rfl | hy
    · rw [List.length_take]; omega
    · rw [List.mem_singleton.1 hy, hBl.len]; exact hq300
  replace hE := hE.trans hx73
  refine Wl.val rfl rfl rfl (Gives.lenS rfl Tryd.underlying28 rfl) ?_
  refine Wl.val rfl rfl rfl (Gives.move rfl rfl) ?_
  refine Wl.nil ?_
  refine Wx.thenN (hK9 _ _ ?_)
  refine Wc.block ?_
  refine Wc.keep [(50, _), (51, _), (52, _)] (.cons rfl (.cons rfl (.cons rfl (.nil)))) ?_
  refine Wc.loopC (ι := Nat) [(50, _), (51, _)] (fun i => [(52, .int .i64 (i : Int))]) (fun i wr => i ≤ 2 ∧ BL wr (fun _ => True) (some ⟨g73, 0, none⟩) 2 2 [raw.take 300, l] ∧ Ext w wr) (fun i => 2 - i) (0) (.cons (by first | exact rfl | exact look_int rfl (by omega) | exact look_slice rfl (by omega)) (.cons rfl (.cons rfl (.nil)))) (⟨by omega, hLL, hE⟩) ?_
  intro i wr hJ KL1 hKL1
  clear hE hLL
  obtain ⟨hi, hLL, hE⟩ := hJ
  refine Wc.seq (fun K10 hK10 => ?_)
  refine Wc.keep [(50, _), (51, _), (52, _)] (.cons rfl (.cons rfl (.cons rfl (.nil)))) ?_
  refine Wc.region ?_
  refine Wl.val rfl rfl rfl (Gives.lss rfl rfl rfl) ?_
  refine Wl.nil ?_
  refine Wx.thenN (hK10 _ _ ?_)
  refine Wc.seq (fun K11 hK11 => ?_)
  refine Wc.cond _ rfl (fun h53 => ?_) (fun h53 => ?_)
  · (first | replace h53 := of_decide_eq_true h53 | replace h53 := nd_true h53 | skip)
    refine Wc.skip ?_
    refine Wx.thenN (hK11 _ _ ?_)
    refine Wc.seq (fun K12 hK12 => ?_)
    refine Wc.block ?_
    refine Wc.seq (fun K13 hK13 => ?_)
    refine Wc.keep [(50, _), (51, _), (52, _)] (.cons rfl (.cons rfl (.cons rfl (.nil)))) ?_
    obtain ⟨xb, xo, hA, hbw, f, fA, fn, fc, hz, hcell, hF⟩ := hLL.at'' (show i < 2 by omega)
    obtain ⟨rfl, rfl⟩ : xb = g73 ∧ xo = 0 := by simp only [Option.some.injEq, Addr.mk.injEq, and_true] at hA; exact ⟨hA.1.symm, hA.2.symm⟩
    have hfl := hF.len
    have hf3 := hx300 f (List.mem_of_getElem? hz)
    have hdl := decI_le f
    refine Wc.region ?_
    refine Wl.val rfl rfl rfl (Gives.ixS (i := _) rfl Tryd.underlying28 (by kernel_rfl) rfl rfl rfl (by omega)) ?_
    refine Wl.val rfl rfl rfl (Gives.ldC rfl (by kernel_rfl) rfl hcell) ?_
    refine Wl.val rfl rfl rfl (Gives.assign rfl rfl) ?_
    refine Wl.nil ?_
    refine Wx.thenN (hK13 _ _ ?_)
    refine Wc.seq (fun K14 hK14 => ?_)
    refine Wc.keep [(15, _), (50, _), (51, _), (52, _)] (.cons rfl (.cons rfl (.cons rfl (.cons rfl (.nil))))) ?_
    refine Wc.region ?_
    refine Wl.val rfl rfl rfl (Gives.move rfl rfl) ?_
    refine Wl.call rfl rfl rfl rfl Tryd.func26 rfl (by kernel_rfl) rfl (decP _ fA fn fc f hF (by omega)) ?_
    rintro x9 w101 ⟨S3, m3, k3, rfl, hO4, hx101⟩
    refine ⟨_, rfl, ?_⟩
    have hB3 : BV w101 (fun _ => True) S3 m3 k3 (decI f).pay := hO4.bv fun _ _ => trivial
    have hF2 := hF.ext hx101
    replace hLL := hLL.ext hx101
    replace hE := hE.trans hx101
    refine Wl.val rfl rfl rfl (Gives.move rfl rfl) ?_
    refine Wl.val rfl rfl rfl (Gives.extract rfl rfl rfl) ?_
    refine Wl.val rfl rfl rfl (Gives.extract rfl rfl rfl) ?_
    refine Wl.does rfl rfl rfl (Does.alB (.agg #[(.int .i64 0), (.string ByteArray.empty), (.int .i64 0), (.slice none 0 0)]) rfl (by kernel_rfl) rfl) ?_
    rintro _ w10_5 ⟨b16, rfl, hs16, hb16, hx10_5⟩
    have hg16 : w.heap.size ≤ b16 := Nat.le_trans hE.size hs16
    replace hE := hE.trans hx10_5
    refine Wl.acts rfl rfl (Does.stL 4 rfl rfl rfl hb16 (by kernel_rfl) rfl rfl rfl) ?_
    rintro _ w10_6 ⟨hbn, hF10_6⟩
    replace hE := Ext.over hE hF10_6 hg16
    replace hb16 := hbn
    clear hbn
    replace hB3 := (((hB3.bd.mono (P' := fun q => q ≠ b16) fun q hq => by omega).ext hx10_5).fr hF10_6).mono (P' := fun _ => True) fun _ _ => trivial
    have hF3 := (((hF2.bd.mono (P' := fun q => q ≠ b16) fun q hq => by omega).ext hx10_5).fr hF10_6).mono (P' := fun _ => True) fun _ _ => trivial
    replace hLL := (((hLL.bdP.mono (P' := fun q => q ≠ b16) fun q hq => by omega).ext hx10_5).fr hF10_6).mono (P' := fun _ => True) fun _ _ => trivial
    refine Wl.val rfl rfl rfl (Gives.assign rfl rfl) ?_
    refine Wl.nil ?_
    refine Wx.thenN (hK14 _ _ ?_)
    refine Wc.seq (fun K15 hK15 => ?_)
    refine Wc.keep [(15, _), (16, _), (17, _), (50, _), (51, _), (52, _)] (.cons rfl (.cons rfl (.cons rfl (.cons rfl (.cons rfl (.cons rfl (.nil))))))) ?_
    refine Wc.region ?_
    refine Wl.val rfl rfl rfl (Gives.move rfl rfl) ?_
    refine Wl.call rfl rfl rfl rfl Tryd.func30 rfl (by kernel_rfl) rfl (decR _ fA fn fc f hF3 (by omega)) ?_
    rintro x10 w111 ⟨S4, m4, k4, rfl, hO5, hx111⟩
    refine ⟨_, rfl, ?_⟩
    have hB4 : BV w111 (fun _ => True) S4 m4 k4 (decI f).pay := hO5.bv fun _ _ => trivial
    have hF4 := hF3.ext hx111
    replace hB3 := hB3.ext hx111
    replace hLL := hLL.ext hx111
    replace hb16 := hb16.ext hx111
    replace hE := hE.trans hx111
    refine Wl.val rfl rfl rfl (Gives.move rfl rfl) ?_
    refine Wl.val rfl rfl rfl (Gives.extract rfl rfl rfl) ?_
    refine Wl.val rfl rfl rfl (Gives.extract rfl rfl rfl) ?_
    refine Wl.does rfl rfl rfl (Does.alB (.agg #[(.int .i64 0), (.string ByteArray.empty), (.int .i64 0), (.slice none 0 0)]) rfl (by kernel_rfl) rfl) ?_
    rintro _ w11_5 ⟨b18, rfl, hs18, hb18, hx11_5⟩
    have hn16_18 : b16 ≠ b18 := hb16.ne hs18
    have hg18 : w.heap.size ≤ b18 := Nat.le_trans hE.size hs18
    replace hb16 := hb16.ext hx11_5
    replace hE := hE.trans hx11_5
    refine Wl.acts rfl rfl (Does.stL 4 rfl rfl rfl hb18 (by kernel_rfl) rfl rfl rfl) ?_
    rintro _ w11_6 ⟨hbn, hF11_6⟩
    replace hb16 := hb16.fr hF11_6 (by first | assumption | exact Ne.symm (by assumption))
    replace hE := Ext.over hE hF11_6 hg18
    replace hb18 := hbn
    clear hbn
    replace hB3 := (((hB3.bd.mono (P' := fun q => q ≠ b18) fun q hq => by omega).ext hx11_5).fr hF11_6).mono (P' := fun _ => True) fun _ _ => trivial
    replace hB4 := (((hB4.bd.mono (P' := fun q => q ≠ b18) fun q hq => by omega).ext hx11_5).fr hF11_6).mono (P' := fun _ => True) fun _ _ => trivial
    have hF5 := (((hF4.bd.mono (P' := fun q => q ≠ b18) fun q hq => by omega).ext hx11_5).fr hF11_6).mono (P' := fun _ => True) fun _ _ => trivial
    replace hLL := (((hLL.bdP.mono (P' := fun q => q ≠ b18) fun q hq => by omega).ext hx11_5).fr hF11_6).mono (P' := fun _ => True) fun _ _ => trivial
    have hm3 := hB3.len
    refine Wl.val rfl rfl rfl (Gives.assign rfl rfl) ?_
    refine Wl.nil ?_
    refine Wx.thenN (hK15 _ _ ?_)
    refine Wc.seq (fun K16 hK16 => ?_)
    refine Wc.keep [(15, _), (16, _), (17, _), (18, _), (19, _), (50, _), (51, _), (52, _)] (.cons rfl (.cons rfl (.cons rfl (.cons rfl (.cons rfl (.cons rfl (.cons rfl (.cons rfl (.nil))))))))) ?_
    refine Wc.region ?_
    refine Wl.val rfl rfl rfl (Gives.move rfl rfl) ?_
    refine Wl.val rfl rfl rfl (Gives.move rfl rfl) ?_
    refine Wl.val rfl rfl rfl (Gives.neq rfl rfl rfl) ?_
    refine Wl.val rfl rfl rfl (Gives.move rfl rfl) ?_
    refine Wl.guardT rfl rfl rfl (by simp) ?_
    refine Wl.val rfl rfl rfl (Gives.ldW rfl (by kernel_rfl) rfl hb16 (by kernel_rfl)) ?_
    refine Wl.val rfl rfl rfl (Gives.ldW rfl (by kernel_rfl) rfl hb18 (by kernel_rfl)) ?_
    refine Wl.call rfl rfl rfl rfl Tryd.func29 rfl (by kernel_rfl) rfl (sameI _ _ _ _ _ _ _ _ hB3 _ _ _ _ _ _ _ hB4) ?_
    rintro x11 w126 ⟨rfl, hx126⟩
    refine ⟨_, rfl, ?_⟩
    replace hLL := hLL.ext hx126
    replace hB3 := hB3.ext hx126
    replace hF5 := hF5.ext hx126
    replace hb16 := hb16.ext hx126
    replace hb18 := hb18.ext hx126
    replace hE := hE.trans hx126
    refine Wl.val rfl rfl rfl (Gives.not rfl rfl) ?_
    refine Wl.val rfl rfl rfl (Gives.pickF rfl rfl rfl rfl) ?_
    refine Wl.val rfl rfl rfl (Gives.move rfl rfl) ?_
    refine Wl.guardT rfl rfl rfl (by simp) ?_
    refine Wl.val rfl rfl rfl (Gives.move rfl rfl) ?_
    refine Wl.val rfl rfl rfl (Gives.eql rfl rfl rfl) ?_
    refine Wl.val rfl rfl rfl (Gives.move rfl rfl) ?_
    refine Wl.guard rfl rfl rfl (fun h78 => ?_) (fun h78 => ?_)
    · (first | replace h78 := of_decide_eq_true h78 | replace h78 := nd_true h78 | skip)
      refine Wl.val rfl rfl rfl (Gives.ldW rfl (by kernel_rfl) rfl hb16 (by kernel_rfl)) ?_
      refine Wl.call rfl rfl rfl rfl Tryd.func25 rfl (by kernel_rfl) rfl (encP _ _ _ _ _ _ _ _ hB3 (by omega)) ?_
      rintro x12 w1214 ⟨S6, m6, k6, rfl, hO6, hx1214⟩
      refine ⟨_, rfl, ?_⟩
      have hB6 : BV w1214 (fun _ => True) S6 m6 k6 (imgB (decI f)) := hO6.bv fun _ _ => trivial
      replace hLL := hLL.ext hx1214
      replace hF5 := hF5.ext hx1214
      replace hb16 := hb16.ext hx1214
      replace hb18 := hb18.ext hx1214
      replace hE := hE.trans hx1214
      refine Wl.val rfl rfl rfl (Gives.move rfl rfl) ?_
      refine Wl.call rfl rfl rfl rfl Tryd.func27 rfl (by kernel_rfl) rfl (same_calls _ _ _ _ _ _ _ _ _ hB6 hF5) ?_
      rintro x13 w1216 ⟨rfl, hq1216⟩
      refine ⟨_, rfl, ?_⟩
      replace hLL := hLL.ext hq1216.ext
      replace hb16 := hb16.ext hq1216.ext
      replace hb18 := hb18.ext hq1216.ext
      replace hE := hE.trans hq1216.ext
      refine Wl.val rfl rfl rfl (Gives.not rfl rfl) ?_
      refine Wl.val rfl rfl rfl (Gives.pickT rfl rfl rfl rfl) ?_
      refine Wl.val rfl rfl rfl (Gives.pickF rfl rfl rfl rfl) ?_
      refine Wl.nil ?_
      refine Wx.thenN (hK16 _ _ ?_)
      refine Wc.condF rfl (by first | rfl | (rw [(enc_decI h78).1]; simp)) ?_
      refine Wc.skip ?_
      refine Wx.blockN ?_
      refine Wx.thenN (hK12 _ _ ?_)
      refine Wc.keep [(50, _), (51, _), (52, _)] (.cons rfl (.cons rfl (.cons rfl (.nil)))) ?_
      refine Wc.region ?_
      refine Wl.val rfl rfl rfl (Gives.add rfl rfl rfl (by first | exact IntWalk.i64_in _ (by omega) | exact u64_in _ (by omega) | exact u32_in _ (by omega) | exact u8_in _ (by omega) | exact rfl)) ?_
      refine Wl.val rfl rfl rfl (Gives.move rfl rfl) ?_
      refine Wl.nil ?_
      refine Wx.thenN ?_
      exact hKL1 (i + 1) _ _ (.cons (by first | exact rfl | exact look_int rfl (by omega) | exact look_slice rfl (by omega)) (.cons rfl (.cons rfl (.nil)))) ⟨by omega, hLL, hE⟩ (by show 2 - (i + 1) < 2 - i; omega)
    · (first | replace h78 := of_decide_eq_false h78 | replace h78 := nd_false h78 | skip)
      refine Wl.pass rfl rfl rfl ?_
      refine Wl.pass rfl rfl rfl ?_
      refine Wl.pass rfl rfl rfl ?_
      refine Wl.pass rfl rfl rfl ?_
      refine Wl.pass rfl rfl rfl ?_
      refine Wl.val rfl rfl rfl (Gives.pickF rfl rfl rfl rfl) ?_
      refine Wl.val rfl rfl rfl (Gives.pickF rfl rfl rfl rfl) ?_
      refine Wl.nil ?_
      refine Wx.thenN (hK16 _ _ ?_)
      refine Wc.condF rfl rfl ?_
      refine Wc.skip ?_
      refine Wx.blockN ?_
      refine Wx.thenN (hK12 _ _ ?_)
      refine Wc.keep [(50, _), (51, _), (52, _)] (.cons rfl (.cons rfl (.cons rfl (.nil)))) ?_
      refine Wc.region ?_
      refine Wl.val rfl rfl rfl (Gives.add rfl rfl rfl (by first | exact IntWalk.i64_in _ (by omega) | exact u64_in _ (by omega) | exact u32_in _ (by omega) | exact u8_in _ (by omega) | exact rfl)) ?_
      refine Wl.val rfl rfl rfl (Gives.move rfl rfl) ?_
      refine Wl.nil ?_
      refine Wx.thenN ?_
      exact hKL1 (i + 1) _ _ (.cons (by first | exact rfl | exact look_int rfl (by omega) | exact look_slice rfl (by omega)) (.cons rfl (.cons rfl (.nil)))) ⟨by omega, hLL, hE⟩ (by show 2 - (i + 1) < 2 - i; omega)
  · (first | replace h53 := of_decide_eq_false h53 | replace h53 := nd_false h53 | skip)
    refine Wc.exit ?_
    refine Wx.thenE ?_
    refine Wx.thenE ?_
    refine Wx.hit ?_
    refine Wx.thenN (hK8 _ _ ?_)
    refine Wc.seq (fun K17 hK17 => ?_)
    refine Wc.keep [] (.nil) ?_
    refine Wc.region ?_
    refine Wl.val rfl rfl rfl (Gives.assign rfl rfl) ?_
    refine Wl.nil ?_
    refine Wx.thenN (hK17 _ _ ?_)
    refine Wc.ret ?_
    refine Wx.ret [_] ⟨rfl, trivial⟩ ?_
    exact ⟨rfl, hE⟩
end Go.Proofs.YteppchoeiflnhaaDoor
