/- ChainCodec: the walk. -/
import Derived.Test.YteppchoeiflnhaaDoorImgW
namespace Go.Proofs.YteppchoeiflnhaaDoor
set_option linter.all false
set_option maxRecDepth 20000
open Go.RowKit
theorem chT_le : ∀ l : List Im, (chT l).length ≤ 87 * l.length
  | [] => Nat.le_refl _
  | x :: r => by
    have h1 := chT_le r
    have h2 := imgB_le x
    rw [chT_cons, List.length_append, blobT_len, List.length_cons]
    omega
theorem chB_le (l : List Im) : (chB l).length ≤ 700 := by
  rcases Decidable.em (chainE l = 0) with h | h
  · have h1 := chT_le l
    have h2 := (chain_ok h).1
    rw [chB_eq h, List.length_append, beS_len]
    omega
  · rw [chB_no h]; exact Nat.zero_le _
theorem dc_valid {l l' : List Im} {z : Int} (hc : chainE l = 0) (h : (z = 0 ∧ chainE l' = 0 ∧ chB l' = chB l) ∨ (z = 30 ∧ l' = [] ∧ ∀ q, chainE q = 0 → chB q ≠ chB l)) : 0 = z ∧ l = l' := by
  rcases h with ⟨h1, h2, h3⟩ | ⟨_, _, h3⟩
  · exact ⟨h1.symm, (chB_inj h2 hc h3).symm⟩
  · exact absurd rfl (h3 l hc)
set_option maxRecDepth 20000 in
set_option maxHeartbeats 4000000 in
theorem chainCodec_walk {P P' : Nat → Prop} (w : World) (hTM : Tab w ∧ TabM w) (A : Option Addr) (n c : Nat) (raw : List UInt8) (hp : BV w P A n c raw) (C : Option Addr) (cn cc : Nat) (codes : List UInt8) (hc : BV w P' C cn cc codes) (pos : Int) (by' : UInt8) (cut : Int) :
    Calls Tryd.prog 12 #[.slice A n c, .slice C cn cc, .int .i64 pos, .int .u8 (by'.toNat : Int), .int .i64 cut] w fun e w' => e = .returned (.bool true) ∧ Ext w w' := by
  obtain ⟨hT, hM⟩ := hTM
  have hle := hp.le
  have hq := hp.cutS 600
  refine calls_enter Tryd.func12 rfl Tryd.ntmps12 rfl ?_
  have hE : Ext w w := Ext.refl w
  refine Wc.seq (fun K1 hK1 => ?_)
  refine Wc.keep [(0, _), (1, _), (2, _), (3, _), (4, _)] (.cons rfl (.cons rfl (.cons rfl (.cons rfl (.cons rfl (.nil)))))) ?_
  refine Wc.region ?_
  refine Wl.val rfl rfl rfl (Gives.assign rfl rfl) ?_
  refine Wl.nil ?_
  refine Wx.thenN (hK1 _ _ ?_)
  refine Wc.seq (fun K2 hK2 => ?_)
  refine Wc.seq (fun K3 hK3 => ?_)
  refine Wc.keep [(0, _), (1, _), (2, _), (3, _), (4, _)] (.cons rfl (.cons rfl (.cons rfl (.cons rfl (.cons rfl (.nil)))))) ?_
  refine Wc.region ?_
  refine Wl.call rfl rfl rfl rfl Tryd.func13 rfl (by kernel_rfl) rfl (awakeI _ (hT.ext hE) (hM.ext hE)) ?_
  rintro x0 w0 ⟨rfl, hx0⟩
  refine ⟨_, rfl, ?_⟩
  replace hE := hE.trans hx0
  refine Wl.val rfl rfl rfl (Gives.not rfl rfl) ?_
  refine Wl.nil ?_
  refine Wx.thenN (hK3 _ _ ?_)
  refine Wc.condF rfl rfl ?_
  refine Wc.skip ?_
  refine Wx.thenN (hK2 _ _ ?_)
  refine Wc.seq (fun K4 hK4 => ?_)
  refine Wc.keep [(0, _), (1, _), (2, _), (3, _), (4, _)] (.cons rfl (.cons rfl (.cons rfl (.cons rfl (.cons rfl (.nil)))))) ?_
  refine Wc.region ?_
  refine Wl.val rfl rfl rfl (Gives.move rfl rfl) ?_
  refine Wl.call rfl rfl rfl rfl Tryd.func36 rfl (by kernel_rfl) rfl (drawChain _ C cn cc codes (hc.ext hE)) ?_
  rintro x1 w31 ⟨S1, m1, k1, l0, rfl, hI, hce, hx31⟩
  refine ⟨_, rfl, ?_⟩
  have hl0 := hI.sl (P := fun _ => True) fun _ _ => trivial
  replace hE := hE.trans hx31
  refine Wl.val rfl rfl rfl (Gives.assign rfl rfl) ?_
  refine Wl.nil ?_
  refine Wx.thenN (hK4 _ _ ?_)
  refine Wc.seq (fun K5 hK5 => ?_)
  refine Wc.keep [(0, _), (2, _), (3, _), (4, _), (11, _)] (.cons rfl (.cons rfl (.cons rfl (.cons rfl (.cons rfl (.nil)))))) ?_
  refine Wc.region ?_
  refine Wl.val rfl rfl rfl (Gives.move rfl rfl) ?_
  refine Wl.call rfl rfl rfl rfl Tryd.func39 rfl (by kernel_rfl) rfl (encChainP _ S1 m1 k1 l0 hl0) ?_
  rintro x2 w41 ⟨S2, m2, k2, rfl, hO2, hx41⟩
  refine ⟨_, rfl, ?_⟩
  have hB2 := hO2.bv (P := fun _ => True) fun _ _ => trivial
  have hm2 := hB2.len
  have hm2' := chB_le l0
  have hm2p := chB_pos hce
  replace hl0 := hl0.ext hx41
  replace hE := hE.trans hx41
  refine Wl.val rfl rfl rfl (Gives.assign rfl rfl) ?_
  refine Wl.nil ?_
  refine Wx.thenN (hK5 _ _ ?_)
  refine Wc.seq (fun K6 hK6 => ?_)
  refine Wc.keep [(0, _), (2, _), (3, _), (4, _), (11, _), (12, _)] (.cons rfl (.cons rfl (.cons rfl (.cons rfl (.cons rfl (.cons rfl (.nil))))))) ?_
  refine Wc.region ?_
  refine Wl.val rfl rfl rfl (Gives.move rfl rfl) ?_
  refine Wl.call rfl rfl rfl rfl Tryd.func41 rfl (by kernel_rfl) rfl (decChainP _ S2 m2 k2 _ hB2 (by omega)) ?_
  rintro x3 w51 ⟨S3, m3, k3, l3, z3, rfl, hs3, hx51, hd3⟩
  refine ⟨_, rfl, ?_⟩
  obtain ⟨hz3, hl3⟩ := dc_valid hce hd3
  subst hz3
  subst hl3
  replace hB2 := hB2.ext hx51
  replace hl0 := hl0.ext hx51
  replace hE := hE.trans hx51
  refine Wl.val rfl rfl rfl (Gives.move rfl rfl) ?_
  refine Wl.val rfl rfl rfl (Gives.extract rfl rfl rfl) ?_
  refine Wl.val rfl rfl rfl (Gives.extract rfl rfl rfl) ?_
  refine Wl.val rfl rfl rfl (Gives.assign rfl rfl) ?_
  refine Wl.val rfl rfl rfl (Gives.assign rfl rfl) ?_
  refine Wl.nil ?_
  refine Wx.thenN (hK6 _ _ ?_)
  refine Wc.seq (fun K7 hK7 => ?_)
  refine Wc.seq (fun K8 hK8 => ?_)
  refine Wc.keep [(0, _), (2, _), (3, _), (4, _), (11, _), (12, _), (13, _), (14, _)] (.cons rfl (.cons rfl (.cons rfl (.cons rfl (.cons rfl (.cons rfl (.cons rfl (.cons rfl (.nil))))))))) ?_
  refine Wc.region ?_
  refine Wl.val rfl rfl rfl (Gives.move rfl rfl) ?_
  refine Wl.val rfl rfl rfl (Gives.move rfl rfl) ?_
  refine Wl.call rfl rfl rfl rfl Tryd.func42 rfl (by kernel_rfl) rfl (encChainR _ S1 m1 k1 l0 hl0) ?_
  rintro x4 w62 ⟨S4, m4, k4, rfl, hO4, hx62⟩
  refine ⟨_, rfl, ?_⟩
  have hB4 := hO4.bv (P := fun _ => True) fun _ _ => trivial
  replace hB2 := hB2.ext hx62
  replace hl0 := hl0.ext hx62
  replace hs3 := hs3.ext hx62
  replace hE := hE.trans hx62
  refine Wl.call rfl rfl rfl rfl Tryd.func27 rfl (by kernel_rfl) rfl (same_calls _ _ _ _ _ _ _ _ _ hB2 hB4) ?_
  rintro x5 w63 ⟨rfl, hq63⟩
  refine ⟨_, rfl, ?_⟩
  replace hB2 := hB2.ext hq63.ext
  replace hl0 := hl0.ext hq63.ext
  replace hs3 := hs3.ext hq63.ext
  replace hE := hE.trans hq63.ext
  refine Wl.val rfl rfl rfl (Gives.not rfl rfl) ?_
  refine Wl.val rfl rfl rfl (Gives.move rfl rfl) ?_
  refine Wl.guardT rfl rfl rfl (by simp) ?_
  refine Wl.val rfl rfl rfl (Gives.move rfl rfl) ?_
  refine Wl.val rfl rfl rfl (Gives.neq rfl rfl rfl) ?_
  refine Wl.val rfl rfl rfl (Gives.pickF rfl rfl rfl rfl) ?_
  refine Wl.val rfl rfl rfl (Gives.move rfl rfl) ?_
  refine Wl.guardT rfl rfl rfl (by first | rfl | simp) ?_
  refine Wl.val rfl rfl rfl (Gives.move rfl rfl) ?_
  refine Wl.val rfl rfl rfl (Gives.move rfl rfl) ?_
  refine Wl.call rfl rfl rfl rfl Tryd.func40 rfl (by kernel_rfl) rfl (sameChain _ S1 S3 m1 k1 m3 k3 l0 l0 hl0 hs3) ?_
  rintro x6 w612 ⟨rfl, hx612⟩
  refine ⟨_, rfl, ?_⟩
  replace hB2 := hB2.ext hx612
  replace hE := hE.trans hx612
  refine Wl.val rfl rfl rfl (Gives.not rfl rfl) ?_
  refine Wl.val rfl rfl rfl (Gives.pickF rfl rfl rfl rfl) ?_
  refine Wl.val rfl rfl rfl (Gives.move rfl rfl) ?_
  refine Wl.guardT rfl rfl rfl (by simp) ?_
  refine Wl.val rfl rfl rfl (Gives.move rfl rfl) ?_
  refine Wl.val rfl rfl rfl (Gives.lenS rfl Tryd.underlying22 rfl) ?_
  refine Wl.val rfl rfl rfl (Gives.eql rfl rfl rfl) ?_
  refine Wl.val rfl rfl rfl (Gives.pickF rfl rfl rfl rfl) ?_
  refine Wl.nil ?_
  refine Wx.thenN (hK8 _ _ ?_)
  refine Wc.condF rfl (decide_eq_false (by omega)) ?_
  refine Wc.skip ?_
  refine Wx.thenN (hK7 _ _ ?_)
  refine Wc.seq (fun K9 hK9 => ?_)
  refine Wc.keep [(0, _), (2, _), (3, _), (4, _), (12, _)] (.cons rfl (.cons rfl (.cons rfl (.cons rfl (.cons rfl (.nil)))))) ?_
  refine Wc.region ?_
  refine Wl.does rfl rfl rfl (Does.lit rfl Tryd.underlying22 infoB2 rfl rfl rfl rfl rfl) ?_
  rintro _ w80 ⟨g80, rfl, hs80, hk80, hx80⟩
  have hOe : OB w80 w.heap.size 5 (some ⟨g80, 0, none⟩) 0 0 [] := MB.ob (l := []) hk80 (Nat.le_trans hE.size hs80) rfl (Nat.le_refl _) rfl (by omega)
  replace hB2 := hB2.ext hx80
  replace hE := hE.trans hx80
  refine Wl.val rfl rfl rfl (Gives.move rfl rfl) ?_
  refine Wl.does rfl rfl rfl (Does.app0 rfl Tryd.underlying22 infoB rfl rfl hOe hB2 (by omega) hE.size) ?_
  rintro _ w82 ⟨S5, k5, rfl, hO5, hx82⟩
  obtain ⟨gS, rfl, hgSw⟩ := hO5.head (by omega)
  replace hE := hE.trans hx82
  refine Wl.val rfl rfl rfl (Gives.assign rfl rfl) ?_
  refine Wl.nil ?_
  refine Wx.thenN (hK9 _ _ ?_)
  refine Wc.seq (fun K10 hK10 => ?_)
  refine Wc.keep [(0, _), (2, _), (3, _), (4, _), (15, _)] (.cons rfl (.cons rfl (.cons rfl (.cons rfl (.cons rfl (.nil)))))) ?_
  have hp0 := Int.emod_nonneg pos (show ((m2 : Nat) : Int) ≠ 0 by omega)
  have hp1 := Int.emod_lt_of_pos pos (show (0 : Int) < ((m2 : Nat) : Int) by omega)
  obtain ⟨j, hj⟩ := Int.eq_ofNat_of_zero_le hp0
  refine Wc.region ?_
  refine Wl.val rfl rfl rfl (Gives.move rfl rfl) ?_
  refine Wl.val rfl rfl rfl (Gives.move rfl rfl) ?_
  refine Wl.val rfl rfl rfl (Gives.move rfl rfl) ?_
  refine Wl.val rfl rfl rfl (Gives.lenS rfl Tryd.underlying22 rfl) ?_
  refine Wl.call rfl rfl rfl rfl Tryd.func20 rfl (by kernel_rfl) rfl (mod_calls _ pos ((m2 : Nat) : Int) (by omega) (by omega)) ?_
  rintro x7 w94 ⟨rfl, rfl⟩
  refine ⟨_, rfl, ?_⟩
  refine Wl.val rfl rfl rfl (Gives.move rfl rfl) ?_
  refine Wl.val rfl rfl rfl (Gives.ixS (i := j) rfl Tryd.underlying22 (by kernel_rfl) rfl rfl (by omega) (by omega)) ?_
  refine Wl.acts rfl rfl (Does.stO (i := j) by' rfl rfl rfl rfl hO5 (by kernel_rfl) (by omega)) ?_
  rintro _ w97 ⟨hO6, hF97⟩
  have hBb := hO6.bv (P := fun _ => True) fun _ _ => trivial
  replace hE := Ext.over hE hF97 hgSw
  refine Wl.nil ?_
  refine Wx.thenN (hK10 _ _ ?_)
  refine Wc.joinC (ι := Nat × List UInt8) [(0, _)] (fun | (q, _) => [(15, .slice (some ⟨gS, 0, none⟩) q k5)]) (fun | (q, l), wr => q ≤ 700 ∧ BV wr (fun _ => True) (some ⟨gS, 0, none⟩) q k5 l ∧ Ext w wr) ?_ ?_ (.cons rfl (.nil))
  · intro K11 hJ11
    refine Wc.seq (fun K12 hK12 => ?_)
    refine Wc.keep [(0, _), (4, _), (15, _)] (.cons rfl (.cons rfl (.cons rfl (.nil)))) ?_
    refine Wc.region ?_
    refine Wl.val rfl rfl rfl (Gives.move rfl rfl) ?_
    refine Wl.val rfl rfl rfl (Gives.bits .and (by simp) rfl rfl rfl rfl) ?_
    refine Wl.val rfl rfl rfl (Gives.eql rfl rfl rfl) ?_
    refine Wl.nil ?_
    refine Wx.thenN (hK12 _ _ ?_)
    refine Wc.cond _ rfl (fun h65 => ?_) (fun h65 => ?_)
    · (first | replace h65 := of_decide_eq_true h65 | replace h65 := nd_true h65 | skip)
      refine Wc.keep [(0, _), (4, _), (15, _)] (.cons rfl (.cons rfl (.cons rfl (.nil)))) ?_
      have hs0 := Int.emod_nonneg (cut / 2 ^ 1) (show ((m2 : Nat) : Int) + 1 ≠ 0 by omega)
      have hs1 := Int.emod_lt_of_pos (cut / 2 ^ 1) (show (0 : Int) < ((m2 : Nat) : Int) + 1 by omega)
      obtain ⟨j2, hj2⟩ := Int.eq_ofNat_of_zero_le hs0
      refine Wc.region ?_
      refine Wl.val rfl rfl rfl (Gives.move rfl rfl) ?_
      refine Wl.val rfl rfl rfl (Gives.move rfl rfl) ?_
      refine Wl.val rfl rfl rfl (Gives.shrN 1 rfl rfl rfl rfl rfl) ?_
      refine Wl.val rfl rfl rfl (Gives.move rfl rfl) ?_
      refine Wl.val rfl rfl rfl (Gives.lenS rfl Tryd.underlying22 rfl) ?_
      refine Wl.val rfl rfl rfl (Gives.add rfl rfl rfl (by first | exact IntWalk.i64_in _ (by omega) | exact u64_in _ (by omega) | exact u32_in _ (by omega) | exact u8_in _ (by omega) | exact rfl)) ?_
      refine Wl.call rfl rfl rfl rfl Tryd.func20 rfl (by kernel_rfl) rfl (mod_calls _ (cut / 2 ^ 1) (((m2 : Nat) : Int) + 1) (by omega) (by omega)) ?_
      rintro x8 w116 ⟨rfl, rfl⟩
      refine ⟨_, rfl, ?_⟩
      refine Wl.val rfl rfl rfl (Gives.cutHi rfl Tryd.underlying22 (by kernel_rfl) rfl j2 rfl hj2 (by have := hO6.le; omega)) ?_
      refine Wl.val rfl rfl rfl (Gives.assign rfl rfl) ?_
      refine Wl.nil ?_
      refine Wx.thenN ?_
      exact hJ11 (j2, _) _ _ (.cons (by first | exact rfl | exact look_int rfl (by omega) | exact look_slice rfl (by omega)) (.cons rfl (.nil))) ⟨by omega, hBb.take (by omega), hE⟩
    · (first | replace h65 := of_decide_eq_false h65 | replace h65 := nd_false h65 | skip)
      refine Wc.skip ?_
      refine Wx.thenN ?_
      exact hJ11 (m2, _) _ _ (.cons (by first | exact rfl | exact look_int rfl (by omega) | exact look_slice rfl (by omega)) (.cons rfl (.nil))) ⟨by omega, hBb, hE⟩
  intro ⟨q, l⟩ wj hJ
  clear hE hBb
  obtain ⟨hq300, hBl, hE⟩ := hJ
  refine Wc.seq (fun K13 hK13 => ?_)
  refine Wc.seq (fun K14 hK14 => ?_)
  refine Wc.keep [(0, _), (15, _)] (.cons rfl (.cons rfl (.nil))) ?_
  refine Wc.region ?_
  refine Wl.val rfl rfl rfl (Gives.move rfl rfl) ?_
  refine Wl.call rfl rfl rfl rfl Tryd.func14 rfl (by kernel_rfl) rfl (cutN_calls _ A n c hle 600 rfl) ?_
  rintro x9 w121 ⟨rfl, rfl⟩
  refine ⟨_, rfl, ?_⟩
  refine Wl.val rfl rfl rfl (Gives.move rfl rfl) ?_
  refine Wl.does rfl rfl rfl (Does.lit rfl Tryd.underlying28 infoL2 rfl rfl rfl rfl rfl) ?_
  rintro _ w123 ⟨g123, rfl, hs123, hk123, hx123⟩
  have hLL := bl2 (P := fun _ => True) (hk123 : Blk w123 g123 _ #[.slice A (min n 600) c, .slice (some ⟨gS, 0, none⟩) q k5]) ((hq.ext (hE.trans hx123)).mono fun _ _ => trivial) (hBl.ext hx123) trivial
  have hx600 : ∀ y ∈ [raw.take 600, l], y.length ≤ 700 := fun y hy => by
    rcases List.mem_cons.1 hy with rfl | hy
    · rw [List.length_take]; omega
    · rw [List.mem_singleton.1 hy, hBl.len]; exact hq300
  replace hE := hE.trans hx123
  refine Wl.val rfl rfl rfl (Gives.lenS rfl Tryd.underlying28 rfl) ?_
  refine Wl.val rfl rfl rfl (Gives.move rfl rfl) ?_
  refine Wl.nil ?_
  refine Wx.thenN (hK14 _ _ ?_)
  refine Wc.block ?_
  refine Wc.keep [(77, _), (78, _), (79, _)] (.cons rfl (.cons rfl (.cons rfl (.nil)))) ?_
  refine Wc.loopC (ι := Nat) [(77, _), (78, _)] (fun i => [(79, .int .i64 (i : Int))]) (fun i wr => i ≤ 2 ∧ BL wr (fun _ => True) (some ⟨g123, 0, none⟩) 2 2 [raw.take 600, l] ∧ Ext w wr) (fun i => 2 - i) (0) (.cons (by first | exact rfl | exact look_int rfl (by omega) | exact look_slice rfl (by omega)) (.cons rfl (.cons rfl (.nil)))) (⟨by omega, hLL, hE⟩) ?_
  intro i wr hJ KL1 hKL1
  clear hE hLL
  obtain ⟨hi, hLL, hE⟩ := hJ
  refine Wc.seq (fun K15 hK15 => ?_)
  refine Wc.keep [(77, _), (78, _), (79, _)] (.cons rfl (.cons rfl (.cons rfl (.nil)))) ?_
  refine Wc.region ?_
  refine Wl.val rfl rfl rfl (Gives.lss rfl rfl rfl) ?_
  refine Wl.nil ?_
  refine Wx.thenN (hK15 _ _ ?_)
  refine Wc.seq (fun K16 hK16 => ?_)
  refine Wc.cond _ rfl (fun h80 => ?_) (fun h80 => ?_)
  · (first | replace h80 := of_decide_eq_true h80 | replace h80 := nd_true h80 | skip)
    refine Wc.skip ?_
    refine Wx.thenN (hK16 _ _ ?_)
    refine Wc.seq (fun K17 hK17 => ?_)
    refine Wc.block ?_
    refine Wc.seq (fun K18 hK18 => ?_)
    refine Wc.keep [(77, _), (78, _), (79, _)] (.cons rfl (.cons rfl (.cons rfl (.nil)))) ?_
    obtain ⟨xb, xo, hA, hbw, f, fA, fn, fc, hz, hcell, hF⟩ := hLL.at'' (show i < 2 by omega)
    obtain ⟨rfl, rfl⟩ : xb = g123 ∧ xo = 0 := by simp only [Option.some.injEq, Addr.mk.injEq, and_true] at hA; exact ⟨hA.1.symm, hA.2.symm⟩
    have hfl := hF.len
    have hf3 := hx600 f (List.mem_of_getElem? hz)
    refine Wc.region ?_
    refine Wl.val rfl rfl rfl (Gives.ixS (i := _) rfl Tryd.underlying28 (by kernel_rfl) rfl rfl rfl (by omega)) ?_
    refine Wl.val rfl rfl rfl (Gives.ldC rfl (by kernel_rfl) rfl hcell) ?_
    refine Wl.val rfl rfl rfl (Gives.assign rfl rfl) ?_
    refine Wl.nil ?_
    refine Wx.thenN (hK18 _ _ ?_)
    refine Wc.seq (fun K19 hK19 => ?_)
    refine Wc.keep [(17, _), (77, _), (78, _), (79, _)] (.cons rfl (.cons rfl (.cons rfl (.cons rfl (.nil))))) ?_
    refine Wc.region ?_
    refine Wl.val rfl rfl rfl (Gives.move rfl rfl) ?_
    refine Wl.call rfl rfl rfl rfl Tryd.func41 rfl (by kernel_rfl) rfl (decChainP _ fA fn fc f hF (by omega)) ?_
    rintro x10 w151 ⟨S6, m6, k6, l6, z6, rfl, hs6, hx151, hd6⟩
    refine ⟨_, rfl, ?_⟩
    replace hF := hF.ext hx151
    replace hLL := hLL.ext hx151
    replace hE := hE.trans hx151
    refine Wl.val rfl rfl rfl (Gives.move rfl rfl) ?_
    refine Wl.val rfl rfl rfl (Gives.extract rfl rfl rfl) ?_
    refine Wl.val rfl rfl rfl (Gives.extract rfl rfl rfl) ?_
    refine Wl.val rfl rfl rfl (Gives.assign rfl rfl) ?_
    refine Wl.val rfl rfl rfl (Gives.assign rfl rfl) ?_
    refine Wl.nil ?_
    refine Wx.thenN (hK19 _ _ ?_)
    refine Wc.seq (fun K20 hK20 => ?_)
    refine Wc.keep [(17, _), (18, _), (19, _), (77, _), (78, _), (79, _)] (.cons rfl (.cons rfl (.cons rfl (.cons rfl (.cons rfl (.cons rfl (.nil))))))) ?_
    refine Wc.region ?_
    refine Wl.val rfl rfl rfl (Gives.move rfl rfl) ?_
    refine Wl.call rfl rfl rfl rfl Tryd.func43 rfl (by kernel_rfl) rfl (decChainR _ fA fn fc f hF (by omega)) ?_
    rintro x11 w161 ⟨S7, m7, k7, l7, z7, rfl, hs7, hx161, hd7⟩
    refine ⟨_, rfl, ?_⟩
    obtain ⟨hz67, hl67⟩ := dc_same hd6 hd7
    subst hz67
    subst hl67
    replace hs6 := hs6.ext hx161
    replace hLL := hLL.ext hx161
    replace hE := hE.trans hx161
    refine Wl.val rfl rfl rfl (Gives.move rfl rfl) ?_
    refine Wl.val rfl rfl rfl (Gives.extract rfl rfl rfl) ?_
    refine Wl.val rfl rfl rfl (Gives.extract rfl rfl rfl) ?_
    refine Wl.val rfl rfl rfl (Gives.assign rfl rfl) ?_
    refine Wl.val rfl rfl rfl (Gives.assign rfl rfl) ?_
    refine Wl.nil ?_
    refine Wx.thenN (hK20 _ _ ?_)
    refine Wc.seq (fun K21 hK21 => ?_)
    refine Wc.keep [(18, _), (19, _), (20, _), (21, _), (77, _), (78, _), (79, _)] (.cons rfl (.cons rfl (.cons rfl (.cons rfl (.cons rfl (.cons rfl (.cons rfl (.nil)))))))) ?_
    refine Wc.region ?_
    refine Wl.val rfl rfl rfl (Gives.move rfl rfl) ?_
    refine Wl.val rfl rfl rfl (Gives.move rfl rfl) ?_
    refine Wl.val rfl rfl rfl (Gives.neq rfl rfl rfl) ?_
    refine Wl.val rfl rfl rfl (Gives.move rfl rfl) ?_
    refine Wl.guardT rfl rfl rfl (by simp) ?_
    refine Wl.val rfl rfl rfl (Gives.move rfl rfl) ?_
    refine Wl.val rfl rfl rfl (Gives.move rfl rfl) ?_
    refine Wl.call rfl rfl rfl rfl Tryd.func40 rfl (by kernel_rfl) rfl (sameChain _ S6 S7 m6 k6 m7 k7 l6 l6 hs6 hs7) ?_
    rintro x12 w176 ⟨rfl, hx176⟩
    refine ⟨_, rfl, ?_⟩
    replace hLL := hLL.ext hx176
    replace hE := hE.trans hx176
    refine Wl.val rfl rfl rfl (Gives.not rfl rfl) ?_
    refine Wl.val rfl rfl rfl (Gives.pickF rfl rfl rfl rfl) ?_
    refine Wl.nil ?_
    refine Wx.thenN (hK21 _ _ ?_)
    refine Wc.condF rfl (by simp) ?_
    refine Wc.skip ?_
    refine Wx.blockN ?_
    refine Wx.thenN (hK17 _ _ ?_)
    refine Wc.keep [(77, _), (78, _), (79, _)] (.cons rfl (.cons rfl (.cons rfl (.nil)))) ?_
    refine Wc.region ?_
    refine Wl.val rfl rfl rfl (Gives.add rfl rfl rfl (by first | exact IntWalk.i64_in _ (by omega) | exact u64_in _ (by omega) | exact u32_in _ (by omega) | exact u8_in _ (by omega) | exact rfl)) ?_
    refine Wl.val rfl rfl rfl (Gives.move rfl rfl) ?_
    refine Wl.nil ?_
    refine Wx.thenN ?_
    exact hKL1 (i + 1) _ _ (.cons (by first | exact rfl | exact look_int rfl (by omega) | exact look_slice rfl (by omega)) (.cons rfl (.cons rfl (.nil)))) ⟨by omega, hLL, hE⟩ (by show 2 - (i + 1) < 2 - i; omega)
  · (first | replace h80 := of_decide_eq_false h80 | replace h80 := nd_false h80 | skip)
    refine Wc.exit ?_
    refine Wx.thenE ?_
    refine Wx.thenE ?_
    refine Wx.hit ?_
    refine Wx.thenN (hK13 _ _ ?_)
    refine Wc.seq (fun K22 hK22 => ?_)
    refine Wc.keep [] (.nil) ?_
    refine Wc.region ?_
    refine Wl.val rfl rfl rfl (Gives.assign rfl rfl) ?_
    refine Wl.nil ?_
    refine Wx.thenN (hK22 _ _ ?_)
    refine Wc.ret ?_
    refine Wx.ret [_] ⟨rfl, trivial⟩ ?_
    exact ⟨rfl, hE⟩
end Go.Proofs.YteppchoeiflnhaaDoor
