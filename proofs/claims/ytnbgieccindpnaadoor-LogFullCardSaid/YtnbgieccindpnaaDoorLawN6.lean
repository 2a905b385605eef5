/- LogFull: the walk. -/
import Derived.Test.YtnbgieccindpnaaDoorLogP
namespace Go.Proofs.YtnbgieccindpnaaDoor
set_option linter.all false
set_option maxRecDepth 20000
open Go.RowKit
/-- a valid log and one more event -/
theorem add_full {act : Int} {evs : List Ev} {x : Ev} (ha : 1 ≤ act ∧ act ≤ 3) (hok : ∀ y ∈ evs, evE y act = 0) (hl : evs.length ≤ 40) (hx : evE x act = 0) : addL (lgB ⟨act, 1, evs⟩) x = if 40 ≤ evs.length then ([], 25) else (lgB ⟨act, 1, evs ++ [x]⟩, 0) := by
  have hr : rngH act 1 := by unfold rngH; omega
  have hhd := hdS_len hr
  have he := evT_le evs
  have hxb := evB_le x
  have hlg : lgOk ⟨act, 1, evs⟩ := ⟨hr, hok, hl⟩
  have hlen : (lgB ⟨act, 1, evs⟩).length ≤ 5600 := by
    show (hdS act 1 ++ evT evs).length ≤ 5600
    rw [List.length_append]; omega
  have hp := par_fmt hlg (by omega)
  have hb : blobS (lgB ⟨act, 1, evs⟩) (evB x) = lgB ⟨act, 1, evs ++ [x]⟩ := by
    rw [blobS_eq _ _ (by omega)]
    show hdS act 1 ++ evT evs ++ blobT (evB x) = hdS act 1 ++ evT (evs ++ [x])
    rw [evT_app, List.append_assoc]
    simp [evT]
  have hbl : (blobS (lgB ⟨act, 1, evs⟩) (evB x)).length ≤ 8192 := by
    rw [blobS_eq _ _ (by omega), List.length_append, blobT_len]; omega
  by_cases h4 : 40 ≤ evs.length
  · rw [if_pos h4, addl_25 (by rw [hp]) (by rw [hp]; exact hx) (by rw [hp]; exact h4)]
  · rw [if_neg h4, addl_0 (by rw [hp]) (by rw [hp]; exact hx) (by rw [hp]; exact h4) (by omega), hb]
theorem full_ok {act : Int} {evs : List Ev} (ha : 1 ≤ act ∧ act ≤ 3) (hok : ∀ y ∈ evs, evE y act = 0) (hl : evs.length ≤ 40) : fmtS ⟨act, 1, evs⟩ = (lgB ⟨act, 1, evs⟩, 0) := by
  have hr : rngH act 1 := by unfold rngH; omega
  have hhd := hdS_len hr
  have he := evT_le evs
  refine fmt_ok ⟨hr, hok, hl⟩ ?_
  show (hdS act 1 ++ evT evs).length ≤ 8192
  rw [List.length_append]; omega
set_option maxRecDepth 20000 in
set_option maxHeartbeats 4000000 in
theorem logFull_walk {P : Nat → Prop} (w : World) (hT : Tab w) (A : Option Addr) (n c : Nat) (codes : List UInt8) (ha : BV w P A n c codes) (active num : Int) :
    Calls Tryd.prog 3 #[.slice A n c, .int .i64 active, .int .i64 num] w fun e w' => e = .returned (.bool true) ∧ Ext w w' := by
  have ha0 := Int.emod_nonneg active (show (3 : Int) ≠ 0 by decide)
  have ha1 := Int.emod_lt_of_pos active (show (0 : Int) < 3 by decide)
  have hTl := hT.lt
  have hact : 1 ≤ 1 + active % 3 ∧ 1 + active % 3 ≤ 3 := ⟨by omega, by omega⟩
  refine calls_enter Tryd.func3 rfl Tryd.ntmps3 rfl ?_
  have hE : Ext w w := Ext.refl w
  refine vs fun K1 hK1 => vR [(0, _), (1, _), (2, _)] ?_
  refine vA ?_
  refine vn (hK1 _ _ ?_)
  refine Wc.seq (fun K2 hK2 => ?_)
  refine vs fun K3 hK3 => vR [(0, _), (1, _), (2, _)] ?_
  refine Wl.call rfl rfl rfl rfl Tryd.func10 rfl (by kernel_rfl) rfl (awakeL _ (hT.ext hE)) ?_
  rintro x0 w0 ⟨rfl, hx0⟩
  refine ⟨_, rfl, ?_⟩
  replace hE := hE.trans hx0
  refine vl (Gives.not rfl rfl) ?_
  refine vn (hK3 _ _ ?_)
  refine Wc.condF rfl rfl ?_
  refine Wc.skip ?_
  refine Wx.thenN (hK2 _ _ ?_)
  refine vs fun K4 hK4 => vR [(0, _), (1, _), (2, _)] ?_
  refine vM ?_
  refine Wl.call rfl rfl rfl rfl Tryd.func11 rfl (by kernel_rfl) rfl (activeD _ active) ?_
  rintro x1 w32 ⟨rfl, rfl⟩
  refine ⟨_, rfl, ?_⟩
  refine vM ?_
  refine Wl.call rfl rfl rfl rfl Tryd.func12 rfl (by kernel_rfl) rfl (modN _ _ _ 43 (by rfl) (by omega) (by omega)) ?_
  rintro x2 w33 ⟨j, hj, rfl, rfl⟩
  refine ⟨_, rfl, ?_⟩
  refine vA ?_
  refine vA ?_
  refine vn (hK4 _ _ ?_)
  refine vs fun K5 hK5 => vK [(0, _), (1, _), (2, _)] ?_
  generalize 1 + active % 3 = act at *
  refine Wc.region ?_
  refine vM ?_
  refine Wl.call rfl rfl rfl rfl Tryd.func13 rfl (by kernel_rfl) rfl (newD _ A n c codes (ha.ext hE) 200) ?_
  rintro x3 w41 ⟨gC, rfl, hgC0, hC, hx41⟩
  refine ⟨_, rfl, ?_⟩
  have hgC : w.heap.size ≤ gC := Nat.le_trans hE.size hgC0
  have hgN := hC.lt
  generalize hN : w41.heap.size = N at *
  have hgT : 0 ≠ gC := by omega
  replace hE := hE.trans hx41
  refine vA ?_
  refine vn (hK5 _ _ ?_)
  refine vs fun K6 hK6 => vR [(1, _), (2, _), (7, _)] ?_
  refine vM ?_
  refine vl (Gives.buildS (pl := [(0, 1), (1, 1), (2, 1)]) (zv := (.agg #[(.int .i64 0), (.int .i64 0), (.slice none 0 0)])) rfl Tryd.underlying30 (by kernel_rfl) (by kernel_rfl) rfl rfl) ?_
  refine Wl.does rfl rfl rfl (Does.alB (.agg #[(.int .i64 0), (.int .i64 0), (.slice none 0 0)]) rfl (by kernel_rfl) rfl) ?_
  rintro _ w5_2 ⟨b8, rfl, hs8, hb8, hx5_2⟩
  have hg8 : w.heap.size ≤ b8 := Nat.le_trans hE.size hs8
  replace hE := hE.trans hx5_2
  refine Wl.acts rfl rfl (Does.stL 3 rfl rfl rfl hb8 (by kernel_rfl) rfl rfl rfl) ?_
  rintro _ w5_3 ⟨hbn, hF5_3⟩
  replace hE := Ext.over hE hF5_3 hg8
  replace hb8 := hbn
  clear hbn
  have hn8g : b8 ≠ gC := by omega
  have hN8 : N ≤ b8 := by omega
  replace hC := (hC.ext hx5_2).fr hF5_3 (fun q hq => by omega)
  refine vn (hK6 _ _ ?_)
  refine vs fun K7 hK7 => vR [(1, _), (2, _), (7, _), (8, _)] ?_
  refine vM ?_
  refine Wl.call rfl rfl rfl rfl Tryd.func14 rfl (by kernel_rfl) rfl (headP _ act 1) ?_
  rintro x4 w61 ⟨S, m, k, rfl, hO, hx61⟩
  refine ⟨_, rfl, ?_⟩
  have hl8a := hb8.lt
  have hB := hO.bv (P := fun q => b8 < q) (fun q hq => by omega)
  replace hC := hC.ext hx61
  replace hb8 := hb8.ext hx61
  replace hE := hE.trans hx61
  refine vA ?_
  refine vn (hK7 _ _ ?_)
  refine Wc.seq (fun K8 hK8 => ?_)
  refine vs fun K9 hK9 => vR [(1, _), (2, _), (7, _), (8, _), (9, _)] ?_
  refine vA ?_
  refine vn (hK9 _ _ ?_)
  refine Wc.block ?_
  refine vK [(1, _), (2, _), (7, _), (8, _), (9, _), (10, _)] ?_
  refine Wc.loopC (ι := Nat × (Option Addr × Nat × Nat) × (Option Addr × Nat × Nat) × List Ev) [(1, _), (2, _), (7, _), (8, _)] (fun | (i, (S, m, k), _, _) => [(10, .int .i64 (i : Int)), (9, .slice S m k)]) (fun | (i, (S, m, k), (E, em, ek), evs), wr => i ≤ j ∧ em = min i 40 ∧ (∀ x ∈ evs, evE x act = 0) ∧ BV wr (fun q => b8 < q) S m k (lgB ⟨act, 1, evs⟩) ∧ EO wr (b8 + 1) E em ek evs ∧ CD wr gC N ∧ Blk wr b8 30 #[.int .i64 act, .int .i64 1, .slice E em ek] ∧ Ext w wr) (fun | (i, _) => j - i) ((0, (S, m, k), (none, 0, 0), [])) (.co (.co (.cons rfl (.cons rfl (.cons rfl (.cons rfl (.nil))))))) (⟨by omega, by omega, by simp, by unfold lgB evT; simpa using hB, EO.nil_ _ _, hC, hb8, hE⟩) ?_
  intro ⟨i, ⟨S, m, k⟩, ⟨E, em, ek⟩, evs⟩ wr hJ KL1 hKL1
  clear hE hC hb8 hB hO
  obtain ⟨hi, hem, hok, hB, hIO, hC, hb8, hE⟩ := hJ
  have hl8 := hb8.lt
  have hel := hIO.len
  refine Wc.seq (fun K10 hK10 => ?_)
  refine vs fun K11 hK11 => vR [(1, _), (2, _), (7, _), (8, _), (9, _), (10, _)] ?_
  refine vM ?_
  refine vM ?_
  refine vl (Gives.lss rfl rfl rfl) ?_
  refine vn (hK11 _ _ ?_)
  refine Wc.cond _ rfl (fun h30 => ?_) (fun h30 => ?_)
  · first | replace h30 := dT h30 | replace h30 := nT h30 | skip
    refine Wc.skip ?_
    refine Wx.thenN (hK10 _ _ ?_)
    refine Wc.seq (fun K12 hK12 => ?_)
    refine Wc.block ?_
    refine vs fun K13 hK13 => vR [(1, _), (2, _), (7, _), (8, _), (9, _), (10, _)] ?_
    refine vM ?_
    refine vM ?_
    refine Wl.call rfl rfl rfl rfl Tryd.func15 rfl (by kernel_rfl) rfl (eventD _ (hT.ext hE) gC N hC (by omega) hgT act hact) ?_
    rintro x5 w102 ⟨x, r, rfl, hV, hxe, hC2, hF102⟩
    refine ⟨_, rfl, ?_⟩
    have hown := hIO.lt
    replace hIO := hIO.fr hF102 (fun q hq => by omega)
    replace hB := hB.fr (hF102.mono fun q hq => by omega)
    have hz102 := hF102.size
    replace hb8 := hb8.frA hF102
    replace hE := Ext.over hE hF102 hgC
    refine Wl.does rfl rfl rfl (Does.alB (.agg #[(.int .i64 0), (.int .i64 0), (.slice none 0 0), (.slice none 0 0)]) rfl (by kernel_rfl) rfl) ?_
    rintro _ w10_3 ⟨b11, rfl, hs11, hb11, hx10_3⟩
    have hn8_11 : b8 ≠ b11 := hb8.ne hs11
    have hg11 : w.heap.size ≤ b11 := Nat.le_trans hE.size hs11
    replace hb8 := hb8.ext hx10_3
    replace hE := hE.trans hx10_3
    refine Wl.acts rfl rfl (Does.stL 4 rfl rfl rfl hb11 (by kernel_rfl) rfl rfl rfl) ?_
    rintro _ w10_4 ⟨hbn, hF10_4⟩
    replace hb8 := hb8.frA hF10_4
    replace hE := Ext.over hE hF10_4 hg11
    replace hb11 := hbn
    clear hbn
    have hx10 := Ext.over hx10_3 hF10_4 hs11
    have hadd : addL (lgB ⟨act, 1, evs⟩) ⟨x.reg, x.kind, x.ds, x.pay⟩ = if 40 ≤ evs.length then ([], 25) else (lgB ⟨act, 1, evs ++ [x]⟩, 0) := add_full hact hok (by omega) hxe
    replace hB := hB.ext hx10
    replace hV := hV.ext hx10
    replace hIO := hIO.ext hx10
    replace hC2 := hC2.ext hx10
    have hz10 := hx10.size
    refine vn (hK13 _ _ ?_)
    refine vs fun K14 hK14 => vR [(1, _), (2, _), (7, _), (8, _), (9, _), (10, _), (11, _)] ?_
    refine vM ?_
    refine vl (Gives.ldW rfl (by kernel_rfl) rfl hb11 (by kernel_rfl)) ?_
    refine Wl.call rfl rfl rfl rfl Tryd.func16 rfl (by kernel_rfl) rfl (addLP _ S m k _ hB x.reg x.kind r.D r.dn r.dc x.ds r.S r.m r.d x.pay hV.1 hV.2) ?_
    rintro x6 w112 ⟨S2, m2, k2, rfl, hO2, hx112⟩
    refine ⟨_, rfl, ?_⟩
    replace hB := hB.ext hx112
    replace hV := hV.ext hx112
    replace hIO := hIO.ext hx112
    replace hC2 := hC2.ext hx112
    have hz112 := hx112.size
    replace hb8 := hb8.ext hx112
    replace hb11 := hb11.ext hx112
    replace hE := hE.trans hx112
    refine vM ?_
    refine vl (Gives.extract rfl rfl rfl) ?_
    refine vl (Gives.extract rfl rfl rfl) ?_
    refine vA ?_
    refine vA ?_
    refine vn (hK14 _ _ ?_)
    refine Wc.seq (fun K15 hK15 => ?_)
    refine vs fun K16 hK16 => vR [(1, _), (2, _), (7, _), (8, _), (9, _), (10, _), (11, _), (12, _), (13, _)] ?_
    refine vM ?_
    refine vl (Gives.geq rfl rfl rfl) ?_
    refine vn (hK16 _ _ ?_)
    refine Wc.cond _ rfl (fun h43 => ?_) (fun h43 => ?_)
    · first | replace h43 := dT h43 | replace h43 := nT h43 | skip
      refine Wc.seq (fun K17 hK17 => ?_)
      refine vs fun K18 hK18 => vR [(1, _), (2, _), (7, _), (8, _), (9, _), (10, _), (13, _)] ?_
      refine vM ?_
      refine vl (Gives.neq rfl rfl rfl) ?_
      refine vn (hK18 _ _ ?_)
      refine Wc.condF rfl (by rw [hadd, if_pos (by omega)]; rfl) ?_
      refine Wc.skip ?_
      refine Wx.thenN (hK17 _ _ ?_)
      refine Wc.exit ?_
      refine Wx.thenE ?_
      refine Wx.hit ?_
      refine Wx.thenN (hK12 _ _ ?_)
      refine vR [(1, _), (2, _), (7, _), (8, _), (9, _), (10, _)] ?_
      refine vM ?_
      refine vAdd ?_
      refine vA ?_
      refine Wl.nil ?_
      refine Wx.thenN ?_
      exact hKL1 (i + 1, (S, m, k), (E, em, ek), evs) _ _ (.co (.co (.cons rfl (.cons rfl (.cons rfl (.cons rfl (.nil))))))) ⟨by omega, by omega, hok, hB, hIO, hC2, hb8, hE⟩ (by show j - (i + 1) < j - i; omega)
    first | replace h43 := dF h43 | replace h43 := nF h43 | skip
    refine Wc.skip ?_
    refine Wx.thenN (hK15 _ _ ?_)
    refine Wc.seq (fun K19 hK19 => ?_)
    refine vs fun K20 hK20 => vR [(1, _), (2, _), (7, _), (8, _), (10, _), (11, _), (12, _), (13, _)] ?_
    refine vM ?_
    refine vl (Gives.neq rfl rfl rfl) ?_
    refine vn (hK20 _ _ ?_)
    refine Wc.condF rfl (by rw [hadd, if_neg (by omega)]; rfl) ?_
    refine Wc.skip ?_
    refine Wx.thenN (hK19 _ _ ?_)
    refine vs fun K21 hK21 => vR [(1, _), (2, _), (7, _), (8, _), (10, _), (11, _), (12, _)] ?_
    refine vM ?_
    refine vA ?_
    refine vn (hK21 _ _ ?_)
    refine vR [(1, _), (2, _), (7, _), (8, _), (9, _), (10, _), (11, _)] ?_
    refine vF 2 Tryd.underlying30 ?_
    refine vL hb8 ?_
    refine vl (Gives.ldW rfl (by kernel_rfl) rfl hb11 (by kernel_rfl)) ?_
    rw [hadd, if_neg (by omega)] at hO2
    have hB2 := (hO2.bv (P := fun q => wr.heap.size ≤ q) (fun q hq => by omega))
    refine Wl.does rfl rfl rfl (Does.lit1 4 rfl Tryd.underlying28 infoE2 rfl rfl rfl) ?_
    rintro _ w183 ⟨gE, rfl, hsE, hkE, hxE⟩
    replace hIO := hIO.ext hxE
    replace hV := hV.ext hxE
    replace hC2 := hC2.ext hxE
    replace hB2 := (hB2.ext hxE).bd
    have hzE := hxE.size
    replace hb8 := hb8.ext hxE
    replace hb11 := hb11.ext hxE
    replace hE := hE.trans hxE
    refine Wl.does rfl rfl rfl (Does.appEOn (r := [x]) rfl rfl rfl hIO (row_evt (x := x) (r := r) hkE) (EachR.single (evt_rep (hV.bd.mono fun q hq => ⟨by omega, hq.2, fun he => by have := hown q he; omega⟩))) (by omega) (by omega)) ?_
    rintro _ w184 ⟨B2, sc2, rfl, hIO2, hB184, hN184, _⟩
    replace hB2 := (hB2.fr (hN184.mono fun q hq => ⟨trivial, hq.2, fun he => by have := hown q he; omega⟩)).mono (P' := fun q => b8 < q) fun q hq => by omega
    have hC3 := hC2.fr (below_fr hB184) (fun q hq => by omega)
    replace hb8 := Blk.bel hb8 hB184 (by omega)
    replace hE := Ext.step hE hB184 (by omega)
    refine vF 2 Tryd.underlying30 ?_
    refine Wl.acts rfl rfl (Does.stC rfl rfl rfl hb8 (by kernel_rfl) (Nat.le_of_ble_eq_true rfl) rfl) ?_
    rintro _ w18_6 ⟨hbn, hF18_6⟩
    replace hE := Ext.over hE hF18_6 hg8
    replace hb8 := hbn
    clear hbn
    (try simp only [List.setIfInBounds_toArray, List.set_cons_zero, List.set_cons_succ, Nat.reduceAdd, Nat.zero_add] at hb8)
    replace hIO2 := hIO2.fr hF18_6 (fun q hq => by omega)
    replace hB2 := hB2.fr (hF18_6.mono fun q hq => by omega)
    replace hC3 := hC3.fr hF18_6 (fun q hq => by omega)
    refine Wl.nil ?_
    refine Wx.blockN ?_
    refine Wx.thenN (hK12 _ _ ?_)
    refine vR [(1, _), (2, _), (7, _), (8, _), (9, _), (10, _)] ?_
    refine vM ?_
    refine vAdd ?_
    refine vA ?_
    refine Wl.nil ?_
    refine Wx.thenN ?_
    exact hKL1 (i + 1, (S2, m2, k2), (B2, em + 1, sc2), evs ++ [x]) _ _ (.co (.co (.cons rfl (.cons rfl (.cons rfl (.cons rfl (.nil))))))) ⟨by omega, by omega, all_snoc hok hxe, hB2, hIO2, hC3, hb8, hE⟩ (by show j - (i + 1) < j - i; omega)
  first | replace h30 := dF h30 | replace h30 := nF h30 | skip
  refine Wc.exit ?_
  refine Wx.thenE ?_
  refine Wx.thenE ?_
  refine Wx.hit ?_
  refine Wx.thenN (hK8 _ _ ?_)
  refine vs fun K22 hK22 => vR [(8, _), (9, _)] ?_
  refine vl (Gives.ldW rfl (by kernel_rfl) rfl hb8 (by kernel_rfl)) ?_
  refine Wl.call rfl rfl rfl rfl Tryd.func17 rfl (by kernel_rfl) rfl (fmtP _ act 1 E em ek evs (hIO.sl (P := fun _ => True) fun _ _ => trivial)) ?_
  rintro x7 w191 ⟨S3, m3, k3, rfl, hO3, hx191⟩
  refine ⟨_, rfl, ?_⟩
  rw [full_ok hact hok (by omega)] at hO3 ⊢
  replace hB := hB.ext hx191
  replace hb8 := hb8.ext hx191
  replace hE := hE.trans hx191
  refine vM ?_
  refine vl (Gives.extract rfl rfl rfl) ?_
  refine vl (Gives.extract rfl rfl rfl) ?_
  refine vA ?_
  refine vA ?_
  refine vn (hK22 _ _ ?_)
  refine vs fun K23 hK23 => vR [(9, _), (14, _), (15, _)] ?_
  refine vM ?_
  refine vl (Gives.eql rfl rfl rfl) ?_
  refine vM ?_
  refine Wl.guardT rfl rfl rfl rfl ?_
  refine vM ?_
  refine vM ?_
  refine Wl.call rfl rfl rfl rfl Tryd.func18 rfl (by kernel_rfl) rfl (same_calls _ _ _ _ _ _ _ _ _ hB (hO3.bv (P := fun _ => True) fun _ _ => trivial)) ?_
  rintro x8 w205 ⟨rfl, hq205⟩
  refine ⟨_, rfl, ?_⟩
  replace hb8 := hb8.ext hq205.ext
  replace hE := hE.trans hq205.ext
  refine vT ?_
  refine vA ?_
  refine vn (hK23 _ _ ?_)
  refine Wc.ret ?_
  refine Wx.ret [_] ⟨rfl, trivial⟩ ?_
  exact ⟨ret_bool (by simp), hE⟩
end Go.Proofs.YtnbgieccindpnaaDoor
