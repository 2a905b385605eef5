/- LogPrefix: the walk. -/
import Derived.Test.YtnbgieccindpnaaDoorLogP
namespace Go.Proofs.YtnbgieccindpnaaDoor
set_option linter.all false
set_option maxRecDepth 20000
open Go.RowKit
set_option maxRecDepth 20000 in
set_option maxHeartbeats 4000000 in
theorem logPrefix_walk {P : Nat → Prop} (w : World) (hT : Tab w) (A : Option Addr) (n c : Nat) (codes : List UInt8) (ha : BV w P A n c codes) (active rs cut : Int) :
    Calls Tryd.prog 4 #[.slice A n c, .int .i64 active, .int .i64 rs, .int .i64 cut] w fun e w' => e = .returned (.bool true) ∧ Ext w w' := by
  have ha0 := Int.emod_nonneg active (show (3 : Int) ≠ 0 by decide)
  have ha1 := Int.emod_lt_of_pos active (show (0 : Int) < 3 by decide)
  refine calls_enter Tryd.func4 rfl Tryd.ntmps4 rfl ?_
  have hE : Ext w w := Ext.refl w
  refine vs fun K1 hK1 => vR [(0, _), (1, _), (2, _), (3, _)] ?_
  refine vA ?_
  refine vn (hK1 _ _ ?_)
  refine Wc.seq (fun K2 hK2 => ?_)
  refine vs fun K3 hK3 => vR [(0, _), (1, _), (2, _), (3, _)] ?_
  refine Wl.call rfl rfl rfl rfl Tryd.func10 rfl (by kernel_rfl) rfl (awakeL _ (hT.ext hE)) ?_
  rintro x0 w0 ⟨rfl, hx0⟩
  refine ⟨_, rfl, ?_⟩
  replace hE := hE.trans hx0
  refine vl (Gives.not rfl rfl) ?_
  refine vn (hK3 _ _ ?_)
  refine Wc.condF rfl rfl ?_
  refine Wc.skip ?_
  refine Wx.thenN (hK2 _ _ ?_)
  refine vs fun K4 hK4 => vR [(0, _), (1, _), (2, _), (3, _)] ?_
  refine vM ?_
  refine vM ?_
  refine Wl.call rfl rfl rfl rfl Tryd.func11 rfl (by kernel_rfl) rfl (activeD _ active) ?_
  rintro x1 w32 ⟨rfl, rfl⟩
  refine ⟨_, rfl, ?_⟩
  refine vM ?_
  refine Wl.call rfl rfl rfl rfl Tryd.func19 rfl (by kernel_rfl) rfl (drawLog _ (hT.ext hE) A n c codes (ha.ext hE) (1 + active % 3) ⟨by omega, by omega⟩ rs) ?_
  rintro x2 w34 ⟨S, m, k, evs, rfl, hIO, hok, hm37, hx34⟩
  refine ⟨_, rfl, ?_⟩
  have hml := hIO.len
  obtain ⟨hlo, hlb, hl11⟩ := drawn_ok (act := 1 + active % 3) (rs := rs) ⟨by omega, by omega⟩ hok (by omega)
  have hSL := (hIO.sl (P := fun _ => True) fun _ _ => trivial).bd
  replace hE := hE.trans hx34
  refine Wl.does rfl rfl rfl (Does.alB (.agg #[(.int .i64 0), (.int .i64 0), (.slice none 0 0)]) rfl (by kernel_rfl) rfl) ?_
  rintro _ w3_5 ⟨b9, rfl, hs9, hb9, hx3_5⟩
  have hg9 : w.heap.size ≤ b9 := Nat.le_trans hE.size hs9
  replace hE := hE.trans hx3_5
  refine Wl.acts rfl rfl (Does.stL 3 rfl rfl rfl hb9 (by kernel_rfl) rfl rfl rfl) ?_
  rintro _ w3_6 ⟨hbn, hF3_6⟩
  replace hE := Ext.over hE hF3_6 hg9
  replace hb9 := hbn
  clear hbn
  replace hSL := (hSL.ext hx3_5).fr (hF3_6.mono fun q hq => by omega)
  refine vn (hK4 _ _ ?_)
  refine vs fun K5 hK5 => vR [(3, _), (9, _)] ?_
  refine vl (Gives.ldW rfl (by kernel_rfl) rfl hb9 (by kernel_rfl)) ?_
  refine Wl.call rfl rfl rfl rfl Tryd.func17 rfl (by kernel_rfl) rfl (fmtP _ (1 + active % 3) (rs % 1000) S m k evs hSL) ?_
  rintro x3 w41 ⟨S1, m1, k1, rfl, hO1, hx41⟩
  refine ⟨_, rfl, ?_⟩
  rw [fmt_ok hlo (by omega)] at hO1 ⊢
  have hm1 := hO1.len
  have hm1b : 11 ≤ m1 ∧ m1 ≤ 5200 := ⟨by rw [← hm1]; exact hl11, by rw [← hm1]; exact hlb⟩
  have hO1le := hO1.le
  have hB := hO1.bv (P := fun _ => True) (fun _ _ => trivial)
  replace hSL := (hSL.mono (P' := fun _ => True) fun _ _ => trivial).ext hx41
  replace hb9 := hb9.ext hx41
  replace hE := hE.trans hx41
  refine vM ?_
  refine vl (Gives.extract rfl rfl rfl) ?_
  refine vl (Gives.extract rfl rfl rfl) ?_
  refine vA ?_
  refine vA ?_
  refine vn (hK5 _ _ ?_)
  refine Wc.seq (fun K6 hK6 => ?_)
  refine vs fun K7 hK7 => vR [(3, _), (9, _), (10, _), (11, _)] ?_
  refine vM ?_
  refine vl (Gives.neq rfl rfl rfl) ?_
  refine vM ?_
  refine Wl.guardT rfl rfl rfl rfl ?_
  refine vM ?_
  refine vl (Gives.lenS rfl Tryd.underlying22 rfl) ?_
  refine vl (Gives.lss rfl rfl rfl) ?_
  refine vU ?_
  refine vn (hK7 _ _ ?_)
  refine Wc.condF rfl (by first | exact decide_eq_false (by omega) | rfl) ?_
  refine Wc.skip ?_
  refine Wx.thenN (hK6 _ _ ?_)
  refine vs fun K8 hK8 => vR [(3, _), (9, _), (10, _)] ?_
  refine vM ?_
  refine vM ?_
  refine vl (Gives.lenS rfl Tryd.underlying22 rfl) ?_
  refine vSub ?_
  refine vAdd ?_
  refine Wl.call rfl rfl rfl rfl Tryd.func12 rfl (by kernel_rfl) rfl (modN _ _ _ (m1 - 11 + 1) (by omega) (by omega) (by omega)) ?_
  rintro x4 w75 ⟨j, hj, rfl, rfl⟩
  refine ⟨_, rfl, ?_⟩
  refine vAdd ?_
  refine vA ?_
  refine vn (hK8 _ _ ?_)
  refine vs fun K9 hK9 => vK [(3, _), (9, _), (10, _)] ?_
  have hSLle := hSL.le
  have hr : rngH (1 + active % 3) (rs % 1000) := hlo.1
  have hhd : (hdS (1 + active % 3) (rs % 1000)).length = 11 := hdS_len hr
  have hlg : 11 + (evT evs).length = m1 := by
    rw [← hm1]
    show _ = (hdS (1 + active % 3) (rs % 1000) ++ evT evs).length
    rw [List.length_append, hhd]
  refine Wc.region ?_
  refine vA ?_
  refine vA ?_
  refine vn (hK9 _ _ ?_)
  refine Wc.joinC (ι := Nat × Nat) [(3, _), (9, _), (10, _)] (fun | (q, p) => [(12, .int .i64 (q : Int)), (13, .int .i64 (p : Int))]) (fun | (q, p), wr => q ≤ m ∧ p = 11 + (evT (evs.take q)).length ∧ p ≤ 11 + j ∧ (∀ x r, evs.drop q = x :: r → 11 + j - p < 2 + (evB x).length) ∧ SL Rp.evt wr (fun _ => True) S m k evs ∧ BV wr (fun _ => True) S1 m1 k1 (lgB ⟨1 + active % 3, rs % 1000, evs⟩) ∧ Blk wr b9 30 #[.int .i64 (1 + active % 3), .int .i64 (rs % 1000), .slice S m k] ∧ Ext w wr) ?_ ?_ (.cons rfl (.cons rfl (.cons rfl (.nil))))
  · intro K10 hJ10
    refine Wc.block ?_
    refine vK [(3, _), (9, _), (10, _), (12, _), (13, _)] ?_
    refine Wc.loopC (ι := Nat × Nat) [(3, _), (9, _), (10, _)] (fun | (q, p) => [(12, .int .i64 (q : Int)), (13, .int .i64 (p : Int))]) (fun | (q, p), wr => q ≤ m ∧ p = 11 + (evT (evs.take q)).length ∧ p ≤ 11 + j ∧ SL Rp.evt wr (fun _ => True) S m k evs ∧ BV wr (fun _ => True) S1 m1 k1 (lgB ⟨1 + active % 3, rs % 1000, evs⟩) ∧ Blk wr b9 30 #[.int .i64 (1 + active % 3), .int .i64 (rs % 1000), .slice S m k] ∧ Ext w wr) (fun | (q, _) => m - q) ((0, 11)) (.co (.co (.cons rfl (.cons rfl (.cons rfl (.nil)))))) (⟨by omega, by rw [List.take_zero]; rfl, by omega, hSL, hB, hb9, hE⟩) ?_
    intro ⟨q, p⟩ wr hJ KL1 hKL1
    clear hE hSL hB hb9
    obtain ⟨hq, hp, hpj, hSL, hB, hb9, hE⟩ := hJ
    refine Wc.seq (fun K11 hK11 => ?_)
    refine vs fun K12 hK12 => vR [(3, _), (9, _), (10, _), (12, _), (13, _)] ?_
    refine vM ?_
    refine vF 2 Tryd.underlying30 ?_
    refine vL hb9 ?_
    refine vl (Gives.lenS rfl Tryd.underlying28 rfl) ?_
    refine vl (Gives.lss rfl rfl rfl) ?_
    refine vM ?_
    refine Wl.guard rfl rfl rfl (fun h50 => ?_) (fun h50 => ?_)
    · first | replace h50 := dT h50 | replace h50 := nT h50 | skip
      refine vM ?_
      refine vAdd ?_
      refine vF 2 Tryd.underlying30 ?_
      refine vL hb9 ?_
      refine vM ?_
      obtain ⟨xb, xo, hxA, hbw, x, r, hz, hr0, hv⟩ := EL.at_ hSL (show q < m by omega)
      subst hxA
      have hsn := congrArg List.length (evT_snoc hz)
      rw [List.length_append, blobT_len] at hsn
      refine vl (Gives.ixSZ (i := q) (sz := 4) rfl Tryd.underlying28 (by kernel_rfl) rfl rfl rfl (by omega)) ?_
      refine vl (Gives.ldM rfl (by kernel_rfl) rfl hr0 (by kernel_rfl)) ?_
      refine Wl.call rfl rfl rfl rfl Tryd.func20 rfl (by kernel_rfl) rfl (evEncR _ x.reg x.kind r.D r.dn r.dc x.ds r.S r.m r.d x.pay hv.1 hv.2) ?_
      rintro x5 w913 ⟨S3, m3, k3, rfl, hO3, hx913⟩
      refine ⟨_, rfl, ?_⟩
      have hm3 : (evB x).length = m3 := hO3.len
      have hm3' := evB_le x
      replace hSL := hSL.ext hx913
      replace hB := hB.ext hx913
      replace hv := hv.ext hx913
      replace hr0 := range_ext hr0 hbw hx913
      replace hb9 := hb9.ext hx913
      replace hE := hE.trans hx913
      refine vl (Gives.lenS rfl Tryd.underlying22 rfl) ?_
      refine vAdd ?_
      refine vM ?_
      refine vl (Gives.leq rfl rfl rfl) ?_
      refine vT ?_
      refine vn (hK12 _ _ ?_)
      refine Wc.cond _ rfl (fun h63 => ?_) (fun h63 => ?_)
      · first | replace h63 := dT h63 | replace h63 := nT h63 | skip
        refine Wc.skip ?_
        refine Wx.thenN (hK11 _ _ ?_)
        refine Wc.block ?_
        refine vs fun K13 hK13 => vR [(3, _), (9, _), (10, _), (12, _), (13, _)] ?_
        refine vM ?_
        refine vF 2 Tryd.underlying30 ?_
        refine vL hb9 ?_
        refine vM ?_
        refine vl (Gives.ixSZ (i := q) (sz := 4) rfl Tryd.underlying28 (by kernel_rfl) rfl rfl rfl (by omega)) ?_
        refine vl (Gives.ldM rfl (by kernel_rfl) rfl hr0 (by kernel_rfl)) ?_
        refine Wl.call rfl rfl rfl rfl Tryd.func20 rfl (by kernel_rfl) rfl (evEncR _ x.reg x.kind r.D r.dn r.dc x.ds r.S r.m r.d x.pay hv.1 hv.2) ?_
        rintro x6 w106 ⟨S4, m4, k4, rfl, hO4, hx106⟩
        refine ⟨_, rfl, ?_⟩
        have hm4 : (evB x).length = m4 := hO4.len
        replace hSL := hSL.ext hx106
        replace hB := hB.ext hx106
        replace hb9 := hb9.ext hx106
        replace hE := hE.trans hx106
        refine vl (Gives.lenS rfl Tryd.underlying22 rfl) ?_
        refine vAdd ?_
        refine vAdd ?_
        refine vA ?_
        refine vn (hK13 _ _ ?_)
        refine vR [(3, _), (9, _), (10, _), (12, _), (13, _)] ?_
        refine vM ?_
        refine vAdd ?_
        refine vA ?_
        refine Wl.nil ?_
        refine Wx.blockN ?_
        refine Wx.thenN ?_
        exact hKL1 (q + 1, p + (2 + m4)) _ _ (.co (.co (.cons rfl (.cons rfl (.cons rfl (.nil)))))) ⟨by omega, by omega, by omega, hSL, hB, hb9, hE⟩ (by show m - (q + 1) < m - q; omega)
      first | replace h63 := dF h63 | replace h63 := nF h63 | skip
      refine Wc.exit ?_
      refine Wx.thenE ?_
      refine Wx.thenE ?_
      refine Wx.hit ?_
      refine Wx.thenN ?_
      first | exact hJ10 (q, p) _ _ (.co (.co (.cons rfl (.cons rfl (.cons rfl (.nil)))))) ⟨hq, hp, hpj, fun y r' hd => (by rw [List.drop_eq_nil_of_le (by omega)] at hd; cases hd), hSL, hB, hb9, hE⟩ | exact hJ10 (q, p) _ _ (.co (.co (.cons rfl (.cons rfl (.cons rfl (.nil)))))) ⟨hq, hp, hpj, fun y r' hd => (by rw [drop_ev hz] at hd; cases hd; omega), hSL, hB, hb9, hE⟩
    first | replace h50 := dF h50 | replace h50 := nF h50 | skip
    refine vP ?_
    refine vP ?_
    refine vP ?_
    refine vP ?_
    refine vP ?_
    refine vP ?_
    refine vP ?_
    refine vP ?_
    refine vP ?_
    refine vP ?_
    refine vP ?_
    refine vP ?_
    refine vU ?_
    refine vn (hK12 _ _ ?_)
    refine Wc.condF rfl rfl ?_
    refine Wc.exit ?_
    refine Wx.thenE ?_
    refine Wx.thenE ?_
    refine Wx.hit ?_
    refine Wx.thenN ?_
    first | exact hJ10 (q, p) _ _ (.co (.co (.cons rfl (.cons rfl (.cons rfl (.nil)))))) ⟨hq, hp, hpj, fun y r' hd => (by rw [List.drop_eq_nil_of_le (by omega)] at hd; cases hd), hSL, hB, hb9, hE⟩ | exact hJ10 (q, p) _ _ (.co (.co (.cons rfl (.cons rfl (.cons rfl (.nil)))))) ⟨hq, hp, hpj, fun y r' hd => (by rw [drop_ev hz] at hd; cases hd; omega), hSL, hB, hb9, hE⟩
  intro ⟨q, p⟩ wj hJ
  clear hE hSL hB hb9
  obtain ⟨hq, hp, hpj, hnx, hSL, hB, hb9, hE⟩ := hJ
  have hsplit : evs.take q ++ evs.drop q = evs := List.take_append_drop ..
  have hcl := cut_log (act := 1 + active % 3) (rs := rs % 1000) (l1 := evs.take q) (l2 := evs.drop q) (k := 11 + j - p) (by rw [hsplit]; exact hlo) (by rw [hsplit]; omega) hnx (fun hd => by
    have hq2 : m ≤ q := by
      have := congrArg List.length hd
      rw [List.length_drop, List.length_nil] at this
      omega
    rw [List.take_of_length_le (by omega)] at hp
    omega) (11 + j) (by omega)
  rw [hsplit] at hcl
  obtain ⟨hint, hpar⟩ := hcl
  have hIl : (evs.take q).length = q := by rw [List.length_take]; omega
  refine vs fun K14 hK14 => vR [(3, _), (9, _), (10, _), (12, _), (13, _)] ?_
  refine vM ?_
  refine vM ?_
  refine vl (Gives.cutHi rfl Tryd.underlying22 (by kernel_rfl) rfl (11 + j) rfl (by omega) (by omega)) ?_
  refine Wl.call rfl rfl rfl rfl Tryd.func21 rfl (by kernel_rfl) rfl (intP _ S1 (11 + j) k1 _ (hB.take (k := 11 + j) (by omega))) ?_
  rintro x7 w123 ⟨S5, m5, k5, rfl, hS5, hx123⟩
  refine ⟨_, rfl, ?_⟩
  rw [hint] at hS5 ⊢
  replace hS5 := (hS5.mono (P' := fun _ => True) fun _ _ => trivial).bd
  replace hSL := (hSL.ext hx123).bd
  replace hB := (hB.ext hx123).bd
  replace hb9 := hb9.ext hx123
  replace hE := hE.trans hx123
  refine vM ?_
  refine vl (Gives.extract rfl rfl rfl) ?_
  refine vl (Gives.extract rfl rfl rfl) ?_
  refine vl (Gives.extract rfl rfl rfl) ?_
  refine Wl.does rfl rfl rfl (Does.alB (.agg #[(.int .i64 0), (.int .i64 0), (.slice none 0 0)]) rfl (by kernel_rfl) rfl) ?_
  rintro _ w12_8 ⟨b14, rfl, hs14, hb14, hx12_8⟩
  have hn9_14 : b9 ≠ b14 := hb9.ne hs14
  have hg14 : w.heap.size ≤ b14 := Nat.le_trans hE.size hs14
  replace hb9 := hb9.ext hx12_8
  replace hE := hE.trans hx12_8
  refine Wl.acts rfl rfl (Does.stL 3 rfl rfl rfl hb14 (by kernel_rfl) rfl rfl rfl) ?_
  rintro _ w12_9 ⟨hbn, hF12_9⟩
  replace hb9 := hb9.frA hF12_9
  replace hE := Ext.over hE hF12_9 hg14
  replace hb14 := hbn
  clear hbn
  replace hS5 := (hS5.ext hx12_8).fr (hF12_9.mono fun q hq => by omega)
  replace hSL := (hSL.ext hx12_8).fr (hF12_9.mono fun q hq => by omega)
  replace hB := (hB.ext hx12_8).fr (hF12_9.mono fun q hq => by omega)
  refine vA ?_
  refine vA ?_
  refine vn (hK14 _ _ ?_)
  refine vs fun K15 hK15 => vR [(3, _), (9, _), (10, _), (12, _), (13, _), (14, _), (15, _), (16, _)] ?_
  refine vM ?_
  refine vM ?_
  refine vl (Gives.cutHi rfl Tryd.underlying22 (by kernel_rfl) rfl (11 + j) rfl (by omega) (by omega)) ?_
  refine Wl.call rfl rfl rfl rfl Tryd.func22 rfl (by kernel_rfl) rfl (parseLP _ S1 (11 + j) k1 _ (hB.take (k := 11 + j) (by omega))) ?_
  rintro x8 w133 ⟨S6, m6, k6, rfl, _, hx133⟩
  refine ⟨_, rfl, ?_⟩
  replace hS5 := (hS5.mono (P' := fun _ => True) fun _ _ => trivial).bd.ext hx133
  replace hSL := (hSL.mono (P' := fun _ => True) fun _ _ => trivial).bd.ext hx133
  have hz133 := hx133.size
  replace hb9 := hb9.ext hx133
  replace hb14 := hb14.ext hx133
  replace hE := hE.trans hx133
  refine vM ?_
  refine vl (Gives.extract rfl rfl rfl) ?_
  refine vl (Gives.extract rfl rfl rfl) ?_
  refine Wl.does rfl rfl rfl (Does.alB (.agg #[(.int .i64 0), (.int .i64 0), (.slice none 0 0)]) rfl (by kernel_rfl) rfl) ?_
  rintro _ w13_7 ⟨b17, rfl, hs17, hb17, hx13_7⟩
  have hn9_17 : b9 ≠ b17 := hb9.ne hs17
  have hn14_17 : b14 ≠ b17 := hb14.ne hs17
  have hg17 : w.heap.size ≤ b17 := Nat.le_trans hE.size hs17
  replace hb9 := hb9.ext hx13_7
  replace hb14 := hb14.ext hx13_7
  replace hE := hE.trans hx13_7
  refine Wl.acts rfl rfl (Does.stL 3 rfl rfl rfl hb17 (by kernel_rfl) rfl rfl rfl) ?_
  rintro _ w13_8 ⟨hbn, hF13_8⟩
  replace hb9 := hb9.frA hF13_8
  replace hb14 := hb14.frA hF13_8
  replace hE := Ext.over hE hF13_8 hg17
  replace hb17 := hbn
  clear hbn
  replace hS5 := (hS5.ext hx13_7).fr (hF13_8.mono fun q hq => by omega)
  replace hSL := (hSL.ext hx13_7).fr (hF13_8.mono fun q hq => by omega)
  refine vA ?_
  refine vn (hK15 _ _ ?_)
  refine Wc.seq (fun K16 hK16 => ?_)
  refine vs fun K17 hK17 => vK [(3, _), (9, _), (12, _), (13, _), (14, _), (15, _), (16, _), (18, _)] ?_
  refine Wc.regionD (fun _ => true) Eq (.read 0 (.read 1 (.read 2 (.read 3 (.read 4 (.read 5 (.read 6 (.read 7 (.read 8 (.read 9 (.read 10 (.read 11 (.read 12 (.read 13 .tail)))))))))))))) 14 (by kernel_rfl) (by kernel_rfl) (by kernel_rfl) (fun _ => rfl) (fun _ _ _ h k => h.trans k) Quiet ⟨1, rfl⟩ ?_
  intro w14 hR14
  replace hb9 := hb9.ext hR14.ext
  replace hb14 := hb14.ext hR14.ext
  replace hb17 := hb17.ext hR14.ext
  replace hE := hE.trans hR14.ext
  replace hS5 := hS5.ext hR14.ext
  replace hSL := hSL.ext hR14.ext
  refine rE rfl (Gives.move rfl rfl) ?_
  refine rE rfl (Gives.neq rfl rfl rfl) ?_
  refine rE rfl (Gives.move rfl rfl) ?_
  refine RunE.fix (t := 93) false rfl rfl ?_
  refine rE rfl (Gives.move rfl rfl) ?_
  refine rE rfl (Gives.move rfl rfl) ?_
  refine rE rfl (Gives.neq rfl rfl rfl) ?_
  refine rE rfl (Gives.pickF rfl rfl rfl rfl) ?_
  refine rE rfl (Gives.move rfl rfl) ?_
  refine RunE.fix (t := 98) false rfl (by simp; omega) ?_
  refine rE rfl (Gives.fieldAt 2 rfl Tryd.underlying30 rfl (by kernel_rfl) rfl rfl) ?_
  refine rE rfl (Gives.ldK rfl (by kernel_rfl) rfl hb14 rfl) ?_
  refine rE rfl (Gives.fieldAt 2 rfl Tryd.underlying30 rfl (by kernel_rfl) rfl rfl) ?_
  refine rE rfl (Gives.ldK rfl (by kernel_rfl) rfl hb9 rfl) ?_
  refine rE rfl (Gives.move rfl rfl) ?_
  refine rE rfl (Gives.cutHiZ q rfl Tryd.underlying28 (by kernel_rfl) rfl rfl rfl (by omega)) ?_
  refine RunE.tail rfl ?_
  refine Wl.call rfl rfl rfl rfl Tryd.func23 rfl (by kernel_rfl) rfl (sameEvs _ S5 S _ _ _ _ _ _ hS5 (hSL.take (k := q) (by omega))) ?_
  rintro x9 w1414 ⟨rfl, hx1414⟩
  refine ⟨_, rfl, ?_⟩
  replace hb9 := hb9.ext hx1414
  replace hb14 := hb14.ext hx1414
  replace hb17 := hb17.ext hx1414
  replace hE := hE.trans hx1414
  refine vl (Gives.not rfl rfl) ?_
  refine vU ?_
  refine vn (hK17 _ _ ?_)
  refine Wc.condF rfl (by simp) ?_
  refine Wc.skip ?_
  refine Wx.thenN (hK16 _ _ ?_)
  refine Wc.seq (fun K18 hK18 => ?_)
  refine vs fun K19 hK19 => vR [(3, _), (13, _), (18, _)] ?_
  refine vM ?_
  refine vM ?_
  refine vl (Gives.eql rfl rfl rfl) ?_
  refine vn (hK19 _ _ ?_)
  refine Wc.cond _ rfl (fun h110 => ?_) (fun h110 => ?_)
  · first | replace h110 := dT h110 | replace h110 := nT h110 | skip
    refine vs fun K20 hK20 => vR [(18, _)] ?_
    refine vM ?_
    refine vl (Gives.eql rfl rfl rfl) ?_
    refine vA ?_
    refine vn (hK20 _ _ ?_)
    refine Wc.ret ?_
    refine Wx.thenR ?_
    refine Wx.ret [_] ⟨rfl, trivial⟩ ?_
    exact ⟨ret_bool (by rw [hpar, if_pos (by omega)]; rfl), hE⟩
  first | replace h110 := dF h110 | replace h110 := nF h110 | skip
  refine Wc.skip ?_
  refine Wx.thenN (hK18 _ _ ?_)
  refine vs fun K21 hK21 => vR [(18, _)] ?_
  refine vM ?_
  refine vl (Gives.eql rfl rfl rfl) ?_
  refine vA ?_
  refine vn (hK21 _ _ ?_)
  refine Wc.ret ?_
  refine Wx.ret [_] ⟨rfl, trivial⟩ ?_
  exact ⟨ret_bool (by rw [hpar, if_neg (by omega)]; rfl), hE⟩
end Go.Proofs.YtnbgieccindpnaaDoor
