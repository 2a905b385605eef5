/- LogIntact: the walk. -/
import Derived.Test.YtnbgieccindpnaaDoorLogP
namespace Go.Proofs.YtnbgieccindpnaaDoor
set_option linter.all false
set_option maxRecDepth 20000
open Go.RowKit
set_option maxRecDepth 20000 in
set_option maxHeartbeats 2000000 in
theorem logIntact_walk {P P1 P2 P3 P4 : Nat → Prop} (w : World) (hT : Tab w) (A : Option Addr) (n c : Nat) (raw : List UInt8) (ha : BV w P A n c raw) (A1 : Option Addr) (n1 c1 : Nat) (codes : List UInt8) (ha1 : BV w P1 A1 n1 c1 codes) (active rs : Int) (B : Option Addr) (bn bc : Nat) (zs : List Int) (hb : Row w P2 1 B bn bc (zs.map fun z => .int .i64 z)) (C : Option Addr) (cn cc : Nat) (ys : List UInt8) (hc : BV w P3 C cn cc ys) (cut : Int) (D : Option Addr) (dn dc : Nat) (tl : List UInt8) (hd : BV w P4 D dn dc tl) :
    Calls Tryd.prog 7 #[.slice A n c, .slice A1 n1 c1, .int .i64 active, .int .i64 rs, .slice B bn bc, .slice C cn cc, .int .i64 cut, .slice D dn dc] w fun e w' => e = .returned (.bool true) ∧ Ext w w' := by
  have hle := ha.le
  have hr9 := (ha.cutS 9000).len
  refine calls_enter Tryd.func7 rfl Tryd.ntmps7 rfl ?_
  have hE : Ext w w := Ext.refl w
  refine vs fun K1 hK1 => vR [(0, _), (1, _), (2, _), (3, _), (4, _), (5, _), (6, _), (7, _)] ?_
  refine vA ?_
  refine vn (hK1 _ _ ?_)
  refine Wc.seq (fun K2 hK2 => ?_)
  refine vs fun K3 hK3 => vR [(0, _), (1, _), (2, _), (3, _), (4, _), (5, _), (6, _), (7, _)] ?_
  refine Wl.call rfl rfl rfl rfl Tryd.func10 rfl (by kernel_rfl) rfl (awakeL _ (hT.ext hE)) ?_
  rintro x0 w0 ⟨rfl, hx0⟩
  refine ⟨_, rfl, ?_⟩
  replace hE := hE.trans hx0
  refine vl (Gives.not rfl rfl) ?_
  refine vn (hK3 _ _ ?_)
  refine Wc.condF rfl rfl ?_
  refine Wc.skip ?_
  refine Wx.thenN (hK2 _ _ ?_)
  refine Wc.seq (fun K4 hK4 => ?_)
  refine vs fun K5 hK5 => vR [(0, _), (1, _), (2, _), (3, _), (4, _), (5, _), (6, _), (7, _)] ?_
  refine vM ?_
  refine Wl.call rfl rfl rfl rfl Tryd.func25 rfl (by kernel_rfl) rfl (cutN_calls _ A n c hle 9000 rfl) ?_
  rintro x1 w31 ⟨rfl, rfl⟩
  refine ⟨_, rfl, ?_⟩
  refine vM ?_
  refine vM ?_
  refine vM ?_
  refine vM ?_
  refine vM ?_
  refine vM ?_
  refine vM ?_
  refine Wl.call rfl rfl rfl rfl Tryd.func26 rfl (by kernel_rfl) rfl (spoiltD _ (hT.ext hE) A1 n1 c1 codes (ha1.ext hE) active rs B bn bc zs (Row.ext hb hE) C cn cc ys (hc.ext hE) cut D dn dc tl (hd.ext hE)) ?_
  rintro x2 w39 ⟨S, m, k, sp, rfl, hS, hm53, hx39⟩
  refine ⟨_, rfl, ?_⟩
  have hsl := hS.len
  replace hE := hE.trans hx39
  refine Wl.does rfl rfl rfl (Does.lit rfl Tryd.underlying32 infoL2 rfl rfl rfl rfl rfl) ?_
  rintro _ w310 ⟨g310, rfl, hs310, hk310, hx310⟩
  have hLL := bl2 (P := fun _ => True) (hk310 : Blk w310 g310 _ #[.slice A (min n 9000) c, .slice S m k]) (((ha.cutS 9000).mono (P' := fun _ => True) fun _ _ => trivial).ext (hE.trans hx310)) ((hS.mono (P' := fun _ => True) fun _ _ => trivial).ext hx310) trivial
  have hle9 : ∀ x ∈ [raw.take 9000, sp], x.length ≤ 9000 := by
    intro x hx
    simp only [List.mem_cons, List.not_mem_nil, or_false] at hx
    rcases hx with rfl | rfl <;> omega
  generalize [raw.take 9000, sp] = ls at *
  replace hE := hE.trans hx310
  refine vl (Gives.lenS rfl Tryd.underlying32 rfl) ?_
  refine vM ?_
  refine vn (hK5 _ _ ?_)
  refine Wc.block ?_
  refine vK [(39, _), (40, _), (41, _)] ?_
  refine Wc.loopC (ι := Nat) [(39, _), (40, _)] (fun i => [(41, .int .i64 (i : Int))]) (fun i wr => i ≤ 2 ∧ BL wr (fun _ => True) (some ⟨g310, 0, none⟩) 2 2 ls ∧ Ext w wr) (fun i => 2 - i) (0) (.co (.cons rfl (.cons rfl (.nil)))) (⟨by omega, hLL, hE⟩) ?_
  intro i wr hJ KL1 hKL1
  clear hE hLL
  obtain ⟨hi, hLL, hE⟩ := hJ
  have hLt := BL.nb0 hLL
  refine vs fun K6 hK6 => vR [(39, _), (40, _), (41, _)] ?_
  refine vl (Gives.lss rfl rfl rfl) ?_
  refine vn (hK6 _ _ ?_)
  refine Wc.seq (fun K7 hK7 => ?_)
  refine Wc.cond _ rfl (fun h42 => ?_) (fun h42 => ?_)
  · first | replace h42 := dT h42 | replace h42 := nT h42 | skip
    refine Wc.skip ?_
    refine Wx.thenN (hK7 _ _ ?_)
    refine Wc.seq (fun K8 hK8 => ?_)
    refine Wc.block ?_
    refine vs fun K9 hK9 => vK [(39, _), (40, _), (41, _)] ?_
    obtain ⟨xb, xo, hLA, hbw, b, bS, bm, bk, hz, hcell, hB0⟩ := hLt.at'' (show i < 2 by omega)
    cases hLA
    have hbl := hB0.len
    have hb9 := hle9 b (List.mem_of_getElem? hz)
    have hble := hB0.le
    have hB := BV.nb0 hB0
    refine Wc.region ?_
    refine vl (Gives.ixS (i := _) rfl Tryd.underlying32 (by kernel_rfl) rfl rfl rfl (by omega)) ?_
    refine vl (Gives.ldC rfl (by kernel_rfl) rfl hcell) ?_
    refine vA ?_
    refine vn (hK9 _ _ ?_)
    refine vs fun K10 hK10 => vR [(18, _), (39, _), (40, _), (41, _)] ?_
    refine vM ?_
    refine Wl.call rfl rfl rfl rfl Tryd.func21 rfl (by kernel_rfl) rfl (intP _ bS bm bk b hB) ?_
    rintro x3 w61 ⟨S1, m1, k1, rfl, hS1, hx61⟩
    refine ⟨_, rfl, ?_⟩
    replace hS1 := hS1.bd
    replace hB := hB.ext hx61
    replace hLt := hLt.ext hx61
    replace hE := hE.trans hx61
    refine vM ?_
    refine vl (Gives.extract rfl rfl rfl) ?_
    refine vl (Gives.extract rfl rfl rfl) ?_
    refine vl (Gives.extract rfl rfl rfl) ?_
    refine Wl.does rfl rfl rfl (Does.alB (.agg #[(.int .i64 0), (.int .i64 0), (.slice none 0 0)]) rfl (by kernel_rfl) rfl) ?_
    rintro _ w6_6 ⟨b19, rfl, hs19, hb19, hx6_6⟩
    replace hB := hB.nbCons hs19
    replace hLt := hLt.nbCons hs19
    have hg19 : w.heap.size ≤ b19 := Nat.le_trans hE.size hs19
    replace hB := hB.ext hx6_6
    replace hLt := hLt.ext hx6_6
    replace hE := hE.trans hx6_6
    refine Wl.acts rfl rfl (Does.stL 3 rfl rfl rfl hb19 (by kernel_rfl) rfl rfl rfl) ?_
    rintro _ w6_7 ⟨hbn, hF6_7⟩
    replace hB := hB.fr (hF6_7.mono (fun k h => h.1))
    replace hLt := hLt.fr (hF6_7.mono (fun k h => h.1))
    replace hE := Ext.over hE hF6_7 hg19
    replace hb19 := hbn
    clear hbn
    replace hS1 := (hS1.ext hx6_6).fr (hF6_7.mono fun q hq => by omega)
    refine vA ?_
    refine vA ?_
    refine vn (hK10 _ _ ?_)
    refine vs fun K11 hK11 => vR [(18, _), (19, _), (20, _), (21, _), (39, _), (40, _), (41, _)] ?_
    refine vM ?_
    refine Wl.call rfl rfl rfl rfl Tryd.func28 rfl (by kernel_rfl) rfl (intQ _ bS bm bk b hB (by omega)) ?_
    rintro x4 w71 ⟨S2, m2, k2, rfl, hS2, hx71⟩
    refine ⟨_, rfl, ?_⟩
    replace hS1 := (hS1.mono (P' := fun _ => True) fun _ _ => trivial).bd.ext hx71
    replace hS2 := hS2.bd
    have hz71 := hx71.size
    replace hb19 := hb19.ext hx71
    replace hB := hB.ext hx71
    replace hLt := hLt.ext hx71
    replace hE := hE.trans hx71
    refine vM ?_
    refine vl (Gives.extract rfl rfl rfl) ?_
    refine vl (Gives.extract rfl rfl rfl) ?_
    refine vl (Gives.extract rfl rfl rfl) ?_
    refine Wl.does rfl rfl rfl (Does.alB (.agg #[(.int .i64 0), (.int .i64 0), (.slice none 0 0)]) rfl (by kernel_rfl) rfl) ?_
    rintro _ w7_6 ⟨b22, rfl, hs22, hb22, hx7_6⟩
    have hn19_22 : b19 ≠ b22 := hb19.ne hs22
    replace hB := hB.nbCons hs22
    replace hLt := hLt.nbCons hs22
    have hg22 : w.heap.size ≤ b22 := Nat.le_trans hE.size hs22
    replace hb19 := hb19.ext hx7_6
    replace hB := hB.ext hx7_6
    replace hLt := hLt.ext hx7_6
    replace hE := hE.trans hx7_6
    refine Wl.acts rfl rfl (Does.stL 3 rfl rfl rfl hb22 (by kernel_rfl) rfl rfl rfl) ?_
    rintro _ w7_7 ⟨hbn, hF7_7⟩
    replace hb19 := hb19.frA hF7_7
    replace hB := hB.fr (hF7_7.mono (fun k h => h.1))
    replace hLt := hLt.fr (hF7_7.mono (fun k h => h.1))
    replace hE := Ext.over hE hF7_7 hg22
    replace hb22 := hbn
    clear hbn
    replace hS1 := (hS1.ext hx7_6).fr (hF7_7.mono fun q hq => by omega)
    replace hS2 := (hS2.ext hx7_6).fr (hF7_7.mono fun q hq => by omega)
    refine vA ?_
    refine vA ?_
    refine vn (hK11 _ _ ?_)
    refine Wc.seq (fun K12 hK12 => ?_)
    refine vs fun K13 hK13 => vR [(18, _), (19, _), (20, _), (21, _), (22, _), (23, _), (24, _), (39, _), (40, _), (41, _)] ?_
    refine vM ?_
    refine vM ?_
    refine vl (Gives.neq rfl rfl rfl) ?_
    refine vM ?_
    refine Wl.guardT rfl rfl rfl (by simp) ?_
    refine vM ?_
    refine vM ?_
    refine vl (Gives.neq rfl rfl rfl) ?_
    refine vU ?_
    refine vM ?_
    refine Wl.guardT rfl rfl rfl (by simp) ?_
    refine vl (Gives.ldW rfl (by kernel_rfl) rfl hb19 (by kernel_rfl)) ?_
    refine vl (Gives.ldW rfl (by kernel_rfl) rfl hb22 (by kernel_rfl)) ?_
    refine Wl.call rfl rfl rfl rfl Tryd.func29 rfl (by kernel_rfl) rfl (sameLg _ _ _ _ _ S1 S2 _ _ _ _ _ _ hS1 hS2) ?_
    rintro x5 w86 ⟨rfl, hx86⟩
    refine ⟨_, rfl, ?_⟩
    replace hS1 := hS1.ext hx86
    replace hb19 := hb19.ext hx86
    replace hb22 := hb22.ext hx86
    replace hB := hB.ext hx86
    replace hLt := hLt.ext hx86
    replace hE := hE.trans hx86
    refine vl (Gives.not rfl rfl) ?_
    refine vU ?_
    refine vn (hK13 _ _ ?_)
    refine Wc.condF rfl (by simp) ?_
    refine Wc.skip ?_
    refine Wx.thenN (hK12 _ _ ?_)
    refine Wc.seq (fun K14 hK14 => ?_)
    refine vs fun K15 hK15 => vR [(18, _), (19, _), (20, _), (21, _), (39, _), (40, _), (41, _)] ?_
    refine vM ?_
    refine vl (Gives.neq rfl rfl rfl) ?_
    refine vn (hK15 _ _ ?_)
    refine Wc.cond _ rfl (fun h72 => ?_) (fun h72 => ?_)
    · first | replace h72 := dT h72 | replace h72 := nT h72 | skip
      refine Wc.exit ?_
      refine Wx.thenE ?_
      refine Wx.hit ?_
      refine Wx.thenN (hK8 _ _ ?_)
      refine vR [(39, _), (40, _), (41, _)] ?_
      refine vAdd ?_
      refine vM ?_
      refine Wl.nil ?_
      refine Wx.thenN ?_
      exact hKL1 (i + 1) _ _ (.co (.cons rfl (.cons rfl (.nil)))) ⟨by omega, hLt.mono fun _ _ => trivial, hE⟩ (by show 2 - (i + 1) < 2 - i; omega)
    first | replace h72 := dF h72 | replace h72 := nF h72 | skip
    refine Wc.skip ?_
    refine Wx.thenN (hK14 _ _ ?_)
    refine Wc.seq (fun K16 hK16 => ?_)
    refine vs fun K17 hK17 => vK [(18, _), (19, _), (20, _), (39, _), (40, _), (41, _)] ?_
    obtain ⟨nn, hnn, hnl, hpar⟩ := int_par h72
    refine Wc.region ?_
    refine vM ?_
    refine vl (Gives.lss rfl rfl rfl) ?_
    refine vM ?_
    refine Wl.guardT rfl rfl rfl (by first | exact decide_eq_false (by rw [hnn]; omega) | rfl) ?_
    refine vM ?_
    refine vM ?_
    refine vl (Gives.lenS rfl Tryd.underlying22 rfl) ?_
    refine vl (Gives.gtr rfl rfl rfl) ?_
    refine vU ?_
    refine vn (hK17 _ _ ?_)
    refine Wc.condF rfl (by first | exact decide_eq_false (by rw [hnn]; omega) | rfl) ?_
    refine Wc.skip ?_
    refine Wx.thenN (hK16 _ _ ?_)
    refine vs fun K18 hK18 => vR [(18, _), (19, _), (20, _), (39, _), (40, _), (41, _)] ?_
    refine vM ?_
    refine vM ?_
    refine vl (Gives.cutHi rfl Tryd.underlying22 (by kernel_rfl) rfl nn rfl hnn (by omega)) ?_
    refine Wl.call rfl rfl rfl rfl Tryd.func22 rfl (by kernel_rfl) rfl (parseLP _ bS nn bk (b.take nn) (hB.take (by omega))) ?_
    rintro x6 w131 ⟨S3, m3, k3, rfl, hS3, hx131⟩
    refine ⟨_, rfl, ?_⟩
    rw [hpar] at hS3 ⊢
    replace hS1 := (hS1.mono (P' := fun _ => True) fun _ _ => trivial).bd.ext hx131
    replace hS3 := hS3.bd
    have hz131 := hx131.size
    replace hb19 := hb19.ext hx131
    replace hb22 := hb22.ext hx131
    replace hB := hB.ext hx131
    replace hLt := hLt.ext hx131
    replace hE := hE.trans hx131
    refine vM ?_
    refine vl (Gives.extract rfl rfl rfl) ?_
    refine vl (Gives.extract rfl rfl rfl) ?_
    refine Wl.does rfl rfl rfl (Does.alB (.agg #[(.int .i64 0), (.int .i64 0), (.slice none 0 0)]) rfl (by kernel_rfl) rfl) ?_
    rintro _ w13_7 ⟨b25, rfl, hs25, hb25, hx13_7⟩
    have hn19_25 : b19 ≠ b25 := hb19.ne hs25
    have hn22_25 : b22 ≠ b25 := hb22.ne hs25
    replace hB := hB.nbCons hs25
    replace hLt := hLt.nbCons hs25
    have hg25 : w.heap.size ≤ b25 := Nat.le_trans hE.size hs25
    replace hb19 := hb19.ext hx13_7
    replace hb22 := hb22.ext hx13_7
    replace hB := hB.ext hx13_7
    replace hLt := hLt.ext hx13_7
    replace hE := hE.trans hx13_7
    refine Wl.acts rfl rfl (Does.stL 3 rfl rfl rfl hb25 (by kernel_rfl) rfl rfl rfl) ?_
    rintro _ w13_8 ⟨hbn, hF13_8⟩
    replace hb19 := hb19.frA hF13_8
    replace hb22 := hb22.frA hF13_8
    replace hB := hB.fr (hF13_8.mono (fun k h => h.1))
    replace hLt := hLt.fr (hF13_8.mono (fun k h => h.1))
    replace hE := Ext.over hE hF13_8 hg25
    replace hb25 := hbn
    clear hbn
    replace hS1 := (hS1.ext hx13_7).fr (hF13_8.mono fun q hq => by omega)
    replace hS3 := (hS3.ext hx13_7).fr (hF13_8.mono fun q hq => by omega)
    refine vA ?_
    refine vn (hK18 _ _ ?_)
    refine vs fun K19 hK19 => vR [(19, _), (25, _), (26, _), (39, _), (40, _), (41, _)] ?_
    refine vM ?_
    refine vl (Gives.neq rfl rfl rfl) ?_
    refine vM ?_
    refine Wl.guardT rfl rfl rfl rfl ?_
    refine vl (Gives.ldW rfl (by kernel_rfl) rfl hb19 (by kernel_rfl)) ?_
    refine vl (Gives.ldW rfl (by kernel_rfl) rfl hb25 (by kernel_rfl)) ?_
    refine Wl.call rfl rfl rfl rfl Tryd.func29 rfl (by kernel_rfl) rfl (sameLg _ _ _ _ _ S1 S3 _ _ _ _ _ _ hS1 hS3) ?_
    rintro x7 w145 ⟨rfl, hx145⟩
    refine ⟨_, rfl, ?_⟩
    replace hb19 := hb19.ext hx145
    replace hb22 := hb22.ext hx145
    replace hb25 := hb25.ext hx145
    replace hB := hB.ext hx145
    replace hLt := hLt.ext hx145
    replace hE := hE.trans hx145
    refine vl (Gives.not rfl rfl) ?_
    refine vU ?_
    refine vn (hK19 _ _ ?_)
    refine Wc.condF rfl (by simp) ?_
    refine Wc.skip ?_
    refine Wx.blockN ?_
    refine Wx.thenN (hK8 _ _ ?_)
    refine vR [(39, _), (40, _), (41, _)] ?_
    refine vAdd ?_
    refine vM ?_
    refine Wl.nil ?_
    refine Wx.thenN ?_
    exact hKL1 (i + 1) _ _ (.co (.cons rfl (.cons rfl (.nil)))) ⟨by omega, hLt.mono fun _ _ => trivial, hE⟩ (by show 2 - (i + 1) < 2 - i; omega)
  first | replace h42 := dF h42 | replace h42 := nF h42 | skip
  refine Wc.exit ?_
  refine Wx.thenE ?_
  refine Wx.thenE ?_
  refine Wx.hit ?_
  refine Wx.thenN (hK4 _ _ ?_)
  refine vs fun K20 hK20 => vR [] ?_
  refine vA ?_
  refine vn (hK20 _ _ ?_)
  refine Wc.ret ?_
  refine Wx.ret [_] ⟨rfl, trivial⟩ ?_
  exact ⟨rfl, hE⟩
end Go.Proofs.YtnbgieccindpnaaDoor
