/- JournalAgain: the walk. -/
import Derived.Test.YtbbeoojlgfegjaaDoorLawJA
namespace Go.Proofs.YtbbeoojlgfegjaaDoor
set_option linter.all false
open Go.RowKit
set_option maxRecDepth 20000 in
set_option maxHeartbeats 4000000 in
theorem journalAgain_walk {P P' P'' P3 : Nat → Prop} (w : World) (hT : Tab w) (A : Option Addr) (n c : Nat) (l : List (List UInt8)) (ha : BL w P A n c l) (F : Option Addr) (fm fc : Nat) (first : List UInt8) (hf : BV w P' F fm fc first) (D : Option Addr) (m dc : Nat) (p : List UInt8) (hp : BV w P'' D m dc p) (G : Option Addr) (gm gc : Nat) (other : List UInt8) (hg : BV w P3 G gm gc other) (torn : Int) :
    Calls Tryd.prog 8 #[.slice A n c, .slice F fm fc, .slice D m dc, .slice G gm gc, .int .i64 torn] w fun e w' => e = .returned (.bool true) ∧ Ext w w' := by
  have hle := hp.le
  have hle2 := hf.le
  have hpl := hp.len
  have hfl := hf.len
  have hgl := hg.len
  have hl := ha.len
  refine calls_enter Tryd.func8 rfl Tryd.ntmps8 rfl ?_
  have hE : Ext w w := Ext.refl w
  refine Wc.seq (fun K1 hK1 => ?_)
  refine Wc.keep [(0, _), (1, _), (2, _), (3, _), (4, _)] (.cons rfl (.cons rfl (.cons rfl (.cons rfl (.cons rfl (.nil)))))) ?_
  refine Wc.region ?_
  refine Wl.val rfl rfl rfl (Gives.assign rfl rfl) ?_
  refine Wl.nil ?_
  refine Wx.thenN (hK1 _ _ ?_)
  refine Wc.seq (fun K2 hK2 => ?_)
  refine Wc.seq (fun K3 hK3 => ?_)
  refine Wc.keep [(0, _), (1, _), (2, _), (3, _), (4, _)] (.cons rfl (.cons rfl (.cons rfl (.cons rfl (.cons rfl (.nil)))))) ?_
  refine Wc.region ?_
  refine Wl.call rfl rfl rfl rfl Tryd.func9 rfl (by kernel_rfl) rfl (awakeJ _ (hT.ext hE)) ?_
  rintro x0 w0 ⟨rfl, hx0⟩
  refine ⟨_, rfl, ?_⟩
  replace hE := hE.trans hx0
  refine Wl.val rfl rfl rfl (Gives.not rfl rfl) ?_
  refine Wl.nil ?_
  refine Wx.thenN (hK3 _ _ ?_)
  refine Wc.condF rfl rfl ?_
  refine Wc.skip ?_
  refine Wx.thenN (hK2 _ _ ?_)
  refine Wc.seq (fun K4 hK4 => ?_)
  refine Wc.seq (fun K5 hK5 => ?_)
  refine Wc.keep [(0, _), (1, _), (2, _), (3, _), (4, _)] (.cons rfl (.cons rfl (.cons rfl (.cons rfl (.cons rfl (.nil)))))) ?_
  refine Wc.region ?_
  refine Wl.val rfl rfl rfl (Gives.move rfl rfl) ?_
  refine Wl.call rfl rfl rfl rfl Tryd.func10 rfl (by kernel_rfl) rfl (fewJ _ A n c l (ha.ext hE)) ?_
  rintro x1 w1 ⟨b, rfl, hfew, hx1⟩
  refine ⟨_, rfl, ?_⟩
  replace hE := hE.trans hx1
  refine Wl.val rfl rfl rfl (Gives.not rfl rfl) ?_
  refine Wl.val rfl rfl rfl (Gives.move rfl rfl) ?_
  refine Wl.guard rfl rfl rfl (fun h29 => ?_) (fun h29 => ?_)
  · (first | replace h29 := of_decide_eq_false h29 | replace h29 := nd_false h29 | skip)
    refine Wl.val rfl rfl rfl (Gives.move rfl rfl) ?_
    refine Wl.val rfl rfl rfl (Gives.lenS rfl Tryd.underlying23 rfl) ?_
    refine Wl.val rfl rfl rfl (Gives.gtr rfl rfl rfl) ?_
    refine Wl.val rfl rfl rfl (Gives.pickF rfl rfl rfl rfl) ?_
    refine Wl.val rfl rfl rfl (Gives.move rfl rfl) ?_
    refine Wl.guard rfl rfl rfl (fun h34 => ?_) (fun h34 => ?_)
    · (first | replace h34 := of_decide_eq_false h34 | replace h34 := nd_false h34 | skip)
      refine Wl.val rfl rfl rfl (Gives.move rfl rfl) ?_
      refine Wl.val rfl rfl rfl (Gives.lenS rfl Tryd.underlying23 rfl) ?_
      refine Wl.val rfl rfl rfl (Gives.gtr rfl rfl rfl) ?_
      refine Wl.val rfl rfl rfl (Gives.pickF rfl rfl rfl rfl) ?_
      refine Wl.val rfl rfl rfl (Gives.move rfl rfl) ?_
      refine Wl.guard rfl rfl rfl (fun h39 => ?_) (fun h39 => ?_)
      · (first | replace h39 := of_decide_eq_false h39 | replace h39 := nd_false h39 | skip)
        refine Wl.val rfl rfl rfl (Gives.move rfl rfl) ?_
        refine Wl.val rfl rfl rfl (Gives.lenS rfl Tryd.underlying23 rfl) ?_
        refine Wl.val rfl rfl rfl (Gives.gtr rfl rfl rfl) ?_
        refine Wl.val rfl rfl rfl (Gives.pickF rfl rfl rfl rfl) ?_
        refine Wl.nil ?_
        refine Wx.thenN (hK5 _ _ ?_)
        refine Wc.cond _ rfl (fun h43 => ?_) (fun h43 => ?_)
        · (first | replace h43 := of_decide_eq_true h43 | replace h43 := nd_true h43 | skip)
          refine Wc.seq (fun K6 hK6 => ?_)
          refine Wc.keep [] (.nil) ?_
          refine Wc.region ?_
          refine Wl.val rfl rfl rfl (Gives.assign rfl rfl) ?_
          refine Wl.nil ?_
          refine Wx.thenN (hK6 _ _ ?_)
          refine Wc.ret ?_
          refine Wx.thenR ?_
          refine Wx.ret [_] ⟨rfl, trivial⟩ ?_
          exact ⟨rfl, hE⟩
        · (first | replace h43 := of_decide_eq_false h43 | replace h43 := nd_false h43 | skip)
          refine Wc.skip ?_
          refine Wx.thenN (hK4 _ _ ?_)
          refine Wc.seq (fun K7 hK7 => ?_)
          refine Wc.keep [(0, _), (1, _), (2, _), (3, _), (4, _)] (.cons rfl (.cons rfl (.cons rfl (.cons rfl (.cons rfl (.nil)))))) ?_
          have hb : b = true := by simpa using h29
          obtain ⟨hn10, hx60⟩ := hfew hb
          obtain ⟨q1, q2, q3, q4, q5, q6, q7⟩ := chain_cut 0 (by omega) l first hx60 (by omega) (by omega)
          rw [hl] at q1 q2 q3 q4 q5 q6 q7
          refine Wc.region ?_
          refine Wl.does rfl rfl rfl (Does.lit rfl Tryd.underlying22 infoL2 rfl rfl rfl rfl rfl) ?_
          rintro _ w50 ⟨g50, rfl, hs50, hk50, hx50⟩
          have hzw := hE.size
          have hOw0 : w50.ownsRow w1.heap.size 23 1 (.slice (some ⟨g50, 0, none⟩) 0 0) 0 [] := hk50.own hs50 rfl rfl (by omega)
          obtain ⟨vs, hvr, hve⟩ := (ha.ext hE).bdP.ext hx50
          have hf1 := ((hf.ext hE).bd.ext hx50)
          replace hE := hE.trans hx50
          refine Wl.val rfl rfl rfl (Gives.move rfl rfl) ?_
          refine Wl.does rfl rfl rfl (Does.appQ n (by omega) rfl Tryd.underlying22 infoL rfl (by decide) rfl rfl hOw0 hvr hve.one (by omega) (by decide) (by have := hx50.size; omega)) ?_
          rintro _ w52 ⟨S1, k1, rfl, hOw1, hB52⟩
          have hve2 := hve.fr ((below_fr hB52).mono fun q hq => hq.2)
          have hf2 := hf1.fr ((below_fr hB52).mono fun q hq => hq.2)
          have hz52 := hB52.size
          replace hE := Ext.step hE hB52 (by omega)
          refine Wl.val rfl rfl rfl (Gives.move rfl rfl) ?_
          refine Wl.does rfl rfl rfl (Does.lit rfl Tryd.underlying22 infoL2 rfl rfl rfl rfl rfl) ?_
          rintro _ w54 ⟨g54, rfl, hs54, hk54, hx54⟩
          have hOw2 := own_ext hOw1 hx54
          have hve3 := hve2.fr hx54.fr
          have hf3 := hf2.ext hx54
          have hz54 := hx54.size
          have hz50 := hx50.size
          replace hE := hE.trans hx54
          have hr54 : Row w54 (fun _ => True) 1 (some ⟨g54, 0, none⟩) 1 1 [.slice F fm fc] := ⟨rfl, Nat.le_refl _, by simp [maxLen], fun _ => ⟨g54, 0, rfl, hk54.lt, trivial, fun i v hv => by rw [Nat.zero_add]; exact (hk54.cell i).trans (by simpa using hv)⟩⟩
          refine Wl.does rfl rfl rfl (Does.appQ (n + 1) rfl rfl Tryd.underlying22 infoL rfl (by decide) rfl rfl hOw2 hr54 (by simp [Value.oneCell']) (by omega) (by decide) (by omega)) ?_
          rintro _ w55 ⟨S3, k3, rfl, hOw3, hB55⟩
          have hBL : BL w55 (fun _ => True) S3 (n + 1) k3 (l ++ [first]) := ⟨_, Row.of_own hOw3 (fun _ _ => trivial), ((hve3.fr ((below_fr hB55).mono fun q hq => hq.2)).mono fun _ _ => trivial).snoc ((hf3.fr ((below_fr hB55).mono fun q hq => hq.2)).mono fun _ _ => trivial)⟩
          replace hE := Ext.step hE hB55 (by omega)
          refine Wl.call rfl rfl rfl rfl Tryd.func12 rfl (by kernel_rfl) rfl (chainJ _ S3 (n + 1) k3 (l ++ [first]) hBL (by omega) (fun x hx => by rcases List.mem_append.1 hx with h | h; { have := hx60 x h; omega }; { rw [List.mem_singleton.1 h]; omega }) 0 (by omega)) ?_
          rintro x2 w56 ⟨A1, c1, d1, rfl, H1, hb1, hx56⟩
          refine ⟨_, rfl, ?_⟩
          rw [← H1.out] at q1 q2 q3 q4 q5 q6 q7
          replace hE := hE.trans hx56
          refine Wl.val rfl rfl rfl (Gives.move rfl rfl) ?_
          refine Wl.val rfl rfl rfl (Gives.extract rfl rfl rfl) ?_
          refine Wl.val rfl rfl rfl (Gives.extract rfl rfl rfl) ?_
          refine Wl.does rfl rfl rfl (Does.alB (.agg #[(.slice none 0 0), (.int .i64 0), (.int .i64 0), (.int .i64 0), (.bool false)]) rfl (by kernel_rfl) rfl) ?_
          rintro _ w5_10 ⟨b11, rfl, hs11, hb11, hx5_10⟩
          have hg11 : w.heap.size ≤ b11 := Nat.le_trans hE.size hs11
          replace hE := hE.trans hx5_10
          refine Wl.acts rfl rfl (Does.stL 5 rfl rfl rfl hb11 (by kernel_rfl) rfl rfl rfl) ?_
          rintro _ w5_11 ⟨hbn, hF5_11⟩
          replace hE := Ext.over hE hF5_11 hg11
          replace hb11 := hbn
          clear hbn
          have hD : BL w5_11 (fun q => q ≠ b11) A1 6 c1 d1.areas := ((hb1.bdP.mono (P' := fun q => q ≠ b11) (fun q hq => by omega)).ext hx5_10).fr hF5_11
          refine Wl.val rfl rfl rfl (Gives.assign rfl rfl) ?_
          refine Wl.nil ?_
          refine Wx.thenN (hK7 _ _ ?_)
          refine Wc.seq (fun K8 hK8 => ?_)
          refine Wc.keep [(0, _), (2, _), (3, _), (4, _), (11, _)] (.cons rfl (.cons rfl (.cons rfl (.cons rfl (.cons rfl (.nil)))))) ?_
          refine Wc.region ?_
          refine Wl.val rfl rfl rfl (Gives.ldW rfl (by kernel_rfl) rfl hb11 (by kernel_rfl)) ?_
          refine Wl.val rfl rfl rfl (Gives.fieldAt 1 rfl Tryd.underlying28 rfl (by kernel_rfl) rfl rfl) ?_
          refine Wl.val rfl rfl rfl (Gives.ldK rfl (by kernel_rfl) rfl hb11 rfl) ?_
          refine Wl.val rfl rfl rfl (Gives.add rfl rfl rfl (by first | exact IntWalk.i64_in _ (by omega) | exact u64_in _ (by omega) | exact u32_in _ (by omega) | exact u8_in _ (by omega) | exact rfl)) ?_
          refine Wl.val rfl rfl rfl (Gives.move rfl rfl) ?_
          refine Wl.call rfl rfl rfl rfl Tryd.func26 rfl (by kernel_rfl) rfl (cutP_calls (fun _ => True) _ (Anew.top _) A1 6 c1 d1 (hD.mono fun _ _ => trivial) (d1.wr + 1) torn) ?_
          rintro x4 w75 ⟨A2, c2, d2, rfl, H2, hb2, hx75⟩
          refine ⟨_, rfl, ?_⟩
          have hL2 : Lens d2 200 := by { rw [H2.out]; exact q3 }
          have hw2 : d2.wr = ((n + 1 : Nat) : Int) := by { rw [H2.out]; exact q2 }
          replace hb11 := hb11.ext hx75
          replace hE := hE.trans hx75
          refine Wl.val rfl rfl rfl (Gives.move rfl rfl) ?_
          refine Wl.val rfl rfl rfl (Gives.lenS rfl Tryd.underlying22 rfl) ?_
          refine Wl.val rfl rfl rfl (Gives.add rfl rfl rfl (by first | exact IntWalk.i64_in _ (by omega) | exact u64_in _ (by omega) | exact u32_in _ (by omega) | exact u8_in _ (by omega) | exact rfl)) ?_
          refine Wl.val rfl rfl rfl (Gives.move rfl rfl) ?_
          refine Wl.call rfl rfl rfl rfl Tryd.func14 rfl (by kernel_rfl) rfl (commitP (fun _ => True) _ (hT.ext hE) (Anew.top _) A2 6 c2 d2 hb2 (by omega) D m dc p (hp.ext hE) (by omega) 0 ((n : Int) + 2) (by omega) (by omega) (fun x hx => by have := hL2 x hx; omega)) ?_
          rintro x5 w79 ⟨A3, c3, d3, e3, rfl, H3, hb3, hx79⟩
          refine ⟨_, rfl, ?_⟩
          have hd3 : d3 = commitS (cutDS d1 (d1.wr + 1) torn) ((0 : Nat) : Int) ((n + 1 + 1 : Nat) : Int) p := by { rw [← H2.out]; exact H3.out.1 }
          have hL3 : Lens d3 304 := by { rw [hd3]; have := cut_lens (torn := torn) (k := 0) (s := n + 1 + 1) (p := p) q1.on (by omega) (by omega) (by omega) (by omega) q3; exact fun x hx => by { have := this x hx; omega } }
          obtain ⟨f1, f2, f3, ⟨i, f4, f5, f8, _⟩, _⟩ := cut_S (payload := p) torn (by omega) (by omega) (by omega) (by omega) (by omega) q1 q4 q5
          replace hb11 := hb11.ext hx79
          replace hE := hE.trans hx79
          refine Wl.val rfl rfl rfl (Gives.move rfl rfl) ?_
          refine Wl.val rfl rfl rfl (Gives.extract rfl rfl rfl) ?_
          refine Wl.val rfl rfl rfl (Gives.extract rfl rfl rfl) ?_
          refine Wl.does rfl rfl rfl (Does.alB (.agg #[(.slice none 0 0), (.int .i64 0), (.int .i64 0), (.int .i64 0), (.bool false)]) rfl (by kernel_rfl) rfl) ?_
          rintro _ w6_14 ⟨b13, rfl, hs13, hb13, hx6_14⟩
          have hn11_13 : b11 ≠ b13 := hb11.ne hs13
          have hg13 : w.heap.size ≤ b13 := Nat.le_trans hE.size hs13
          replace hb11 := hb11.ext hx6_14
          replace hE := hE.trans hx6_14
          refine Wl.acts rfl rfl (Does.stL 5 rfl rfl rfl hb13 (by kernel_rfl) rfl rfl rfl) ?_
          rintro _ w6_15 ⟨hbn, hF6_15⟩
          replace hb11 := hb11.fr hF6_15 (by first | assumption | exact Ne.symm (by assumption))
          replace hE := Ext.over hE hF6_15 hg13
          replace hb13 := hbn
          clear hbn
          have hD3 : BL w6_15 (fun _ => True) A3 6 c3 d3.areas := (((hb3.bdP.mono (P' := fun q => q ≠ b13) (fun q hq => by omega)).ext hx6_14).fr hF6_15).mono fun _ _ => trivial
          refine Wl.val rfl rfl rfl (Gives.assign rfl rfl) ?_
          refine Wl.nil ?_
          refine Wx.thenN (hK8 _ _ ?_)
          refine Wc.seq (fun K9 hK9 => ?_)
          refine Wc.keep [(3, _), (13, _)] (.cons rfl (.cons rfl (.nil))) ?_
          refine Wc.region ?_
          refine Wl.val rfl rfl rfl (Gives.ldW rfl (by kernel_rfl) rfl hb13 (by kernel_rfl)) ?_
          refine Wl.call rfl rfl rfl rfl Tryd.func27 rfl (by kernel_rfl) rfl (restartP_calls (fun _ => True) _ (Anew.top _) A3 6 c3 d3 hD3) ?_
          rintro x6 w81 ⟨A4, c4, d4, rfl, H4, hb4, hx81⟩
          refine ⟨_, rfl, ?_⟩
          have hL4 : Lens d4 304 := by { rw [H4.out]; exact hL3 }
          have hd4 : d4 = cutY d1 0 (n + 1 + 1) p torn := by { rw [H4.out, hd3]; rfl }
          have hw4 : d4.wr = 0 := by { rw [H4.out]; rfl }
          rw [← hd4] at f3 f4 f5
          replace hb11 := hb11.ext hx81
          replace hb13 := hb13.ext hx81
          replace hE := hE.trans hx81
          refine Wl.does rfl rfl rfl (Does.alB (.agg #[(.slice none 0 0), (.int .i64 0), (.int .i64 0), (.int .i64 0), (.bool false)]) rfl (by kernel_rfl) rfl) ?_
          rintro _ w7_2 ⟨b15, rfl, hs15, hb15, hx7_2⟩
          have hn11_15 : b11 ≠ b15 := hb11.ne hs15
          have hn13_15 : b13 ≠ b15 := hb13.ne hs15
          have hg15 : w.heap.size ≤ b15 := Nat.le_trans hE.size hs15
          replace hb11 := hb11.ext hx7_2
          replace hb13 := hb13.ext hx7_2
          replace hE := hE.trans hx7_2
          refine Wl.acts rfl rfl (Does.stL 5 rfl rfl rfl hb15 (by kernel_rfl) rfl rfl rfl) ?_
          rintro _ w7_3 ⟨hbn, hF7_3⟩
          replace hb11 := hb11.fr hF7_3 (by first | assumption | exact Ne.symm (by assumption))
          replace hb13 := hb13.fr hF7_3 (by first | assumption | exact Ne.symm (by assumption))
          replace hE := Ext.over hE hF7_3 hg15
          replace hb15 := hbn
          clear hbn
          have hD4 : BL w7_3 (fun _ => True) A4 6 c4 d4.areas := (((hb4.bdP.mono (P' := fun q => q ≠ b15) (fun q hq => by omega)).ext hx7_2).fr hF7_3).mono fun _ _ => trivial
          refine Wl.nil ?_
          refine Wx.thenN (hK9 _ _ ?_)
          refine Wc.seq (fun K10 hK10 => ?_)
          refine Wc.keep [(3, _), (15, _)] (.cons rfl (.cons rfl (.nil))) ?_
          refine Wc.region ?_
          refine Wl.val rfl rfl rfl (Gives.ldW rfl (by kernel_rfl) rfl hb15 (by kernel_rfl)) ?_
          refine Wl.call rfl rfl rfl rfl Tryd.func20 rfl (by kernel_rfl) rfl (recoverP _ (hT.ext hE) A4 6 c4 d4 hD4 (by omega) (fun x hx => by have := hL4 x hx; omega) 0) ?_
          rintro x7 w82 ⟨S6, m6, k6, rfl, hO6, hx82⟩
          refine ⟨_, rfl, ?_⟩
          replace hD4 := hD4.ext hx82
          replace hb11 := hb11.ext hx82
          replace hb13 := hb13.ext hx82
          replace hb15 := hb15.ext hx82
          replace hE := hE.trans hx82
          refine Wl.val rfl rfl rfl (Gives.move rfl rfl) ?_
          refine Wl.val rfl rfl rfl (Gives.extract rfl rfl rfl) ?_
          refine Wl.val rfl rfl rfl (Gives.extract rfl rfl rfl) ?_
          refine Wl.val rfl rfl rfl (Gives.extract rfl rfl rfl) ?_
          refine Wl.val rfl rfl rfl (Gives.assign rfl rfl) ?_
          refine Wl.val rfl rfl rfl (Gives.assign rfl rfl) ?_
          refine Wl.val rfl rfl rfl (Gives.assign rfl rfl) ?_
          refine Wl.nil ?_
          refine Wx.thenN (hK10 _ _ ?_)
          refine Wc.seq (fun K11 hK11 => ?_)
          refine Wc.keep [(3, _), (15, _), (17, _), (18, _)] (.cons rfl (.cons rfl (.cons rfl (.cons rfl (.nil))))) ?_
          have f3' : recoverE d4 0 = 0 := f3
          have f4' : (recoverJ d4 0).s = i := f4
          clear f4 hO6
          generalize recoverJ d4 0 = jr at *
          obtain ⟨s1, s2, s3, s4⟩ := f5.step (by omega) (p := other) (by omega) (by omega)
          have e1 : ((i + 1 : Nat) : Int) = jr.s + 1 := by rw [f4']; rfl
          have hL5 := hL4.commit f5.on (k := 0) (s := i + 1) (by omega) (p := other) (by omega) (by omega) (by omega) (by omega)
          refine Wc.region ?_
          refine Wl.val rfl rfl rfl (Gives.ldW rfl (by kernel_rfl) rfl hb15 (by kernel_rfl)) ?_
          refine Wl.val rfl rfl rfl (Gives.move rfl rfl) ?_
          refine Wl.val rfl rfl rfl (Gives.add rfl rfl rfl (by first | exact IntWalk.i64_in _ (by omega) | exact u64_in _ (by omega) | exact u32_in _ (by omega) | exact u8_in _ (by omega) | exact rfl)) ?_
          refine Wl.val rfl rfl rfl (Gives.move rfl rfl) ?_
          refine Wl.call rfl rfl rfl rfl Tryd.func14 rfl (by kernel_rfl) rfl (commitP (fun _ => True) _ (hT.ext hE) (Anew.top _) A4 6 c4 d4 hD4 (by omega) G gm gc other (hg.ext hE) (by omega) 0 (jr.s + 1) (by omega) (by omega) (fun x hx => by have := hL4 x hx; omega)) ?_
          rintro x8 w94 ⟨A5, c5, d5, e5, rfl, H5, hb5, hx94⟩
          refine ⟨_, rfl, ?_⟩
          have hd5 : d5 = commitS d4 ((0 : Nat) : Int) ((i + 1 : Nat) : Int) other := by { rw [e1]; exact H5.out.1 }
          obtain rfl : e5 = 0 := by { rw [e1] at s1; exact H5.out.2.trans s1 }
          rw [← hd5] at s2 s3 s4 hL5
          replace hb11 := hb11.ext hx94
          replace hb13 := hb13.ext hx94
          replace hb15 := hb15.ext hx94
          replace hE := hE.trans hx94
          refine Wl.val rfl rfl rfl (Gives.move rfl rfl) ?_
          refine Wl.val rfl rfl rfl (Gives.extract rfl rfl rfl) ?_
          refine Wl.val rfl rfl rfl (Gives.extract rfl rfl rfl) ?_
          refine Wl.does rfl rfl rfl (Does.alB (.agg #[(.slice none 0 0), (.int .i64 0), (.int .i64 0), (.int .i64 0), (.bool false)]) rfl (by kernel_rfl) rfl) ?_
          rintro _ w9_8 ⟨b19, rfl, hs19, hb19, hx9_8⟩
          have hn11_19 : b11 ≠ b19 := hb11.ne hs19
          have hn13_19 : b13 ≠ b19 := hb13.ne hs19
          have hn15_19 : b15 ≠ b19 := hb15.ne hs19
          have hg19 : w.heap.size ≤ b19 := Nat.le_trans hE.size hs19
          replace hb11 := hb11.ext hx9_8
          replace hb13 := hb13.ext hx9_8
          replace hb15 := hb15.ext hx9_8
          replace hE := hE.trans hx9_8
          refine Wl.acts rfl rfl (Does.stL 5 rfl rfl rfl hb19 (by kernel_rfl) rfl rfl rfl) ?_
          rintro _ w9_9 ⟨hbn, hF9_9⟩
          replace hb11 := hb11.fr hF9_9 (by first | assumption | exact Ne.symm (by assumption))
          replace hb13 := hb13.fr hF9_9 (by first | assumption | exact Ne.symm (by assumption))
          replace hb15 := hb15.fr hF9_9 (by first | assumption | exact Ne.symm (by assumption))
          replace hE := Ext.over hE hF9_9 hg19
          replace hb19 := hbn
          clear hbn
          have hD5 : BL w9_9 (fun _ => True) A5 6 c5 d5.areas := (((hb5.bdP.mono (P' := fun q => q ≠ b19) (fun q hq => by omega)).ext hx9_8).fr hF9_9).mono fun _ _ => trivial
          refine Wl.val rfl rfl rfl (Gives.assign rfl rfl) ?_
          refine Wl.nil ?_
          refine Wx.thenN (hK11 _ _ ?_)
          refine Wc.seq (fun K12 hK12 => ?_)
          refine Wc.keep [(3, _), (17, _), (18, _), (19, _), (20, _)] (.cons rfl (.cons rfl (.cons rfl (.cons rfl (.cons rfl (.nil)))))) ?_
          refine Wc.region ?_
          refine Wl.val rfl rfl rfl (Gives.ldW rfl (by kernel_rfl) rfl hb19 (by kernel_rfl)) ?_
          refine Wl.call rfl rfl rfl rfl Tryd.func20 rfl (by kernel_rfl) rfl (recoverP _ (hT.ext hE) A5 6 c5 d5 hD5 (by omega) (fun x hx => by have := hL5 x hx; omega) 0) ?_
          rintro x9 w101 ⟨S7, m7, k7, rfl, hO7, hx101⟩
          refine ⟨_, rfl, ?_⟩
          have hB7 : BV w101 (fun _ => True) S7 m7 k7 (recoverJ d5 0).p := hO7.bv fun _ _ => trivial
          replace hb11 := hb11.ext hx101
          replace hb13 := hb13.ext hx101
          replace hb15 := hb15.ext hx101
          replace hb19 := hb19.ext hx101
          replace hE := hE.trans hx101
          refine Wl.val rfl rfl rfl (Gives.move rfl rfl) ?_
          refine Wl.val rfl rfl rfl (Gives.extract rfl rfl rfl) ?_
          refine Wl.val rfl rfl rfl (Gives.extract rfl rfl rfl) ?_
          refine Wl.val rfl rfl rfl (Gives.extract rfl rfl rfl) ?_
          refine Wl.val rfl rfl rfl (Gives.assign rfl rfl) ?_
          refine Wl.val rfl rfl rfl (Gives.assign rfl rfl) ?_
          refine Wl.val rfl rfl rfl (Gives.assign rfl rfl) ?_
          refine Wl.nil ?_
          refine Wx.thenN (hK12 _ _ ?_)
          refine Wc.seq (fun K13 hK13 => ?_)
          refine Wc.keep [(3, _), (17, _), (18, _), (20, _), (21, _), (22, _), (23, _)] (.cons rfl (.cons rfl (.cons rfl (.cons rfl (.cons rfl (.cons rfl (.cons rfl (.nil)))))))) ?_
          have s3' : recoverE d5 0 = 0 := s3
          have s4' : recoverJ d5 0 = ⟨other, ((i + 1 : Nat) : Int), true⟩ := s4
          rw [s4'] at hB7
          refine Wc.region ?_
          refine Wl.val rfl rfl rfl (Gives.move rfl rfl) ?_
          refine Wl.val rfl rfl rfl (Gives.eql rfl rfl rfl) ?_
          refine Wl.val rfl rfl rfl (Gives.move rfl rfl) ?_
          refine Wl.guardT rfl rfl rfl (by rw [f3']; rfl) ?_
          refine Wl.val rfl rfl rfl (Gives.move rfl rfl) ?_
          refine Wl.val rfl rfl rfl (Gives.eql rfl rfl rfl) ?_
          refine Wl.val rfl rfl rfl (Gives.pickT rfl rfl rfl rfl) ?_
          refine Wl.val rfl rfl rfl (Gives.move rfl rfl) ?_
          refine Wl.guardT rfl rfl rfl rfl ?_
          refine Wl.val rfl rfl rfl (Gives.move rfl rfl) ?_
          refine Wl.val rfl rfl rfl (Gives.eql rfl rfl rfl) ?_
          refine Wl.val rfl rfl rfl (Gives.pickT rfl rfl rfl rfl) ?_
          refine Wl.val rfl rfl rfl (Gives.move rfl rfl) ?_
          refine Wl.guardT rfl rfl rfl (by rw [s3']; rfl) ?_
          refine Wl.val rfl rfl rfl (Gives.move rfl rfl) ?_
          refine Wl.val rfl rfl rfl (Gives.move rfl rfl) ?_
          refine Wl.val rfl rfl rfl (Gives.add rfl rfl rfl (by first | exact IntWalk.i64_in _ (by omega) | exact u64_in _ (by omega) | exact u32_in _ (by omega) | exact u8_in _ (by omega) | exact rfl)) ?_
          refine Wl.val rfl rfl rfl (Gives.eql rfl rfl rfl) ?_
          refine Wl.val rfl rfl rfl (Gives.pickT rfl rfl rfl rfl) ?_
          refine Wl.val rfl rfl rfl (Gives.move rfl rfl) ?_
          refine Wl.guardT rfl rfl rfl (by rw [s4', ← e1]; simp) ?_
          refine Wl.val rfl rfl rfl (Gives.move rfl rfl) ?_
          refine Wl.val rfl rfl rfl (Gives.move rfl rfl) ?_
          refine Wl.call rfl rfl rfl rfl Tryd.func22 rfl (by kernel_rfl) rfl (same_calls _ _ _ _ _ _ _ _ _ hB7 (hg.ext hE)) ?_
          rintro x8 w119 ⟨rfl, hq119⟩
          refine ⟨_, rfl, ?_⟩
          replace hb11 := hb11.ext hq119.ext
          replace hb13 := hb13.ext hq119.ext
          replace hb15 := hb15.ext hq119.ext
          replace hb19 := hb19.ext hq119.ext
          replace hE := hE.trans hq119.ext
          refine Wl.val rfl rfl rfl (Gives.pickT rfl rfl rfl rfl) ?_
          refine Wl.val rfl rfl rfl (Gives.assign rfl rfl) ?_
          refine Wl.nil ?_
          refine Wx.thenN (hK13 _ _ ?_)
          refine Wc.ret ?_
          refine Wx.ret [_] ⟨rfl, trivial⟩ ?_
          exact ⟨ret_bool (by simp), hE⟩
      · (first | replace h39 := of_decide_eq_true h39 | replace h39 := nd_true h39 | skip)
        refine Wl.pass rfl rfl rfl ?_
        refine Wl.pass rfl rfl rfl ?_
        refine Wl.pass rfl rfl rfl ?_
        refine Wl.val rfl rfl rfl (Gives.pickT rfl rfl rfl rfl) ?_
        refine Wl.nil ?_
        refine Wx.thenN (hK5 _ _ ?_)
        refine Wc.condT rfl rfl ?_
        refine Wc.seq (fun K14 hK14 => ?_)
        refine Wc.keep [] (.nil) ?_
        refine Wc.region ?_
        refine Wl.val rfl rfl rfl (Gives.assign rfl rfl) ?_
        refine Wl.nil ?_
        refine Wx.thenN (hK14 _ _ ?_)
        refine Wc.ret ?_
        refine Wx.thenR ?_
        refine Wx.ret [_] ⟨rfl, trivial⟩ ?_
        exact ⟨ret_bool (by simp), hE⟩
    · (first | replace h34 := of_decide_eq_true h34 | replace h34 := nd_true h34 | skip)
      refine Wl.pass rfl rfl rfl ?_
      refine Wl.pass rfl rfl rfl ?_
      refine Wl.pass rfl rfl rfl ?_
      refine Wl.val rfl rfl rfl (Gives.pickT rfl rfl rfl rfl) ?_
      refine Wl.val rfl rfl rfl (Gives.move rfl rfl) ?_
      refine Wl.guardF rfl rfl rfl rfl ?_
      refine Wl.pass rfl rfl rfl ?_
      refine Wl.pass rfl rfl rfl ?_
      refine Wl.pass rfl rfl rfl ?_
      refine Wl.val rfl rfl rfl (Gives.pickT rfl rfl rfl rfl) ?_
      refine Wl.nil ?_
      refine Wx.thenN (hK5 _ _ ?_)
      refine Wc.condT rfl rfl ?_
      refine Wc.seq (fun K15 hK15 => ?_)
      refine Wc.keep [] (.nil) ?_
      refine Wc.region ?_
      refine Wl.val rfl rfl rfl (Gives.assign rfl rfl) ?_
      refine Wl.nil ?_
      refine Wx.thenN (hK15 _ _ ?_)
      refine Wc.ret ?_
      refine Wx.thenR ?_
      refine Wx.ret [_] ⟨rfl, trivial⟩ ?_
      exact ⟨ret_bool (by simp), hE⟩
  · (first | replace h29 := of_decide_eq_true h29 | replace h29 := nd_true h29 | skip)
    refine Wl.pass rfl rfl rfl ?_
    refine Wl.pass rfl rfl rfl ?_
    refine Wl.pass rfl rfl rfl ?_
    refine Wl.val rfl rfl rfl (Gives.pickT rfl rfl rfl rfl) ?_
    refine Wl.val rfl rfl rfl (Gives.move rfl rfl) ?_
    refine Wl.guardF rfl rfl rfl rfl ?_
    refine Wl.pass rfl rfl rfl ?_
    refine Wl.pass rfl rfl rfl ?_
    refine Wl.pass rfl rfl rfl ?_
    refine Wl.val rfl rfl rfl (Gives.pickT rfl rfl rfl rfl) ?_
    refine Wl.val rfl rfl rfl (Gives.move rfl rfl) ?_
    refine Wl.guardF rfl rfl rfl rfl ?_
    refine Wl.pass rfl rfl rfl ?_
    refine Wl.pass rfl rfl rfl ?_
    refine Wl.pass rfl rfl rfl ?_
    refine Wl.val rfl rfl rfl (Gives.pickT rfl rfl rfl rfl) ?_
    refine Wl.nil ?_
    refine Wx.thenN (hK5 _ _ ?_)
    refine Wc.condT rfl rfl ?_
    refine Wc.seq (fun K16 hK16 => ?_)
    refine Wc.keep [] (.nil) ?_
    refine Wc.region ?_
    refine Wl.val rfl rfl rfl (Gives.assign rfl rfl) ?_
    refine Wl.nil ?_
    refine Wx.thenN (hK16 _ _ ?_)
    refine Wc.ret ?_
    refine Wx.thenR ?_
    refine Wx.ret [_] ⟨rfl, trivial⟩ ?_
    exact ⟨ret_bool (by simp), hE⟩
end Go.Proofs.YtbbeoojlgfegjaaDoor
