/- ChainCheck: the walk. -/
import Derived.Test.YteppchoeiflnhaaDoorImgX
namespace Go.Proofs.YteppchoeiflnhaaDoor
set_option linter.all false
set_option maxRecDepth 20000
open Go.RowKit
set_option maxRecDepth 20000 in
set_option maxHeartbeats 4000000 in
theorem chainCheck_walk {P P' P'' : Nat → Prop} (w : World) (hTM : Tab w ∧ TabM w) (A : Option Addr) (n c : Nat) (l : List Im) (hl : SL Rp.img w P'' A n c l) (r v : Int) (nm : List UInt8) (B : Option Addr) (bn bc : Nat) (pay : List UInt8) (hp : BV w P B bn bc pay) (C : Option Addr) (cn cc : Nat) (codes : List UInt8) (hc : BV w P' C cn cc codes) (edit at' other : Int) :
    Calls Tryd.prog 9 #[.slice A n c, .agg #[.int .i64 r, txt nm, .int .i64 v, .slice B bn bc], .slice C cn cc, .int .i64 edit, .int .i64 at', .int .i64 other] w fun e w' => e = .returned (.bool true) ∧ Ext w w' := by
  obtain ⟨hT, hM⟩ := hTM
  have hle := hl.le
  have hln := hl.len
  have hple := hp.le
  have hpq := (hp.cutS 300).bd
  refine calls_enter Tryd.func9 rfl Tryd.ntmps9 rfl ?_
  have hE : Ext w w := Ext.refl w
  refine Wc.seq (fun K1 hK1 => ?_)
  refine Wc.keep [(0, _), (1, _), (2, _), (3, _), (4, _), (5, _)] (.cons rfl (.cons rfl (.cons rfl (.cons rfl (.cons rfl (.cons rfl (.nil))))))) ?_
  refine Wc.region ?_
  refine Wl.does rfl rfl rfl (Does.boxA rfl rfl) ?_
  rintro _ w0_0 ⟨b7, rfl, hs7, hb7, hx0_0⟩
  have hg7 : w.heap.size ≤ b7 := Nat.le_trans hE.size hs7
  replace hE := hE.trans hx0_0
  refine Wl.val rfl rfl rfl (Gives.assign rfl rfl) ?_
  refine Wl.nil ?_
  refine Wx.thenN (hK1 _ _ ?_)
  refine Wc.seq (fun K2 hK2 => ?_)
  refine Wc.seq (fun K3 hK3 => ?_)
  refine Wc.keep [(0, _), (2, _), (3, _), (4, _), (5, _), (7, _)] (.cons rfl (.cons rfl (.cons rfl (.cons rfl (.cons rfl (.cons rfl (.nil))))))) ?_
  refine Wc.region ?_
  refine Wl.call rfl rfl rfl rfl Tryd.func13 rfl (by kernel_rfl) rfl (awakeI _ (hT.ext hE) (hM.ext hE)) ?_
  rintro x0 w0 ⟨rfl, hx0⟩
  refine ⟨_, rfl, ?_⟩
  replace hb7 := hb7.ext hx0
  replace hE := hE.trans hx0
  refine Wl.val rfl rfl rfl (Gives.not rfl rfl) ?_
  refine Wl.nil ?_
  refine Wx.thenN (hK3 _ _ ?_)
  refine Wc.condF rfl rfl ?_
  refine Wc.skip ?_
  refine Wx.thenN (hK2 _ _ ?_)
  refine Wc.joinC (ι := Nat) [(2, _), (3, _), (4, _), (5, _), (7, _)] (fun q => [(0, .slice A q c)]) (fun q wr => SL Rp.img w P'' A q c (l.take q) ∧ Blk wr b7 26 #[.int .i64 r, txt nm, .int .i64 v, .slice B bn bc] ∧ Ext w wr) ?_ ?_ (.cons rfl (.cons rfl (.cons rfl (.cons rfl (.cons rfl (.nil))))))
  · intro K4 hJ4
    refine Wc.seq (fun K5 hK5 => ?_)
    refine Wc.keep [(0, _), (2, _), (3, _), (4, _), (5, _), (7, _)] (.cons rfl (.cons rfl (.cons rfl (.cons rfl (.cons rfl (.cons rfl (.nil))))))) ?_
    refine Wc.region ?_
    refine Wl.val rfl rfl rfl (Gives.move rfl rfl) ?_
    refine Wl.val rfl rfl rfl (Gives.lenS rfl Tryd.underlying52 rfl) ?_
    refine Wl.val rfl rfl rfl (Gives.gtr rfl rfl rfl) ?_
    refine Wl.nil ?_
    refine Wx.thenN (hK5 _ _ ?_)
    refine Wc.cond _ rfl (fun h20 => ?_) (fun h20 => ?_)
    · (first | replace h20 := of_decide_eq_true h20 | replace h20 := nd_true h20 | skip)
      refine Wc.keep [(0, _), (2, _), (3, _), (4, _), (5, _), (7, _)] (.cons rfl (.cons rfl (.cons rfl (.cons rfl (.cons rfl (.cons rfl (.nil))))))) ?_
      refine Wc.region ?_
      refine Wl.val rfl rfl rfl (Gives.move rfl rfl) ?_
      refine Wl.val rfl rfl rfl (Gives.cutHiZ 12 rfl Tryd.underlying52 (by kernel_rfl) rfl rfl rfl (by omega)) ?_
      refine Wl.val rfl rfl rfl (Gives.assign rfl rfl) ?_
      refine Wl.nil ?_
      refine Wx.thenN ?_
      first | exact hJ4 12 _ _ (.cons (by first | exact rfl | exact look_int rfl (by omega) | exact look_slice rfl (by omega)) (.cons rfl (.cons rfl (.cons rfl (.cons rfl (.cons rfl (.nil))))))) ⟨hl.take (by omega), hb7, hE⟩ | exact hJ4 n _ _ (.cons (by first | exact rfl | exact look_int rfl (by omega) | exact look_slice rfl (by omega)) (.cons rfl (.cons rfl (.cons rfl (.cons rfl (.cons rfl (.nil))))))) ⟨hl.take (by omega), hb7, hE⟩
    · (first | replace h20 := of_decide_eq_false h20 | replace h20 := nd_false h20 | skip)
      refine Wc.skip ?_
      refine Wx.thenN ?_
      first | exact hJ4 12 _ _ (.cons (by first | exact rfl | exact look_int rfl (by omega) | exact look_slice rfl (by omega)) (.cons rfl (.cons rfl (.cons rfl (.cons rfl (.cons rfl (.nil))))))) ⟨hl.take (by omega), hb7, hE⟩ | exact hJ4 n _ _ (.cons (by first | exact rfl | exact look_int rfl (by omega) | exact look_slice rfl (by omega)) (.cons rfl (.cons rfl (.cons rfl (.cons rfl (.cons rfl (.nil))))))) ⟨hl.take (by omega), hb7, hE⟩
  intro q wj hJ
  clear hE hb7
  obtain ⟨hq, hb7, hE⟩ := hJ
  generalize l.take q = lq at *
  have hqn := hq.len
  refine Wc.seq (fun K6 hK6 => ?_)
  refine Wc.keep [(0, _), (2, _), (3, _), (4, _), (5, _), (7, _)] (.cons rfl (.cons rfl (.cons rfl (.cons rfl (.cons rfl (.cons rfl (.nil))))))) ?_
  refine Wc.region ?_
  refine Wl.val rfl rfl rfl (Gives.move rfl rfl) ?_
  refine Wl.call rfl rfl rfl rfl Tryd.func36 rfl (by kernel_rfl) rfl (drawChain _ C cn cc codes (hc.ext hE)) ?_
  rintro x1 w51 ⟨S1, m1, k1, l1, rfl, hI1, hce1, hx51⟩
  refine ⟨_, rfl, ?_⟩
  have hz5 := hE.size
  have hz7 := hb7.lt
  replace hb7 := hb7.ext hx51
  replace hE := hE.trans hx51
  refine Wl.val rfl rfl rfl (Gives.assign rfl rfl) ?_
  refine Wl.nil ?_
  refine Wx.thenN (hK6 _ _ ?_)
  refine Wc.seq (fun K7 hK7 => ?_)
  refine Wc.seq (fun K8 hK8 => ?_)
  refine Wc.keep [(0, _), (3, _), (4, _), (5, _), (7, _), (13, _)] (.cons rfl (.cons rfl (.cons rfl (.cons rfl (.cons rfl (.cons rfl (.nil))))))) ?_
  refine Wc.region ?_
  refine Wl.val rfl rfl rfl (Gives.move rfl rfl) ?_
  refine Wl.call rfl rfl rfl rfl Tryd.func37 rfl (by kernel_rfl) rfl (chainP _ A q c lq (hq.ext hE)) ?_
  rintro x2 w61 ⟨rfl, hx61⟩
  refine ⟨_, rfl, ?_⟩
  replace hI1 := hI1.ext hx61
  replace hb7 := hb7.ext hx61
  replace hE := hE.trans hx61
  refine Wl.val rfl rfl rfl (Gives.move rfl rfl) ?_
  refine Wl.call rfl rfl rfl rfl Tryd.func38 rfl (by kernel_rfl) rfl (chainR _ A q c lq (hq.ext hE)) ?_
  rintro x3 w63 ⟨rfl, hx63⟩
  refine ⟨_, rfl, ?_⟩
  replace hI1 := hI1.ext hx63
  replace hb7 := hb7.ext hx63
  replace hE := hE.trans hx63
  refine Wl.val rfl rfl rfl (Gives.neq rfl rfl rfl) ?_
  refine Wl.val rfl rfl rfl (Gives.move rfl rfl) ?_
  refine Wl.guardT rfl rfl rfl (by simp) ?_
  refine Wl.val rfl rfl rfl (Gives.move rfl rfl) ?_
  refine Wl.call rfl rfl rfl rfl Tryd.func37 rfl (by kernel_rfl) rfl (chainP _ S1 m1 k1 l1 (hI1.sl (P := fun _ => True) fun _ _ => trivial)) ?_
  rintro x4 w67 ⟨rfl, hx67⟩
  refine ⟨_, rfl, ?_⟩
  replace hI1 := hI1.ext hx67
  replace hb7 := hb7.ext hx67
  replace hE := hE.trans hx67
  refine Wl.val rfl rfl rfl (Gives.neq rfl rfl rfl) ?_
  refine Wl.val rfl rfl rfl (Gives.pickF rfl rfl rfl rfl) ?_
  refine Wl.nil ?_
  refine Wx.thenN (hK8 _ _ ?_)
  refine Wc.condF rfl (by first | rfl | (rw [hce1]; rfl)) ?_
  refine Wc.skip ?_
  refine Wx.thenN (hK7 _ _ ?_)
  refine Wc.seq (fun K9 hK9 => ?_)
  refine Wc.keep [(3, _), (4, _), (5, _), (7, _), (13, _)] (.cons rfl (.cons rfl (.cons rfl (.cons rfl (.cons rfl (.nil)))))) ?_
  have hm1 := hI1.len
  have hm18 := (chain_ok hce1).1
  obtain ⟨g, rfl, hgb, hgl⟩ := hI1.head (by omega)
  have hgw : w.heap.size ≤ g := by omega
  have hn7g : b7 ≠ g := by omega
  have hIg := hI1.g
  refine Wc.region ?_
  refine Wl.val rfl rfl rfl (Gives.move rfl rfl) ?_
  refine Wl.val rfl rfl rfl (Gives.move rfl rfl) ?_
  refine Wl.val rfl rfl rfl (Gives.lenS rfl Tryd.underlying52 rfl) ?_
  refine Wl.call rfl rfl rfl rfl Tryd.func20 rfl (by kernel_rfl) rfl (mod_calls _ at' ((m1 : Nat) : Int) (by omega) (by omega)) ?_
  rintro x5 w83 ⟨rfl, rfl⟩
  refine ⟨_, rfl, ?_⟩
  have h830 := Int.emod_nonneg at' (show ((m1 : Nat) : Int) ≠ 0 by omega)
  have h831 := Int.emod_lt_of_pos at' (show (0 : Int) < ((m1 : Nat) : Int) by omega)
  generalize at' % ((m1 : Nat) : Int) = aj at *
  obtain ⟨j, rfl⟩ := Int.eq_ofNat_of_zero_le h830
  refine Wl.val rfl rfl rfl (Gives.move rfl rfl) ?_
  refine Wl.val rfl rfl rfl (Gives.move rfl rfl) ?_
  refine Wl.val rfl rfl rfl (Gives.lenS rfl Tryd.underlying52 rfl) ?_
  refine Wl.call rfl rfl rfl rfl Tryd.func20 rfl (by kernel_rfl) rfl (mod_calls _ other ((m1 : Nat) : Int) (by omega) (by omega)) ?_
  rintro x6 w87 ⟨rfl, rfl⟩
  refine ⟨_, rfl, ?_⟩
  have h870 := Int.emod_nonneg other (show ((m1 : Nat) : Int) ≠ 0 by omega)
  have h871 := Int.emod_lt_of_pos other (show (0 : Int) < ((m1 : Nat) : Int) by omega)
  generalize other % ((m1 : Nat) : Int) = aj2 at *
  obtain ⟨j2, rfl⟩ := Int.eq_ofNat_of_zero_le h870
  refine Wl.val rfl rfl rfl (Gives.assign rfl rfl) ?_
  refine Wl.val rfl rfl rfl (Gives.assign rfl rfl) ?_
  refine Wl.nil ?_
  refine Wx.thenN (hK9 _ _ ?_)
  refine Wc.joinC (ι := (Option Addr × Nat × Nat) × List Im) [] (fun | ((S, m, k), _) => [(13, .slice S m k)]) (fun | ((S, m, k), l), wr => SL Rp.img wr (fun _ => True) S m k l ∧ Ext w wr) ?_ ?_ (.nil)
  · intro K10 hJ10
    refine Wc.seq (fun K11 hK11 => ?_)
    refine Wc.keep [(3, _), (7, _), (13, _), (14, _), (15, _)] (.cons rfl (.cons rfl (.cons rfl (.cons rfl (.cons rfl (.nil)))))) ?_
    refine Wc.region ?_
    refine Wl.val rfl rfl rfl (Gives.move rfl rfl) ?_
    refine Wl.call rfl rfl rfl rfl Tryd.func20 rfl (by kernel_rfl) rfl (mod_calls _ edit 5 (by omega) (by omega)) ?_
    rintro x7 w91 ⟨rfl, rfl⟩
    refine ⟨_, rfl, ?_⟩
    refine Wl.nil ?_
    refine Wx.thenN (hK11 _ _ ?_)
    refine Wc.block ?_
    refine Wc.seq (fun K12 hK12 => ?_)
    refine Wc.keep [(7, _), (13, _), (14, _), (15, _), (44, _)] (.cons rfl (.cons rfl (.cons rfl (.cons rfl (.cons rfl (.nil)))))) ?_
    refine Wc.region ?_
    refine Wl.val rfl rfl rfl (Gives.eql rfl rfl rfl) ?_
    refine Wl.val rfl rfl rfl (Gives.assign rfl rfl) ?_
    refine Wl.nil ?_
    refine Wx.thenN (hK12 _ _ ?_)
    refine Wc.cond _ rfl (fun h54 => ?_) (fun h54 => ?_)
    · (first | replace h54 := of_decide_eq_true h54 | replace h54 := nd_true h54 | skip)
      refine Wc.keep [(7, _), (13, _), (14, _)] (.cons rfl (.cons rfl (.cons rfl (.nil)))) ?_
      refine Wc.region ?_
      refine Wl.val rfl rfl rfl (Gives.move rfl rfl) ?_
      refine Wl.val rfl rfl rfl (Gives.move rfl rfl) ?_
      refine Wl.val rfl rfl rfl (Gives.ldW rfl (by kernel_rfl) rfl hb7 (by kernel_rfl)) ?_
      refine Wl.call rfl rfl rfl rfl Tryd.func21 rfl (by kernel_rfl) rfl (fewI _ r v nm B bn bc hple) ?_
      rintro x8 w123 ⟨nm', rfl, hnm', hx123⟩
      refine ⟨_, rfl, ?_⟩
      replace hIg := hIg.ext hx123
      replace hb7 := hb7.ext hx123
      replace hE := hE.trans hx123
      refine Wl.val rfl rfl rfl (Gives.ixSZ (i := j) (sz := 4) rfl Tryd.underlying52 (by kernel_rfl) rfl rfl rfl (by omega)) ?_
      refine Wl.acts rfl rfl (Does.stIOg (j := j) (xi := ⟨r, nm', v, pay.take 300⟩) rfl rfl rfl hIg ((hpq.mono fun q hq => by omega).ext hE) (by kernel_rfl) (by omega)) ?_
      rintro _ w125 ⟨hI2, hF125⟩
      replace hE := Ext.over hE hF125 hgw
      refine Wl.nil ?_
      refine Wx.blockN ?_
      refine Wx.thenN ?_
      first | exact hJ10 ((_, _, _), _) _ _ (.cons (by first | exact rfl | exact look_int rfl (by omega) | exact look_slice rfl (by omega)) (.nil)) ⟨hO3.sl, hE⟩ | exact hJ10 ((some ⟨g, 0, none⟩, m1, k1), _) _ _ (.cons (by first | exact rfl | exact look_int rfl (by omega) | exact look_slice rfl (by omega)) (.nil)) ⟨hI3.sl, hE⟩ | exact hJ10 ((_, _, _), _) _ _ (.cons (by first | exact rfl | exact look_int rfl (by omega) | exact look_slice rfl (by omega)) (.nil)) ⟨hO2.sl, hE⟩ | exact hJ10 ((some ⟨g, 0, none⟩, m1, k1), _) _ _ (.cons (by first | exact rfl | exact look_int rfl (by omega) | exact look_slice rfl (by omega)) (.nil)) ⟨hI2.sl, hE⟩
    · (first | replace h54 := of_decide_eq_false h54 | replace h54 := nd_false h54 | skip)
      refine Wc.seq (fun K13 hK13 => ?_)
      refine Wc.keep [(13, _), (14, _), (15, _), (44, _)] (.cons rfl (.cons rfl (.cons rfl (.cons rfl (.nil))))) ?_
      refine Wc.region ?_
      refine Wl.val rfl rfl rfl (Gives.eql rfl rfl rfl) ?_
      refine Wl.val rfl rfl rfl (Gives.assign rfl rfl) ?_
      refine Wl.nil ?_
      refine Wx.thenN (hK13 _ _ ?_)
      refine Wc.cond _ rfl (fun h61 => ?_) (fun h61 => ?_)
      · (first | replace h61 := of_decide_eq_true h61 | replace h61 := nd_true h61 | skip)
        refine Wc.keep [(13, _), (14, _)] (.cons rfl (.cons rfl (.nil))) ?_
        refine Wc.regionX (fun q => [].contains q) (.read 1 (.read 2 (.read 3 (.read 5 (.read 6 (.read 7 (.read 8 (.call true 0 (.call true 4 .tail .none) .none)))))))) 9 (by kernel_rfl) (by kernel_rfl) (by kernel_rfl) ?_
        intro w14 hR14
        replace hb7 := hb7.ext hR14.ext
        replace hE := hE.trans hR14.ext
        have hO14_7 : Old w14.heap.size [] b7 := ⟨hb7.lt, trivial⟩
        have hX := Ext.refl w14
        obtain ⟨vsA, hrA, heA⟩ := (((hIg.ext hR14.ext).sl).bd.mono (P' := fun k => k < w14.heap.size) fun k hk => hk.2).take (show j ≤ m1 by omega)
        obtain ⟨vsB, hrB, heB⟩ := (((hIg.ext hR14.ext).sl).bd.mono (P' := fun k => k < w14.heap.size) fun k hk => hk.2).cut (show j + 1 ≤ m1 by omega)
        have hmk := hrA.le
        refine RunE.read rfl rfl rfl rfl (fun wS _ => (Gives.move rfl rfl)) ?_
        refine RunE.read rfl rfl rfl rfl (fun wS _ => (Gives.move rfl rfl)) ?_
        refine RunE.read rfl rfl rfl rfl (fun wS _ => (Gives.cutHiZ j rfl Tryd.underlying52 (by kernel_rfl) rfl rfl rfl (by omega))) ?_
        refine RunE.read rfl rfl rfl rfl (fun wS _ => (Gives.move rfl rfl)) ?_
        refine RunE.read rfl rfl rfl rfl (fun wS _ => (Gives.move rfl rfl)) ?_
        refine RunE.read rfl rfl rfl rfl (fun wS _ => (Gives.add rfl rfl rfl (by first | exact IntWalk.i64_in _ (by omega) | exact u64_in _ (by omega) | exact u32_in _ (by omega) | exact u8_in _ (by omega) | exact rfl))) ?_
        refine RunE.read rfl rfl rfl rfl (fun wS _ => (Gives.cutLoZ 4 (j + 1) rfl Tryd.underlying52 (by kernel_rfl) rfl rfl rfl (by omega))) ?_
        refine RunE.free rfl rfl rfl rfl (Does.lit0 4 rfl Tryd.underlying52 infoI2) ?_ RunE.none
        rintro _ w140 ⟨g140, rfl, hs140, hk140, hx140⟩
        have hO0 : IOb w140 w14.heap.size (some ⟨g140, 0, none⟩) 0 0 [] := IOb.nil_ hk140 (by have := hX.size; omega)
        replace hX := hX.trans hx140
        refine RunE.free rfl rfl rfl rfl (Does.appIOb rfl rfl rfl hO0 (hrA.fr hX.fr) (heA.fr hX.fr) (by omega) hX.size) ?_ RunE.none
        rintro _ w144 ⟨B1, sc1, rfl, hO1, hB144, _⟩
        replace hX := Ext.step hX hB144 (Nat.le_refl _)
        refine RunE.tail rfl ?_
        replace hb7 := hb7.ext hX
        replace hE := hE.trans hX
        have hxs := hX.size
        refine Wl.does rfl rfl rfl (Does.appIOb rfl rfl rfl hO1 (hrB.fr hX.fr) (heB.fr hX.fr) (by omega) hxs) ?_
        rintro _ w149 ⟨B2, sc2, rfl, hO2, hB149, _⟩
        replace hE := Ext.step hE hB149 (by have := hR14.ext.size; omega)
        refine Wl.val rfl rfl rfl (Gives.assign rfl rfl) ?_
        refine Wl.nil ?_
        refine Wx.blockN ?_
        refine Wx.thenN ?_
        first | exact hJ10 ((_, _, _), _) _ _ (.cons (by first | exact rfl | exact look_int rfl (by omega) | exact look_slice rfl (by omega)) (.nil)) ⟨hO3.sl, hE⟩ | exact hJ10 ((some ⟨g, 0, none⟩, m1, k1), _) _ _ (.cons (by first | exact rfl | exact look_int rfl (by omega) | exact look_slice rfl (by omega)) (.nil)) ⟨hI3.sl, hE⟩ | exact hJ10 ((_, _, _), _) _ _ (.cons (by first | exact rfl | exact look_int rfl (by omega) | exact look_slice rfl (by omega)) (.nil)) ⟨hO2.sl, hE⟩ | exact hJ10 ((some ⟨g, 0, none⟩, m1, k1), _) _ _ (.cons (by first | exact rfl | exact look_int rfl (by omega) | exact look_slice rfl (by omega)) (.nil)) ⟨hI2.sl, hE⟩
      · (first | replace h61 := of_decide_eq_false h61 | replace h61 := nd_false h61 | skip)
        refine Wc.seq (fun K14 hK14 => ?_)
        refine Wc.keep [(13, _), (14, _), (15, _), (44, _)] (.cons rfl (.cons rfl (.cons rfl (.cons rfl (.nil))))) ?_
        refine Wc.region ?_
        refine Wl.val rfl rfl rfl (Gives.eql rfl rfl rfl) ?_
        refine Wl.val rfl rfl rfl (Gives.assign rfl rfl) ?_
        refine Wl.nil ?_
        refine Wx.thenN (hK14 _ _ ?_)
        refine Wc.cond _ rfl (fun h73 => ?_) (fun h73 => ?_)
        · (first | replace h73 := of_decide_eq_true h73 | replace h73 := nd_true h73 | skip)
          refine Wc.keep [(13, _), (14, _)] (.cons rfl (.cons rfl (.nil))) ?_
          refine Wc.regionB (fun q => [8].contains q) [] (.read 1 (.read 2 (.read 3 (.read 5 (.read 6 (.read 7 (.read 8 (.read 11 (.read 12 (.read 13 (.call false 0 (.call false 4 (.call true 9 (.call true 10 .tail .none) .none) (.call true 9 (.call false 4 (.call true 10 .tail .none) .none) .none)) (.call true 9 (.call false 0 (.call false 4 (.call true 10 .tail .none) .none) .none) .none)))))))))))) 14 (by kernel_rfl) (by kernel_rfl) (by kernel_rfl) ?_
          intro w16 hR16
          replace hb7 := hb7.ext hR16.ext
          replace hE := hE.trans hR16.ext
          have hO16_7 : Old w16.heap.size [] b7 := ⟨hb7.lt, trivial⟩
          have hX := Ext.refl w16
          obtain ⟨z1, zS1, zd1, zq1, hz1, hzr1, hzp1⟩ := (hIg.ext hR16.ext).at_ (show j < m1 by omega)
          obtain ⟨vsA, hrA, heA⟩ := (((hIg.ext hR16.ext).sl).bd.mono (P' := fun k => k < w16.heap.size) fun k hk => hk.2).take (show j ≤ m1 by omega)
          obtain ⟨vsB, hrB, heB⟩ := (((hIg.ext hR16.ext).sl).bd.mono (P' := fun k => k < w16.heap.size) fun k hk => hk.2).cut (show j ≤ m1 by omega)
          have hmk := hrA.le
          have hzb : BV w16 (fun k => k < w16.heap.size) zS1 zd1 zq1 z1.pay := hzp1.bd.mono fun k hk => hk.2
          have hg16 : g < w16.heap.size := by have := hR16.ext.size; have := hb7.lt; omega
          refine RunE.read rfl rfl rfl rfl (fun wS _ => (Gives.move rfl rfl)) ?_
          refine RunE.read rfl rfl rfl rfl (fun wS _ => (Gives.move rfl rfl)) ?_
          refine RunE.read rfl rfl rfl rfl (fun wS _ => (Gives.cutHiZ j rfl Tryd.underlying52 (by kernel_rfl) rfl rfl rfl (by omega))) ?_
          refine RunE.read rfl rfl rfl rfl (fun wS _ => (Gives.move rfl rfl)) ?_
          refine RunE.read rfl rfl rfl rfl (fun wS _ => (Gives.move rfl rfl)) ?_
          refine RunE.read rfl rfl rfl rfl (fun wS _ => (Gives.ixSZ (i := j) (sz := 4) rfl Tryd.underlying52 (by kernel_rfl) rfl rfl rfl (by omega))) ?_
          refine RunE.readM rfl rfl rfl rfl rfl (fun wS hS => (Gives.ldM rfl (by kernel_rfl) rfl (range_goX hzr1 hg16 hX hS) (by kernel_rfl))) ?_
          refine RunE.read rfl rfl rfl rfl (fun wS _ => (Gives.move rfl rfl)) ?_
          refine RunE.read rfl rfl rfl rfl (fun wS _ => (Gives.move rfl rfl)) ?_
          refine RunE.read rfl rfl rfl rfl (fun wS _ => (Gives.cutLoZ 4 j rfl Tryd.underlying52 (by kernel_rfl) rfl rfl rfl (by omega))) ?_
          refine RunE.turn rfl rfl rfl rfl (Does.lit0 4 rfl Tryd.underlying52 infoI2) ?_ ?_
          · rintro _ w160 ⟨g160, rfl, hs160, hk160, hx160⟩
            have hl160 := hk160.lt
            have hO0 : IOb w160 w16.heap.size (some ⟨g160, 0, none⟩) 0 0 [] := IOb.nil_ hk160 (by have := hX.size; omega)
            first | replace hk169 := hk169.ext hx160 | skip
            refine ⟨hx160.fr, ?_⟩
            replace hX := hX.trans hx160
            refine RunE.turn rfl rfl rfl rfl (Does.appIOb rfl rfl rfl hO0 (hrA.fr hX.fr) (heA.fr hX.fr) (by omega) hX.size) ?_ ?_
            · rintro _ w164 ⟨B1, sc1, rfl, hO1, hB164, hN164⟩
              first | replace hk169 := hk169.fr hN164 ⟨trivial, hk169.lt, fun he => by have h : g160 = g169 := Option.some.inj he; omega⟩ | skip
              refine ⟨below_old hB164 (Nat.le_refl _), ?_⟩
              replace hX := Ext.step hX hB164 (Nat.le_refl _)
              refine RunE.free rfl rfl rfl rfl (Does.lit1 4 rfl Tryd.underlying52 infoI2 rfl rfl rfl) ?_ RunE.none
              rintro _ w169 ⟨g169, rfl, hs169, hk169, hx169⟩
              replace hk169 : Blk w169 g169 26 (imgC z1 zS1 zd1 zq1).toArray := hk169
              have hl169 := hk169.lt
              first | replace hO0 := hO0.ext hx169 | skip
              first | replace hO1 := hO1.ext hx169 | skip
              replace hX := hX.trans hx169
              refine RunE.free rfl rfl rfl rfl (Does.appIOb rfl rfl rfl hO1 (row_img hk169) ((EachR.single (img_rep (hzb.ext hX)))) (by omega) hX.size) ?_ RunE.none
              rintro _ w1610 ⟨B2, sc2, rfl, hO2, hB1610, _⟩
              replace hX := Ext.step hX hB1610 (Nat.le_refl _)
              refine RunE.tail rfl ?_
              replace hb7 := hb7.ext hX
              replace hE := hE.trans hX
              have hxs := hX.size
              refine Wl.does rfl rfl rfl (Does.appIOb rfl rfl rfl hO2 (hrB.fr hX.fr) (heB.fr hX.fr) (by omega) hxs) ?_
              rintro _ w1614 ⟨B3, sc3, rfl, hO3, hB1614, _⟩
              replace hE := Ext.step hE hB1614 (by have := hR16.ext.size; omega)
              refine Wl.val rfl rfl rfl (Gives.assign rfl rfl) ?_
              refine Wl.nil ?_
              refine Wx.blockN ?_
              refine Wx.thenN ?_
              first | exact hJ10 ((_, _, _), _) _ _ (.cons (by first | exact rfl | exact look_int rfl (by omega) | exact look_slice rfl (by omega)) (.nil)) ⟨hO3.sl, hE⟩ | exact hJ10 ((some ⟨g, 0, none⟩, m1, k1), _) _ _ (.cons (by first | exact rfl | exact look_int rfl (by omega) | exact look_slice rfl (by omega)) (.nil)) ⟨hI3.sl, hE⟩ | exact hJ10 ((_, _, _), _) _ _ (.cons (by first | exact rfl | exact look_int rfl (by omega) | exact look_slice rfl (by omega)) (.nil)) ⟨hO2.sl, hE⟩ | exact hJ10 ((some ⟨g, 0, none⟩, m1, k1), _) _ _ (.cons (by first | exact rfl | exact look_int rfl (by omega) | exact look_slice rfl (by omega)) (.nil)) ⟨hI2.sl, hE⟩
            refine RunE.free rfl rfl rfl rfl (Does.lit1 4 rfl Tryd.underlying52 infoI2 rfl rfl rfl) ?_ RunE.none
            rintro _ w169 ⟨g169, rfl, hs169, hk169, hx169⟩
            replace hk169 : Blk w169 g169 26 (imgC z1 zS1 zd1 zq1).toArray := hk169
            have hl169 := hk169.lt
            first | replace hO0 := hO0.ext hx169 | skip
            first | replace hO1 := hO1.ext hx169 | skip
            replace hX := hX.trans hx169
            refine RunE.turn rfl rfl rfl rfl (Does.appIOb rfl rfl rfl hO0 (hrA.fr hX.fr) (heA.fr hX.fr) (by omega) hX.size) ?_ RunE.none
            rintro _ w164 ⟨B1, sc1, rfl, hO1, hB164, hN164⟩
            first | replace hk169 := hk169.fr hN164 ⟨trivial, hk169.lt, fun he => by have h : g160 = g169 := Option.some.inj he; omega⟩ | skip
            refine ⟨below_old hB164 (Nat.le_refl _), ?_⟩
            replace hX := Ext.step hX hB164 (Nat.le_refl _)
            refine RunE.free rfl rfl rfl rfl (Does.appIOb rfl rfl rfl hO1 (row_img hk169) ((EachR.single (img_rep (hzb.ext hX)))) (by omega) hX.size) ?_ RunE.none
            rintro _ w1610 ⟨B2, sc2, rfl, hO2, hB1610, _⟩
            replace hX := Ext.step hX hB1610 (Nat.le_refl _)
            refine RunE.tail rfl ?_
            replace hb7 := hb7.ext hX
            replace hE := hE.trans hX
            have hxs := hX.size
            refine Wl.does rfl rfl rfl (Does.appIOb rfl rfl rfl hO2 (hrB.fr hX.fr) (heB.fr hX.fr) (by omega) hxs) ?_
            rintro _ w1614 ⟨B3, sc3, rfl, hO3, hB1614, _⟩
            replace hE := Ext.step hE hB1614 (by have := hR16.ext.size; omega)
            refine Wl.val rfl rfl rfl (Gives.assign rfl rfl) ?_
            refine Wl.nil ?_
            refine Wx.blockN ?_
            refine Wx.thenN ?_
            first | exact hJ10 ((_, _, _), _) _ _ (.cons (by first | exact rfl | exact look_int rfl (by omega) | exact look_slice rfl (by omega)) (.nil)) ⟨hO3.sl, hE⟩ | exact hJ10 ((some ⟨g, 0, none⟩, m1, k1), _) _ _ (.cons (by first | exact rfl | exact look_int rfl (by omega) | exact look_slice rfl (by omega)) (.nil)) ⟨hI3.sl, hE⟩ | exact hJ10 ((_, _, _), _) _ _ (.cons (by first | exact rfl | exact look_int rfl (by omega) | exact look_slice rfl (by omega)) (.nil)) ⟨hO2.sl, hE⟩ | exact hJ10 ((some ⟨g, 0, none⟩, m1, k1), _) _ _ (.cons (by first | exact rfl | exact look_int rfl (by omega) | exact look_slice rfl (by omega)) (.nil)) ⟨hI2.sl, hE⟩
          refine RunE.free rfl rfl rfl rfl (Does.lit1 4 rfl Tryd.underlying52 infoI2 rfl rfl rfl) ?_ RunE.none
          rintro _ w169 ⟨g169, rfl, hs169, hk169, hx169⟩
          replace hk169 : Blk w169 g169 26 (imgC z1 zS1 zd1 zq1).toArray := hk169
          have hl169 := hk169.lt
          first | replace hO0 := hO0.ext hx169 | skip
          first | replace hO1 := hO1.ext hx169 | skip
          replace hX := hX.trans hx169
          refine RunE.turn rfl rfl rfl rfl (Does.lit0 4 rfl Tryd.underlying52 infoI2) ?_ RunE.none
          rintro _ w160 ⟨g160, rfl, hs160, hk160, hx160⟩
          have hl160 := hk160.lt
          have hO0 : IOb w160 w16.heap.size (some ⟨g160, 0, none⟩) 0 0 [] := IOb.nil_ hk160 (by have := hX.size; omega)
          first | replace hk169 := hk169.ext hx160 | skip
          refine ⟨hx160.fr, ?_⟩
          replace hX := hX.trans hx160
          refine RunE.turn rfl rfl rfl rfl (Does.appIOb rfl rfl rfl hO0 (hrA.fr hX.fr) (heA.fr hX.fr) (by omega) hX.size) ?_ RunE.none
          rintro _ w164 ⟨B1, sc1, rfl, hO1, hB164, hN164⟩
          first | replace hk169 := hk169.fr hN164 ⟨trivial, hk169.lt, fun he => by have h : g160 = g169 := Option.some.inj he; omega⟩ | skip
          refine ⟨below_old hB164 (Nat.le_refl _), ?_⟩
          replace hX := Ext.step hX hB164 (Nat.le_refl _)
          refine RunE.free rfl rfl rfl rfl (Does.appIOb rfl rfl rfl hO1 (row_img hk169) ((EachR.single (img_rep (hzb.ext hX)))) (by omega) hX.size) ?_ RunE.none
          rintro _ w1610 ⟨B2, sc2, rfl, hO2, hB1610, _⟩
          replace hX := Ext.step hX hB1610 (Nat.le_refl _)
          refine RunE.tail rfl ?_
          replace hb7 := hb7.ext hX
          replace hE := hE.trans hX
          have hxs := hX.size
          refine Wl.does rfl rfl rfl (Does.appIOb rfl rfl rfl hO2 (hrB.fr hX.fr) (heB.fr hX.fr) (by omega) hxs) ?_
          rintro _ w1614 ⟨B3, sc3, rfl, hO3, hB1614, _⟩
          replace hE := Ext.step hE hB1614 (by have := hR16.ext.size; omega)
          refine Wl.val rfl rfl rfl (Gives.assign rfl rfl) ?_
          refine Wl.nil ?_
          refine Wx.blockN ?_
          refine Wx.thenN ?_
          first | exact hJ10 ((_, _, _), _) _ _ (.cons (by first | exact rfl | exact look_int rfl (by omega) | exact look_slice rfl (by omega)) (.nil)) ⟨hO3.sl, hE⟩ | exact hJ10 ((some ⟨g, 0, none⟩, m1, k1), _) _ _ (.cons (by first | exact rfl | exact look_int rfl (by omega) | exact look_slice rfl (by omega)) (.nil)) ⟨hI3.sl, hE⟩ | exact hJ10 ((_, _, _), _) _ _ (.cons (by first | exact rfl | exact look_int rfl (by omega) | exact look_slice rfl (by omega)) (.nil)) ⟨hO2.sl, hE⟩ | exact hJ10 ((some ⟨g, 0, none⟩, m1, k1), _) _ _ (.cons (by first | exact rfl | exact look_int rfl (by omega) | exact look_slice rfl (by omega)) (.nil)) ⟨hI2.sl, hE⟩
        · (first | replace h73 := of_decide_eq_false h73 | replace h73 := nd_false h73 | skip)
          refine Wc.seq (fun K15 hK15 => ?_)
          refine Wc.keep [(13, _), (14, _), (15, _), (44, _)] (.cons rfl (.cons rfl (.cons rfl (.cons rfl (.nil))))) ?_
          refine Wc.region ?_
          refine Wl.val rfl rfl rfl (Gives.eql rfl rfl rfl) ?_
          refine Wl.val rfl rfl rfl (Gives.assign rfl rfl) ?_
          refine Wl.nil ?_
          refine Wx.thenN (hK15 _ _ ?_)
          refine Wc.cond _ rfl (fun h90 => ?_) (fun h90 => ?_)
          · (first | replace h90 := of_decide_eq_true h90 | replace h90 := nd_true h90 | skip)
            refine Wc.keep [(13, _), (14, _), (15, _)] (.cons rfl (.cons rfl (.cons rfl (.nil)))) ?_
            refine Wc.regionB (fun q => [7, 11].contains q) [] (.read 0 (.read 1 (.read 2 (.read 3 (.read 4 (.read 5 (.read 6 (.read 7 (.read 8 (.read 9 (.read 10 (.read 11 (.read 12 (.call true 13 .tail .none)))))))))))))) 14 (by kernel_rfl) (by kernel_rfl) (by kernel_rfl) ?_
            intro w18 hR18
            replace hb7 := hb7.ext hR18.ext
            replace hE := hE.trans hR18.ext
            have hO18_7 : Old w18.heap.size [] b7 := ⟨hb7.lt, trivial⟩
            have hX := Ext.refl w18
            obtain ⟨z1, zS1, zd1, zq1, hz1, hzr1, hzp1⟩ := (hIg.ext hR18.ext).at_ (show j < m1 by omega)
            obtain ⟨z2, zS2, zd2, zq2, hz2, hzr2, hzp2⟩ := (hIg.ext hR18.ext).at_ (show j2 < m1 by omega)
            have hg18 : g < w18.heap.size := by have := hR18.ext.size; omega
            refine RunE.read rfl rfl rfl rfl (fun wS _ => (Gives.move rfl rfl)) ?_
            refine RunE.read rfl rfl rfl rfl (fun wS _ => (Gives.move rfl rfl)) ?_
            refine RunE.read rfl rfl rfl rfl (fun wS _ => (Gives.move rfl rfl)) ?_
            refine RunE.read rfl rfl rfl rfl (fun wS _ => (Gives.move rfl rfl)) ?_
            refine RunE.read rfl rfl rfl rfl (fun wS _ => (Gives.move rfl rfl)) ?_
            refine RunE.read rfl rfl rfl rfl (fun wS _ => (Gives.move rfl rfl)) ?_
            refine RunE.read rfl rfl rfl rfl (fun wS _ => (Gives.ixSZ (i := j2) (sz := 4) rfl Tryd.underlying52 (by kernel_rfl) rfl rfl rfl (by omega))) ?_
            refine RunE.readM rfl rfl rfl rfl rfl (fun wS hS => (Gives.ldM rfl (by kernel_rfl) rfl (range_goX hzr2 hg18 hX hS) (by kernel_rfl))) ?_
            refine RunE.read rfl rfl rfl rfl (fun wS _ => (Gives.move rfl rfl)) ?_
            refine RunE.read rfl rfl rfl rfl (fun wS _ => (Gives.move rfl rfl)) ?_
            refine RunE.read rfl rfl rfl rfl (fun wS _ => (Gives.ixSZ (i := j) (sz := 4) rfl Tryd.underlying52 (by kernel_rfl) rfl rfl rfl (by omega))) ?_
            refine RunE.readM rfl rfl rfl rfl rfl (fun wS hS => (Gives.ldM rfl (by kernel_rfl) rfl (range_goX hzr1 hg18 hX hS) (by kernel_rfl))) ?_
            refine RunE.read rfl rfl rfl rfl (fun wS _ => (Gives.ixSZ (i := j) (sz := 4) rfl Tryd.underlying52 (by kernel_rfl) rfl rfl rfl (by omega))) ?_
            refine RunE.freeN rfl rfl rfl (Does.stIOg (j := j) (xi := z2) rfl rfl rfl (hIg.ext hR18.ext) hzp2 (by kernel_rfl) (by omega)) ?_ RunE.none
            rintro _ w1813 ⟨hI2, hF1813⟩
            refine RunE.tail rfl ?_
            replace hb7 := hb7.ext hX
            replace hE := hE.trans hX
            refine Wl.val rfl rfl rfl (Gives.ixSZ (i := j2) (sz := 4) rfl Tryd.underlying52 (by kernel_rfl) rfl rfl rfl (by omega)) ?_
            replace hE := Ext.over hE hF1813 hgw
            refine Wl.acts rfl rfl (Does.stIOg (j := j2) (xi := z1) rfl rfl rfl hI2 (hzp1.fr hF1813) (by kernel_rfl) (by omega)) ?_
            rintro _ w1815 ⟨hI3, hF1815⟩
            replace hE := Ext.over hE hF1815 hgw
            refine Wl.nil ?_
            refine Wx.blockN ?_
            refine Wx.thenN ?_
            first | exact hJ10 ((_, _, _), _) _ _ (.cons (by first | exact rfl | exact look_int rfl (by omega) | exact look_slice rfl (by omega)) (.nil)) ⟨hO3.sl, hE⟩ | exact hJ10 ((some ⟨g, 0, none⟩, m1, k1), _) _ _ (.cons (by first | exact rfl | exact look_int rfl (by omega) | exact look_slice rfl (by omega)) (.nil)) ⟨hI3.sl, hE⟩ | exact hJ10 ((_, _, _), _) _ _ (.cons (by first | exact rfl | exact look_int rfl (by omega) | exact look_slice rfl (by omega)) (.nil)) ⟨hO2.sl, hE⟩ | exact hJ10 ((some ⟨g, 0, none⟩, m1, k1), _) _ _ (.cons (by first | exact rfl | exact look_int rfl (by omega) | exact look_slice rfl (by omega)) (.nil)) ⟨hI2.sl, hE⟩
          · (first | replace h90 := of_decide_eq_false h90 | replace h90 := nd_false h90 | skip)
            refine Wc.keep [(13, _), (14, _), (15, _)] (.cons rfl (.cons rfl (.cons rfl (.nil)))) ?_
            obtain ⟨z2, zS, zd, zq, hz2, hzr, hzp⟩ := hIg.at_ (show j2 < m1 by omega)
            refine Wc.region ?_
            refine Wl.val rfl rfl rfl (Gives.move rfl rfl) ?_
            refine Wl.val rfl rfl rfl (Gives.move rfl rfl) ?_
            refine Wl.val rfl rfl rfl (Gives.move rfl rfl) ?_
            refine Wl.val rfl rfl rfl (Gives.move rfl rfl) ?_
            refine Wl.val rfl rfl rfl (Gives.ixSZ (i := j2) (sz := 4) rfl Tryd.underlying52 (by kernel_rfl) rfl rfl rfl (by omega)) ?_
            refine Wl.val rfl rfl rfl (Gives.fieldAt 1 rfl Tryd.underlying26 rfl (by kernel_rfl) rfl rfl) ?_
            refine Wl.val rfl rfl rfl (Gives.ldC rfl (by kernel_rfl) rfl (hzr 1 _ rfl)) ?_
            refine Wl.val rfl rfl rfl (Gives.ixSZ (i := j) (sz := 4) rfl Tryd.underlying52 (by kernel_rfl) rfl rfl rfl (by omega)) ?_
            refine Wl.val rfl rfl rfl (Gives.fieldAt 1 rfl Tryd.underlying26 rfl (by kernel_rfl) rfl rfl) ?_
            refine Wl.acts rfl rfl (Does.stName (j := j) rfl rfl rfl hIg (by kernel_rfl) (by omega)) ?_
            rintro _ w109 ⟨l9, hI2, hF109⟩
            replace hE := Ext.over hE hF109 hgw
            refine Wl.nil ?_
            refine Wx.blockN ?_
            refine Wx.thenN ?_
            first | exact hJ10 ((_, _, _), _) _ _ (.cons (by first | exact rfl | exact look_int rfl (by omega) | exact look_slice rfl (by omega)) (.nil)) ⟨hO3.sl, hE⟩ | exact hJ10 ((some ⟨g, 0, none⟩, m1, k1), _) _ _ (.cons (by first | exact rfl | exact look_int rfl (by omega) | exact look_slice rfl (by omega)) (.nil)) ⟨hI3.sl, hE⟩ | exact hJ10 ((_, _, _), _) _ _ (.cons (by first | exact rfl | exact look_int rfl (by omega) | exact look_slice rfl (by omega)) (.nil)) ⟨hO2.sl, hE⟩ | exact hJ10 ((some ⟨g, 0, none⟩, m1, k1), _) _ _ (.cons (by first | exact rfl | exact look_int rfl (by omega) | exact look_slice rfl (by omega)) (.nil)) ⟨hI2.sl, hE⟩
  intro ⟨⟨S9, m9, k9⟩, l9⟩ wj hJ
  clear hE
  obtain ⟨hs9, hE⟩ := hJ
  refine Wc.seq (fun K16 hK16 => ?_)
  refine Wc.keep [(13, _)] (.cons rfl (.nil)) ?_
  refine Wc.region ?_
  refine Wl.val rfl rfl rfl (Gives.move rfl rfl) ?_
  refine Wl.call rfl rfl rfl rfl Tryd.func37 rfl (by kernel_rfl) rfl (chainP _ S9 m9 k9 l9 hs9) ?_
  rintro x8 w191 ⟨rfl, hx191⟩
  refine ⟨_, rfl, ?_⟩
  replace hs9 := hs9.ext hx191
  replace hE := hE.trans hx191
  refine Wl.val rfl rfl rfl (Gives.move rfl rfl) ?_
  refine Wl.call rfl rfl rfl rfl Tryd.func38 rfl (by kernel_rfl) rfl (chainR _ S9 m9 k9 l9 hs9) ?_
  rintro x9 w193 ⟨rfl, hx193⟩
  refine ⟨_, rfl, ?_⟩
  replace hE := hE.trans hx193
  refine Wl.val rfl rfl rfl (Gives.eql rfl rfl rfl) ?_
  refine Wl.val rfl rfl rfl (Gives.assign rfl rfl) ?_
  refine Wl.nil ?_
  refine Wx.thenN (hK16 _ _ ?_)
  refine Wc.ret ?_
  refine Wx.ret [_] ⟨rfl, trivial⟩ ?_
  exact ⟨ret_bool (by simp), hE⟩
end Go.Proofs.YteppchoeiflnhaaDoor
