/- JournalCommit: the walk. -/
import Derived.Test.YtbbeoojlgfegjaaDoorJrnG
namespace Go.Proofs.YtbbeoojlgfegjaaDoor
set_option linter.all false
open Go.RowKit
theorem sameS_self (d : Dk) : sameS d d = true := by simp [sameS]
theorem sameJ {P P' : Nat → Prop} (w : World) (A B : Option Addr) (n c m k : Nat) (a : Dk) (ha : BL w P A n c a.areas) (hb : BL w P' B m k a.areas) :
    Calls Tryd.prog 16 #[.agg #[.slice A n c, .int .i64 a.wr, .int .i64 a.ct, .int .i64 a.tn, .bool a.off], .agg #[.slice B m k, .int .i64 a.wr, .int .i64 a.ct, .int .i64 a.tn, .bool a.off]] w fun e w' => e = .returned (.bool true) ∧ Ext w w' :=
  (sameD_calls w A B n c m k a a ha hb).mono fun e w' ⟨h1, h2⟩ => ⟨by rw [h1, sameS_self], h2⟩
theorem BL.past {w0 w1 w2 w3 : World} {g n c : Nat} {A : Option Addr} {l : List (List UInt8)} (h : BL w0 (fun k => k < w0.heap.size) A n c l) (e1 : Ext w0 w1) (e2 : Ext w1 w2) (f : Fr (fun k => k ≠ g) w2 w3) (hg : w1.heap.size ≤ g) : BL w3 (fun k => k < w3.heap.size) A n c l :=
  (((h.ext e1).ext e2).fr (f.mono fun k hk => by have := e1.size; omega)).mono fun k hk => by have := e1.size; have := e2.size; have := f.size; omega
set_option maxRecDepth 20000 in
set_option maxHeartbeats 2000000 in
theorem journalCommit_walk {P P' : Nat → Prop} (w : World) (hT : Tab w) (A : Option Addr) (n c : Nat) (l : List (List UInt8)) (ha : BL w P A n c l) (base seq : Int) (D : Option Addr) (m dc : Nat) (p : List UInt8) (hp : BV w P' D m dc p) (a4 a5 : Int) :
    Calls Tryd.prog 3 #[.slice A n c, .int .i64 base, .int .i64 seq, .slice D m dc, .int .i64 a4, .int .i64 a5] w fun e w' => e = .returned (.bool true) ∧ Ext w w' := by
  have hle := hp.le
  have hl := ha.len
  obtain ⟨k5, hk5⟩ := Int.eq_ofNat_of_zero_le (Int.emod_nonneg base (show (5 : Int) ≠ 0 by decide))
  have hk5' : k5 ≤ 4 := by have := Int.emod_lt_of_pos base (show (0 : Int) < 5 by decide); omega
  refine calls_enter Tryd.func3 rfl Tryd.ntmps3 rfl ?_
  have hE : Ext w w := Ext.refl w
  refine Wc.seq (fun K1 hK1 => ?_)
  refine Wc.keep [(0, _), (1, _), (2, _), (3, _), (4, _), (5, _)] (.cons rfl (.cons rfl (.cons rfl (.cons rfl (.cons rfl (.cons rfl (.nil))))))) ?_
  refine Wc.region ?_
  refine Wl.val rfl rfl rfl (Gives.assign rfl rfl) ?_
  refine Wl.nil ?_
  refine Wx.thenN (hK1 _ _ ?_)
  refine Wc.seq (fun K2 hK2 => ?_)
  refine Wc.seq (fun K3 hK3 => ?_)
  refine Wc.keep [(0, _), (1, _), (2, _), (3, _), (4, _), (5, _)] (.cons rfl (.cons rfl (.cons rfl (.cons rfl (.cons rfl (.cons rfl (.nil))))))) ?_
  refine Wc.region ?_
  refine Wl.call rfl rfl rfl rfl Tryd.func9 rfl (by kernel_rfl) rfl (awakeJ _ (hT.ext hE)) ?_
  rintro x0 w0 ⟨rfl, hx0⟩
  refine ⟨_, rfl, ?_⟩
  replace hE := hE.trans hx0
  refine Wl.val rfl rfl rfl (Gives.not rfl rfl) ?_
  refine Wl.nil ?_
  refine Wx.thenN (hK3 _ _ ?_)
  refine Wc.condF rfl rfl ?_
  refine Wc.skip ?_
  refine Wx.thenN (hK2 _ _ ?_)
  refine Wc.seq (fun K4 hK4 => ?_)
  refine Wc.seq (fun K5 hK5 => ?_)
  refine Wc.keep [(0, _), (1, _), (2, _), (3, _), (4, _), (5, _)] (.cons rfl (.cons rfl (.cons rfl (.cons rfl (.cons rfl (.cons rfl (.nil))))))) ?_
  refine Wc.region ?_
  refine Wl.val rfl rfl rfl (Gives.move rfl rfl) ?_
  refine Wl.call rfl rfl rfl rfl Tryd.func10 rfl (by kernel_rfl) rfl (fewJ _ A n c l (ha.ext hE)) ?_
  rintro x1 w1 ⟨b, rfl, hfew, hx1⟩
  refine ⟨_, rfl, ?_⟩
  replace hE := hE.trans hx1
  refine Wl.val rfl rfl rfl (Gives.not rfl rfl) ?_
  refine Wl.val rfl rfl rfl (Gives.move rfl rfl) ?_
  refine Wl.guard rfl rfl rfl (fun h29 => ?_) (fun h29 => ?_)
  · (first | replace h29 := of_decide_eq_false h29 | replace h29 := nd_false h29 | skip)
    refine Wl.val rfl rfl rfl (Gives.move rfl rfl) ?_
    refine Wl.val rfl rfl rfl (Gives.lenS rfl Tryd.underlying23 rfl) ?_
    refine Wl.val rfl rfl rfl (Gives.gtr rfl rfl rfl) ?_
    refine Wl.val rfl rfl rfl (Gives.pickF rfl rfl rfl rfl) ?_
    refine Wl.nil ?_
    refine Wx.thenN (hK5 _ _ ?_)
    refine Wc.cond _ rfl (fun h33 => ?_) (fun h33 => ?_)
    · (first | replace h33 := of_decide_eq_true h33 | replace h33 := nd_true h33 | skip)
      refine Wc.seq (fun K6 hK6 => ?_)
      refine Wc.keep [] (.nil) ?_
      refine Wc.region ?_
      refine Wl.val rfl rfl rfl (Gives.assign rfl rfl) ?_
      refine Wl.nil ?_
      refine Wx.thenN (hK6 _ _ ?_)
      refine Wc.ret ?_
      refine Wx.thenR ?_
      refine Wx.ret [_] ⟨rfl, trivial⟩ ?_
      exact ⟨rfl, hE⟩
    · (first | replace h33 := of_decide_eq_false h33 | replace h33 := nd_false h33 | skip)
      refine Wc.skip ?_
      refine Wx.thenN (hK4 _ _ ?_)
      refine Wc.seq (fun K7 hK7 => ?_)
      refine Wc.keep [(0, _), (1, _), (2, _), (3, _), (4, _), (5, _)] (.cons rfl (.cons rfl (.cons rfl (.cons rfl (.cons rfl (.cons rfl (.nil))))))) ?_
      have hb : b = true := by simpa using h29
      obtain ⟨hn10, hx60⟩ := hfew hb
      refine Wc.region ?_
      refine Wl.val rfl rfl rfl (Gives.move rfl rfl) ?_
      refine Wl.call rfl rfl rfl rfl Tryd.func11 rfl (by kernel_rfl) rfl (mod_calls _ base 7 (by omega) (by omega)) ?_
      rintro x2 w51 ⟨rfl, rfl⟩
      refine ⟨_, rfl, ?_⟩
      refine Wl.val rfl rfl rfl (Gives.assign rfl rfl) ?_
      refine Wl.nil ?_
      refine Wx.thenN (hK7 _ _ ?_)
      refine Wc.seq (fun K8 hK8 => ?_)
      refine Wc.keep [(0, _), (1, _), (2, _), (3, _), (4, _), (5, _), (13, _)] (.cons rfl (.cons rfl (.cons rfl (.cons rfl (.cons rfl (.cons rfl (.cons rfl (.nil)))))))) ?_
      refine Wc.region ?_
      refine Wl.val rfl rfl rfl (Gives.move rfl rfl) ?_
      refine Wl.val rfl rfl rfl (Gives.move rfl rfl) ?_
      refine Wl.call rfl rfl rfl rfl Tryd.func11 rfl (by kernel_rfl) rfl (mod_calls _ base 5 (by omega) (by omega)) ?_
      rintro x2 w62 ⟨rfl, rfl⟩
      refine ⟨_, rfl, ?_⟩
      rw [hk5]
      refine Wl.call rfl rfl rfl rfl Tryd.func12 rfl (by kernel_rfl) rfl (chainJ _ A n c l (ha.ext hE) (by omega) (fun x hx => by have := hx60 x hx; omega) k5 hk5') ?_
      rintro x3 w63 ⟨A1, c1, d1, rfl, H1, hb1, hx3⟩
      refine ⟨_, rfl, ?_⟩
      have hw1 : d1.wr = n := by { rw [H1.out]; exact (chain_inv k5 hk5' l (fun x hx => by have := hx60 x hx; omega) n (by omega) (by omega)).2 }
      have hL1 : Lens d1 2000 := by { rw [H1.out]; exact chain_lens k5 hk5' l 2000 (by omega) (fun x hx => by have := hx60 x hx; omega) (fun x hx => by have := hx60 x hx; omega) n (by omega) (by omega) }
      replace hE := hE.trans hx3
      refine Wl.val rfl rfl rfl (Gives.move rfl rfl) ?_
      refine Wl.val rfl rfl rfl (Gives.extract rfl rfl rfl) ?_
      refine Wl.val rfl rfl rfl (Gives.extract rfl rfl rfl) ?_
      refine Wl.does rfl rfl rfl (Does.alB (.agg #[(.slice none 0 0), (.int .i64 0), (.int .i64 0), (.int .i64 0), (.bool false)]) rfl (by kernel_rfl) rfl) ?_
      rintro _ w6_7 ⟨b14, rfl, hs14, hb14, hx6_7⟩
      have hg14 : w.heap.size ≤ b14 := Nat.le_trans hE.size hs14
      replace hE := hE.trans hx6_7
      refine Wl.acts rfl rfl (Does.stL 5 rfl rfl rfl hb14 (by kernel_rfl) rfl rfl rfl) ?_
      rintro _ w6_8 ⟨hbn, hF6_8⟩
      replace hE := Ext.over hE hF6_8 hg14
      replace hb14 := hbn
      clear hbn
      have hb1' : BL w6_8 (fun q => q ≠ b14) A1 6 c1 d1.areas := ((hb1.bd.mono (P' := fun q => q ≠ b14) (fun q hq => by omega)).ext hx6_7).fr hF6_8
      refine Wl.val rfl rfl rfl (Gives.assign rfl rfl) ?_
      refine Wl.nil ?_
      refine Wx.thenN (hK8 _ _ ?_)
      refine Wc.seq (fun K9 hK9 => ?_)
      refine Wc.keep [(1, _), (2, _), (3, _), (4, _), (5, _), (13, _), (14, _), (15, _)] (.cons rfl (.cons rfl (.cons rfl (.cons rfl (.cons rfl (.cons rfl (.cons rfl (.cons rfl (.nil))))))))) ?_
      refine Wc.region ?_
      refine Wl.val rfl rfl rfl (Gives.ldW rfl (by kernel_rfl) rfl hb14 (by kernel_rfl)) ?_
      refine Wl.val rfl rfl rfl (Gives.move rfl rfl) ?_
      refine Wl.val rfl rfl rfl (Gives.move rfl rfl) ?_
      refine Wl.call rfl rfl rfl rfl Tryd.func13 rfl (by kernel_rfl) rfl (cutR_calls (fun q => q ≠ b14) _ (fun q hq => by have := hb14.lt; omega) A1 6 c1 d1 hb1' a4 a5) ?_
      rintro x4 w73 ⟨A2, c2, d2, rfl, H2, hb2, hx4⟩
      refine ⟨_, rfl, ?_⟩
      have hw2 : d2.wr = n := by { rw [H2.out]; exact hw1 }
      have hL2 : ∀ x ∈ d2.areas, x.length ≤ 35184372088832 := by { intro x hx; rw [H2.out] at hx; have := hL1 x hx; omega }
      replace hb14 := hb14.ext hx4
      replace hE := hE.trans hx4
      refine Wl.acts rfl rfl (Does.stL 5 rfl rfl rfl hb14 (by kernel_rfl) rfl rfl rfl) ?_
      rintro _ w7_4 ⟨hbn, hF7_4⟩
      replace hE := Ext.over hE hF7_4 hg14
      replace hb14 := hbn
      clear hbn
      have hD := (hb2.fr hF7_4).bd
      refine Wl.nil ?_
      refine Wx.thenN (hK9 _ _ ?_)
      refine Wc.seq (fun K10 hK10 => ?_)
      refine Wc.keep [(1, _), (2, _), (3, _), (13, _), (14, _), (15, _)] (.cons rfl (.cons rfl (.cons rfl (.cons rfl (.cons rfl (.cons rfl (.nil))))))) ?_
      refine Wc.region ?_
      refine Wl.val rfl rfl rfl (Gives.ldW rfl (by kernel_rfl) rfl hb14 (by kernel_rfl)) ?_
      refine Wl.val rfl rfl rfl (Gives.move rfl rfl) ?_
      refine Wl.val rfl rfl rfl (Gives.move rfl rfl) ?_
      refine Wl.val rfl rfl rfl (Gives.add rfl rfl rfl (by first | exact IntWalk.i64_in _ (by omega) | exact u64_in _ (by omega) | exact u32_in _ (by omega) | exact u8_in _ (by omega) | exact rfl)) ?_
      refine Wl.val rfl rfl rfl (Gives.move rfl rfl) ?_
      refine Wl.call rfl rfl rfl rfl Tryd.func14 rfl (by kernel_rfl) rfl (commitP (fun _ => True) _ (hT.ext hE) (Anew.top _) A2 6 c2 d2 (hD.mono fun _ _ => trivial) (by omega) D m dc p (hp.ext hE) (by omega) (base % 7) ((n : Int) + 1) (by omega) (by omega) hL2) ?_
      rintro x5 w85 ⟨A3, c3, d3, e3, rfl, H3, hb3, hx5⟩
      refine ⟨_, rfl, ?_⟩
      replace hb14 := hb14.ext hx5
      replace hE := hE.trans hx5
      refine Wl.val rfl rfl rfl (Gives.move rfl rfl) ?_
      refine Wl.val rfl rfl rfl (Gives.extract rfl rfl rfl) ?_
      refine Wl.val rfl rfl rfl (Gives.extract rfl rfl rfl) ?_
      refine Wl.does rfl rfl rfl (Does.alB (.agg #[(.slice none 0 0), (.int .i64 0), (.int .i64 0), (.int .i64 0), (.bool false)]) rfl (by kernel_rfl) rfl) ?_
      rintro _ w8_9 ⟨b16, rfl, hs16, hb16, hx8_9⟩
      have hn14_16 : b14 ≠ b16 := hb14.ne hs16
      have hg16 : w.heap.size ≤ b16 := Nat.le_trans hE.size hs16
      replace hb14 := hb14.ext hx8_9
      replace hE := hE.trans hx8_9
      refine Wl.acts rfl rfl (Does.stL 5 rfl rfl rfl hb16 (by kernel_rfl) rfl rfl rfl) ?_
      rintro _ w8_10 ⟨hbn, hF8_10⟩
      replace hb14 := hb14.fr hF8_10 (by first | assumption | exact Ne.symm (by assumption))
      replace hE := Ext.over hE hF8_10 hg16
      replace hb16 := hbn
      clear hbn
      replace hD := hD.past hx5 hx8_9 hF8_10 hs16
      have h16 := hb3.bd.past (Ext.refl _) hx8_9 hF8_10 hs16
      refine Wl.val rfl rfl rfl (Gives.assign rfl rfl) ?_
      refine Wl.nil ?_
      refine Wx.thenN (hK10 _ _ ?_)
      refine Wc.seq (fun K11 hK11 => ?_)
      refine Wc.keep [(1, _), (2, _), (3, _), (13, _), (14, _), (15, _), (16, _), (17, _)] (.cons rfl (.cons rfl (.cons rfl (.cons rfl (.cons rfl (.cons rfl (.cons rfl (.cons rfl (.nil))))))))) ?_
      refine Wc.region ?_
      refine Wl.val rfl rfl rfl (Gives.ldW rfl (by kernel_rfl) rfl hb14 (by kernel_rfl)) ?_
      refine Wl.val rfl rfl rfl (Gives.move rfl rfl) ?_
      refine Wl.val rfl rfl rfl (Gives.move rfl rfl) ?_
      refine Wl.val rfl rfl rfl (Gives.add rfl rfl rfl (by first | exact IntWalk.i64_in _ (by omega) | exact u64_in _ (by omega) | exact u32_in _ (by omega) | exact u8_in _ (by omega) | exact rfl)) ?_
      refine Wl.val rfl rfl rfl (Gives.move rfl rfl) ?_
      refine Wl.call rfl rfl rfl rfl Tryd.func15 rfl (by kernel_rfl) rfl (commit15 (fun _ => True) _ (Anew.top _) A2 6 c2 d2 (hD.mono fun _ _ => trivial) (by omega) D m dc p (hp.ext hE) (by omega) (base % 7) ((n : Int) + 1) (by omega) (by omega) hL2) ?_
      rintro x6 w95 ⟨A4, c4, d4, e4, rfl, H4, hb4, hx6⟩
      refine ⟨_, rfl, ?_⟩
      obtain rfl : e4 = e3 := H4.out.2.trans H3.out.2.symm
      obtain rfl : d4 = d3 := H4.out.1.trans H3.out.1.symm
      replace hb14 := hb14.ext hx6
      replace hb16 := hb16.ext hx6
      replace hE := hE.trans hx6
      refine Wl.val rfl rfl rfl (Gives.move rfl rfl) ?_
      refine Wl.val rfl rfl rfl (Gives.extract rfl rfl rfl) ?_
      refine Wl.val rfl rfl rfl (Gives.extract rfl rfl rfl) ?_
      refine Wl.does rfl rfl rfl (Does.alB (.agg #[(.slice none 0 0), (.int .i64 0), (.int .i64 0), (.int .i64 0), (.bool false)]) rfl (by kernel_rfl) rfl) ?_
      rintro _ w9_9 ⟨b18, rfl, hs18, hb18, hx9_9⟩
      have hn14_18 : b14 ≠ b18 := hb14.ne hs18
      have hn16_18 : b16 ≠ b18 := hb16.ne hs18
      have hg18 : w.heap.size ≤ b18 := Nat.le_trans hE.size hs18
      replace hb14 := hb14.ext hx9_9
      replace hb16 := hb16.ext hx9_9
      replace hE := hE.trans hx9_9
      refine Wl.acts rfl rfl (Does.stL 5 rfl rfl rfl hb18 (by kernel_rfl) rfl rfl rfl) ?_
      rintro _ w9_10 ⟨hbn, hF9_10⟩
      replace hb14 := hb14.fr hF9_10 (by first | assumption | exact Ne.symm (by assumption))
      replace hb16 := hb16.fr hF9_10 (by first | assumption | exact Ne.symm (by assumption))
      replace hE := Ext.over hE hF9_10 hg18
      replace hb18 := hbn
      clear hbn
      replace hD := hD.past hx6 hx9_9 hF9_10 hs18
      replace h16 := h16.past hx6 hx9_9 hF9_10 hs18
      have h18 := hb4.bd.past (Ext.refl _) hx9_9 hF9_10 hs18
      refine Wl.val rfl rfl rfl (Gives.assign rfl rfl) ?_
      refine Wl.nil ?_
      refine Wx.thenN (hK11 _ _ ?_)
      refine Wc.seq (fun K12 hK12 => ?_)
      refine Wc.keep [(1, _), (2, _), (3, _), (14, _), (16, _), (17, _), (18, _), (19, _)] (.cons rfl (.cons rfl (.cons rfl (.cons rfl (.cons rfl (.cons rfl (.cons rfl (.cons rfl (.nil))))))))) ?_
      refine Wc.region ?_
      refine Wl.val rfl rfl rfl (Gives.ldW rfl (by kernel_rfl) rfl hb14 (by kernel_rfl)) ?_
      refine Wl.val rfl rfl rfl (Gives.move rfl rfl) ?_
      refine Wl.val rfl rfl rfl (Gives.move rfl rfl) ?_
      refine Wl.val rfl rfl rfl (Gives.move rfl rfl) ?_
      refine Wl.call rfl rfl rfl rfl Tryd.func14 rfl (by kernel_rfl) rfl (commitP (fun _ => True) _ (hT.ext hE) (Anew.top _) A2 6 c2 d2 (hD.mono fun _ _ => trivial) (by omega) D m dc p (hp.ext hE) (by omega) base seq (by omega) (by omega) hL2) ?_
      rintro x7 w104 ⟨A5, c5, d5, e5, rfl, H5, hb5, hx7⟩
      refine ⟨_, rfl, ?_⟩
      replace hb14 := hb14.ext hx7
      replace hb16 := hb16.ext hx7
      replace hb18 := hb18.ext hx7
      replace hE := hE.trans hx7
      refine Wl.val rfl rfl rfl (Gives.move rfl rfl) ?_
      refine Wl.val rfl rfl rfl (Gives.extract rfl rfl rfl) ?_
      refine Wl.val rfl rfl rfl (Gives.extract rfl rfl rfl) ?_
      refine Wl.does rfl rfl rfl (Does.alB (.agg #[(.slice none 0 0), (.int .i64 0), (.int .i64 0), (.int .i64 0), (.bool false)]) rfl (by kernel_rfl) rfl) ?_
      rintro _ w10_8 ⟨b20, rfl, hs20, hb20, hx10_8⟩
      have hn14_20 : b14 ≠ b20 := hb14.ne hs20
      have hn16_20 : b16 ≠ b20 := hb16.ne hs20
      have hn18_20 : b18 ≠ b20 := hb18.ne hs20
      have hg20 : w.heap.size ≤ b20 := Nat.le_trans hE.size hs20
      replace hb14 := hb14.ext hx10_8
      replace hb16 := hb16.ext hx10_8
      replace hb18 := hb18.ext hx10_8
      replace hE := hE.trans hx10_8
      refine Wl.acts rfl rfl (Does.stL 5 rfl rfl rfl hb20 (by kernel_rfl) rfl rfl rfl) ?_
      rintro _ w10_9 ⟨hbn, hF10_9⟩
      replace hb14 := hb14.fr hF10_9 (by first | assumption | exact Ne.symm (by assumption))
      replace hb16 := hb16.fr hF10_9 (by first | assumption | exact Ne.symm (by assumption))
      replace hb18 := hb18.fr hF10_9 (by first | assumption | exact Ne.symm (by assumption))
      replace hE := Ext.over hE hF10_9 hg20
      replace hb20 := hbn
      clear hbn
      replace hD := hD.past hx7 hx10_8 hF10_9 hs20
      replace h16 := h16.past hx7 hx10_8 hF10_9 hs20
      replace h18 := h18.past hx7 hx10_8 hF10_9 hs20
      have h20 := hb5.bd.past (Ext.refl _) hx10_8 hF10_9 hs20
      refine Wl.val rfl rfl rfl (Gives.assign rfl rfl) ?_
      refine Wl.nil ?_
      refine Wx.thenN (hK12 _ _ ?_)
      refine Wc.seq (fun K13 hK13 => ?_)
      refine Wc.keep [(1, _), (2, _), (3, _), (14, _), (16, _), (17, _), (18, _), (19, _), (20, _), (21, _)] (.cons rfl (.cons rfl (.cons rfl (.cons rfl (.cons rfl (.cons rfl (.cons rfl (.cons rfl (.cons rfl (.cons rfl (.nil))))))))))) ?_
      refine Wc.region ?_
      refine Wl.val rfl rfl rfl (Gives.ldW rfl (by kernel_rfl) rfl hb14 (by kernel_rfl)) ?_
      refine Wl.val rfl rfl rfl (Gives.move rfl rfl) ?_
      refine Wl.val rfl rfl rfl (Gives.move rfl rfl) ?_
      refine Wl.val rfl rfl rfl (Gives.move rfl rfl) ?_
      refine Wl.call rfl rfl rfl rfl Tryd.func15 rfl (by kernel_rfl) rfl (commit15 (fun _ => True) _ (Anew.top _) A2 6 c2 d2 (hD.mono fun _ _ => trivial) (by omega) D m dc p (hp.ext hE) (by omega) base seq (by omega) (by omega) hL2) ?_
      rintro x8 w114 ⟨A6, c6, d6, e6, rfl, H6, hb6, hx8⟩
      refine ⟨_, rfl, ?_⟩
      obtain rfl : e6 = e5 := H6.out.2.trans H5.out.2.symm
      obtain rfl : d6 = d5 := H6.out.1.trans H5.out.1.symm
      replace hb14 := hb14.ext hx8
      replace hb16 := hb16.ext hx8
      replace hb18 := hb18.ext hx8
      replace hb20 := hb20.ext hx8
      replace hE := hE.trans hx8
      refine Wl.val rfl rfl rfl (Gives.move rfl rfl) ?_
      refine Wl.val rfl rfl rfl (Gives.extract rfl rfl rfl) ?_
      refine Wl.val rfl rfl rfl (Gives.extract rfl rfl rfl) ?_
      refine Wl.does rfl rfl rfl (Does.alB (.agg #[(.slice none 0 0), (.int .i64 0), (.int .i64 0), (.int .i64 0), (.bool false)]) rfl (by kernel_rfl) rfl) ?_
      rintro _ w11_8 ⟨b22, rfl, hs22, hb22, hx11_8⟩
      have hn14_22 : b14 ≠ b22 := hb14.ne hs22
      have hn16_22 : b16 ≠ b22 := hb16.ne hs22
      have hn18_22 : b18 ≠ b22 := hb18.ne hs22
      have hn20_22 : b20 ≠ b22 := hb20.ne hs22
      have hg22 : w.heap.size ≤ b22 := Nat.le_trans hE.size hs22
      replace hb14 := hb14.ext hx11_8
      replace hb16 := hb16.ext hx11_8
      replace hb18 := hb18.ext hx11_8
      replace hb20 := hb20.ext hx11_8
      replace hE := hE.trans hx11_8
      refine Wl.acts rfl rfl (Does.stL 5 rfl rfl rfl hb22 (by kernel_rfl) rfl rfl rfl) ?_
      rintro _ w11_9 ⟨hbn, hF11_9⟩
      replace hb14 := hb14.fr hF11_9 (by first | assumption | exact Ne.symm (by assumption))
      replace hb16 := hb16.fr hF11_9 (by first | assumption | exact Ne.symm (by assumption))
      replace hb18 := hb18.fr hF11_9 (by first | assumption | exact Ne.symm (by assumption))
      replace hb20 := hb20.fr hF11_9 (by first | assumption | exact Ne.symm (by assumption))
      replace hE := Ext.over hE hF11_9 hg22
      replace hb22 := hbn
      clear hbn
      replace h16 := h16.past hx8 hx11_8 hF11_9 hs22
      replace h18 := h18.past hx8 hx11_8 hF11_9 hs22
      replace h20 := h20.past hx8 hx11_8 hF11_9 hs22
      have h22 := hb6.bd.past (Ext.refl _) hx11_8 hF11_9 hs22
      refine Wl.val rfl rfl rfl (Gives.assign rfl rfl) ?_
      refine Wl.nil ?_
      refine Wx.thenN (hK13 _ _ ?_)
      refine Wc.seq (fun K14 hK14 => ?_)
      refine Wc.keep [(16, _), (17, _), (18, _), (19, _), (20, _), (21, _), (22, _), (23, _)] (.cons rfl (.cons rfl (.cons rfl (.cons rfl (.cons rfl (.cons rfl (.cons rfl (.cons rfl (.nil))))))))) ?_
      refine Wc.region ?_
      refine Wl.val rfl rfl rfl (Gives.move rfl rfl) ?_
      refine Wl.val rfl rfl rfl (Gives.move rfl rfl) ?_
      refine Wl.val rfl rfl rfl (Gives.eql rfl rfl rfl) ?_
      refine Wl.val rfl rfl rfl (Gives.move rfl rfl) ?_
      refine Wl.guardT rfl rfl rfl (decide_eq_true rfl) ?_
      refine Wl.val rfl rfl rfl (Gives.ldW rfl (by kernel_rfl) rfl hb16 (by kernel_rfl)) ?_
      refine Wl.val rfl rfl rfl (Gives.ldW rfl (by kernel_rfl) rfl hb18 (by kernel_rfl)) ?_
      refine Wl.call rfl rfl rfl rfl Tryd.func16 rfl (by kernel_rfl) rfl (sameJ _ _ _ _ _ _ _ _ h16 h18) ?_
      rintro x9 w126 ⟨rfl, hx9⟩
      refine ⟨_, rfl, ?_⟩
      replace hb14 := hb14.ext hx9
      replace hb16 := hb16.ext hx9
      replace hb18 := hb18.ext hx9
      replace hb20 := hb20.ext hx9
      replace hb22 := hb22.ext hx9
      replace hE := hE.trans hx9
      refine Wl.val rfl rfl rfl (Gives.pickT rfl rfl rfl rfl) ?_
      refine Wl.val rfl rfl rfl (Gives.move rfl rfl) ?_
      refine Wl.guardT rfl rfl rfl rfl ?_
      refine Wl.val rfl rfl rfl (Gives.move rfl rfl) ?_
      refine Wl.val rfl rfl rfl (Gives.move rfl rfl) ?_
      refine Wl.val rfl rfl rfl (Gives.eql rfl rfl rfl) ?_
      refine Wl.val rfl rfl rfl (Gives.pickT rfl rfl rfl rfl) ?_
      refine Wl.val rfl rfl rfl (Gives.move rfl rfl) ?_
      refine Wl.guardT rfl rfl rfl (decide_eq_true rfl) ?_
      refine Wl.val rfl rfl rfl (Gives.ldW rfl (by kernel_rfl) rfl hb20 (by kernel_rfl)) ?_
      refine Wl.val rfl rfl rfl (Gives.ldW rfl (by kernel_rfl) rfl hb22 (by kernel_rfl)) ?_
      refine Wl.call rfl rfl rfl rfl Tryd.func16 rfl (by kernel_rfl) rfl (sameJ _ _ _ _ _ _ _ _ (h20.ext hx9) (h22.ext hx9)) ?_
      rintro x10 w127 ⟨rfl, hx10⟩
      refine ⟨_, rfl, ?_⟩
      replace hb14 := hb14.ext hx10
      replace hb16 := hb16.ext hx10
      replace hb18 := hb18.ext hx10
      replace hb20 := hb20.ext hx10
      replace hb22 := hb22.ext hx10
      replace hE := hE.trans hx10
      refine Wl.val rfl rfl rfl (Gives.pickT rfl rfl rfl rfl) ?_
      refine Wl.val rfl rfl rfl (Gives.assign rfl rfl) ?_
      refine Wl.nil ?_
      refine Wx.thenN (hK14 _ _ ?_)
      refine Wc.ret ?_
      refine Wx.ret [_] ⟨rfl, trivial⟩ ?_
      exact ⟨rfl, hE⟩
  · (first | replace h29 := of_decide_eq_true h29 | replace h29 := nd_true h29 | skip)
    refine Wl.pass rfl rfl rfl ?_
    refine Wl.pass rfl rfl rfl ?_
    refine Wl.pass rfl rfl rfl ?_
    refine Wl.val rfl rfl rfl (Gives.pickT rfl rfl rfl rfl) ?_
    refine Wl.nil ?_
    refine Wx.thenN (hK5 _ _ ?_)
    refine Wc.condT rfl rfl ?_
    refine Wc.seq (fun K15 hK15 => ?_)
    refine Wc.keep [] (.nil) ?_
    refine Wc.region ?_
    refine Wl.val rfl rfl rfl (Gives.assign rfl rfl) ?_
    refine Wl.nil ?_
    refine Wx.thenN (hK15 _ _ ?_)
    refine Wc.ret ?_
    refine Wx.thenR ?_
    refine Wx.ret [_] ⟨rfl, trivial⟩ ?_
    exact ⟨rfl, hE⟩
end Go.Proofs.YtbbeoojlgfegjaaDoor
