/- CommandCheck: the walk of the law. -/
import Derived.Test.YtaekpiejdgahfaaDoorLawCT
namespace Go.Proofs.YtaekpiejdgahfaaDoor
set_option linter.all false
open Go.RowKit
set_option maxHeartbeats 4000000 in
set_option maxRecDepth 10000 in
theorem commandCheck_walk (w : World) (hT : Tabs w) (q : Req) (r : RA) (hq : ReqV w (fun _ => True) q r) (code : Int) (how : UInt8) (z : Int) :
    Calls Tryd.prog 4 #[.agg #[.int .i64 q.code, .slice r.hA r.hn r.hc, .slice r.aA r.an r.ac, .slice r.iA r.iN r.ic, .slice r.bA r.bn r.bc], .int .i64 code, .int .u8 (how.toNat : Int), .int .i64 z] w fun e w' => e = .returned (.bool true) ∧ Ext w w' := by
  refine calls_enter Tryd.func4 rfl Tryd.ntmps4 rfl ?_
  have hE : Ext w w := Ext.refl w
  refine Wc.seq (fun K1 hK1 => ?_)
  refine Wc.keep [(0, _), (1, _), (2, _), (3, _)] (.cons rfl (.cons rfl (.cons rfl (.cons rfl (.nil))))) ?_
  refine Wc.region ?_
  refine Wl.does rfl rfl rfl (Does.boxA rfl rfl) ?_
  rintro _ w0_0 ⟨b4, rfl, hs4, hb4, hx0_0⟩
  have hg4 : w.heap.size ≤ b4 := Nat.le_trans hE.size hs4
  replace hE := hE.trans hx0_0
  refine Wl.val rfl rfl rfl (Gives.assign rfl rfl) ?_
  refine Wl.nil ?_
  refine Wx.thenN (hK1 _ _ ?_)
  refine Wc.seq (fun K2 hK2 => ?_)
  refine Wc.seq (fun K3 hK3 => ?_)
  refine Wc.keep [(1, _), (2, _), (3, _), (4, _)] (.cons rfl (.cons rfl (.cons rfl (.cons rfl (.nil))))) ?_
  refine Wc.region ?_
  refine Wl.call rfl rfl rfl rfl Tryd.func10 rfl (by kernel_rfl) rfl (awake_calls _ (hT.ext hE)) ?_
  rintro x0 w0 ⟨rfl, hx0⟩
  refine ⟨_, rfl, ?_⟩
  replace hb4 := hb4.ext hx0
  replace hE := hE.trans hx0
  refine Wl.val rfl rfl rfl (Gives.not rfl rfl) ?_
  refine Wl.nil ?_
  refine Wx.thenN (hK3 _ _ ?_)
  refine Wc.condF rfl rfl ?_
  refine Wc.skip ?_
  refine Wx.thenN (hK2 _ _ ?_)
  refine Wc.seq (fun K4 hK4 => ?_)
  refine Wc.seq (fun K5 hK5 => ?_)
  refine Wc.keep [(1, _), (2, _), (3, _), (4, _)] (.cons rfl (.cons rfl (.cons rfl (.cons rfl (.nil))))) ?_
  refine Wc.region ?_
  refine Wl.val rfl rfl rfl (Gives.ldW rfl (by kernel_rfl) rfl hb4 (by kernel_rfl)) ?_
  refine Wl.call rfl rfl rfl rfl Tryd.func13 rfl (by kernel_rfl) rfl (few_calls (P := fun _ => True) _ q r (hq.ext hE)) ?_
  rintro x1 w1 ⟨b, rfl, hfew, hx1⟩
  refine ⟨_, rfl, ?_⟩
  replace hb4 := hb4.ext hx1
  replace hE := hE.trans hx1
  refine Wl.val rfl rfl rfl (Gives.not rfl rfl) ?_
  refine Wl.nil ?_
  refine Wx.thenN (hK5 _ _ ?_)
  refine Wc.cond _ rfl (fun h22 => ?_) (fun h22 => ?_)
  · (first | replace h22 := of_decide_eq_true h22 | replace h22 := nd_true h22 | skip)
    refine Wc.seq (fun K6 hK6 => ?_)
    refine Wc.keep [] (.nil) ?_
    refine Wc.region ?_
    refine Wl.val rfl rfl rfl (Gives.assign rfl rfl) ?_
    refine Wl.nil ?_
    refine Wx.thenN (hK6 _ _ ?_)
    refine Wc.ret ?_
    refine Wx.thenR ?_
    refine Wx.ret [_] ⟨rfl, trivial⟩ ?_
    first | exact ⟨rfl, hE⟩ | exact ⟨rb (by simp), hE⟩
  · (first | replace h22 := of_decide_eq_false h22 | replace h22 := nd_false h22 | skip)
    refine Wc.skip ?_
    refine Wx.thenN (hK4 _ _ ?_)
    refine Wc.seq (fun K7 hK7 => ?_)
    refine Wc.keep [(1, _), (2, _), (3, _), (4, _)] (.cons rfl (.cons rfl (.cons rfl (.cons rfl (.nil))))) ?_
    have hfq : FewQ q := hfew (by simpa using h22)
    have h4N := hb4.lt
    generalize hN0 : w1.heap.size = N0 at h4N
    have hN0w : w.heap.size ≤ N0 := by rw [← hN0]; exact hE.size
    refine Wc.region ?_
    refine Wl.val rfl rfl rfl (Gives.ldW rfl (by kernel_rfl) rfl hb4 (by kernel_rfl)) ?_
    refine Wl.val rfl rfl rfl (Gives.move rfl rfl) ?_
    refine Wl.call rfl rfl rfl rfl Tryd.func14 rfl (by kernel_rfl) rfl (shaped_calls (P := fun _ => True) _ q r (hq.ext hE) code) ?_
    rintro x2 w12 ⟨p, rp, N1, N2, N3, N4, rfl, hSh, hok, harg, hx2⟩
    refine ⟨_, rfl, ?_⟩
    rw [hN0] at hSh
    obtain ⟨l01, l12, l23, l34, l45, hH, hU, hI, hL⟩ := hSh
    have hfp := few9 harg
    obtain ⟨hA, hn, hc, aA, an, ac, iA, iN, ic, bA, bn, bc⟩ := rp
    dsimp only
    dsimp only at hH hU hI hL
    clear hok harg
    replace hb4 := hb4.ext hx2
    replace hE := hE.trans hx2
    refine Wl.does rfl rfl rfl (Does.alB (.agg #[(.int .i64 0), (.slice none 0 0), (.slice none 0 0), (.slice none 0 0), (.slice none 0 0)]) rfl (by kernel_rfl) rfl) ?_
    rintro _ w5_3 ⟨b9, rfl, hs9, hb9, hx5_3⟩
    have hn4_9 : b4 ≠ b9 := hb4.ne hs9
    have hg9 : w.heap.size ≤ b9 := Nat.le_trans hE.size hs9
    replace hb4 := hb4.ext hx5_3
    replace hE := hE.trans hx5_3
    refine Wl.acts rfl rfl (Does.stL 5 rfl rfl rfl hb9 (by kernel_rfl) rfl rfl rfl) ?_
    rintro _ w5_4 ⟨hbn, hF5_4⟩
    replace hb4 := hb4.fr hF5_4 (by first | assumption | exact Ne.symm (by assumption))
    replace hE := Ext.over hE hF5_4 hg9
    replace hb9 := hbn
    clear hbn
    have hy5 := Ext.over hx5_3 hF5_4 hs9
    have hBd := (hL.bl (P := fun k => k < N0 ∨ N4 ≤ k) (fun k hk => Or.inr hk) (fun _ h => h)).bd
    have hBv : BL w5_4 (fun k => k < N0 ∨ (N4 ≤ k ∧ k < b9)) bA bn bc p.bs := (hBd.ext hy5).mono (fun k hk => by omega)
    replace hH := hH.ext hy5
    replace hU := hU.ext hy5
    replace hI := hI.ext hy5
    obtain ⟨vsL, hoL⟩ := hL.own
    have hLW : Win bA b9 := (Win.of hoL).mono (by omega)
    replace hL := (hL.offs (S' := fun k => k ≠ b9) (fun k _ hk => by omega)).ext hy5
    have hHv : IV w5_4 (fun k => N1 ≤ k ∧ k < N2) hA hn hc p.hs := hH.iv (fun k h1 h2 => ⟨h1, h2⟩)
    have hUv : AV w5_4 (fun k => k < N0 ∨ (N2 ≤ k ∧ k < N3)) aA an ac p.us := hU.av (fun k h1 h2 => Or.inr ⟨h1, h2⟩) (fun k hk => Or.inl hk)
    have hIv : IV w5_4 (fun k => N3 ≤ k ∧ k < N4) iA iN ic p.is := hI.iv (fun k h1 h2 => ⟨h1, h2⟩)
    have hl1 := hHv.len
    have hl2 := hUv.len
    have hl3 := hIv.len
    have hl4 := hBv.len
    have hle1 := hHv.le
    have hle3 := hIv.le
    obtain ⟨fh, fu, fi, fb⟩ := hfp
    have hlt9 : b9 < w5_4.heap.size := hb9.lt
    have hN4s : N4 ≤ w5_4.heap.size := by omega
    clear hBd
    refine Wl.nil ?_
    refine Wx.thenN (hK7 _ _ ?_)
    refine Wc.joinC (ι := Req × RA) [(4, _), (9, _)] (fun _ => []) (fun | (p, rp), wr => FewQ p ∧ ReqV wr (fun _ => True) p rp ∧ Blk wr b9 33 #[.int .i64 p.code, .slice rp.hA rp.hn rp.hc, .slice rp.aA rp.an rp.ac, .slice rp.iA rp.iN rp.ic, .slice rp.bA rp.bn rp.bc] ∧ Blk wr b4 33 #[.int .i64 q.code, .slice r.hA r.hn r.hc, .slice r.aA r.an r.ac, .slice r.iA r.iN r.ic, .slice r.bA r.bn r.bc] ∧ Ext w wr) ?_ ?_ (.cons rfl (.cons rfl (.nil)))
    · intro K8 hJ8
      refine Wc.seq (fun K9 hK9 => ?_)
      refine Wc.keep [(2, _), (3, _), (4, _), (9, _)] (.cons rfl (.cons rfl (.cons rfl (.cons rfl (.nil))))) ?_
      refine Wc.region ?_
      refine Wl.val rfl rfl rfl (Gives.move rfl rfl) ?_
      refine Wl.val rfl rfl rfl (Gives.rem rfl rfl rfl (by omega) (by first | exact Int.tmod_eq_emod_of_nonneg (by omega) | exact rfl)) ?_
      refine Wl.nil ?_
      refine Wx.thenN (hK9 _ _ ?_)
      refine Wc.block ?_
      refine Wc.seq (fun K10 hK10 => ?_)
      refine Wc.keep [(3, _), (4, _), (9, _), (27, _)] (.cons rfl (.cons rfl (.cons rfl (.cons rfl (.nil))))) ?_
      refine Wc.region ?_
      refine Wl.val rfl rfl rfl (Gives.eql rfl rfl rfl) ?_
      refine Wl.val rfl rfl rfl (Gives.assign rfl rfl) ?_
      refine Wl.nil ?_
      refine Wx.thenN (hK10 _ _ ?_)
      refine Wc.cond _ rfl (fun h28 => ?_) (fun h28 => ?_)
      · (first | replace h28 := of_decide_eq_true h28 | replace h28 := nd_true h28 | skip)
        refine Wc.keep [(3, _), (4, _), (9, _)] (.cons rfl (.cons rfl (.cons rfl (.nil)))) ?_
        refine Wc.region ?_
        refine Wl.val rfl rfl rfl (Gives.move rfl rfl) ?_
        refine Wl.val rfl rfl rfl (Gives.fieldAt 0 rfl Tryd.underlying33 rfl (by kernel_rfl) rfl rfl) ?_
        refine Wl.acts rfl rfl (Does.stC rfl rfl rfl hb9 (by kernel_rfl) (Nat.le_of_ble_eq_true rfl) rfl) ?_
        rintro _ w8_2 ⟨hbn, hF8_2⟩
        replace hb4 := hb4.fr hF8_2 (by first | assumption | exact Ne.symm (by assumption))
        replace hE := Ext.over hE hF8_2 hg9
        replace hb9 := hbn
        clear hbn
        (try simp only [List.setIfInBounds_toArray, List.set_cons_zero, List.set_cons_succ, Nat.reduceAdd, Nat.zero_add] at hb9)
        have hF0 : Fr (fun k => k < b9) w5_4 w8_2 := hF8_2.mono (fun k hk => by omega)
        refine Wl.nil ?_
        refine Wx.blockN ?_
        refine Wx.thenN ?_
        refine hJ8 ({ p with code := z }, ⟨hA, hn, hc, aA, an, ac, iA, iN, ic, bA, bn, bc⟩) _ _ (.cons rfl (.cons rfl (.nil))) ⟨⟨by first | omega | (dsimp only; omega) | (simp; omega), by first | omega | (dsimp only; omega) | (simp; omega), by first | omega | (dsimp only; omega) | (simp; omega), by first | omega | (dsimp only; omega) | (simp; omega)⟩, ⟨(hHv.fr (hF0.mono fun k hk => by omega)).mono (fun _ _ => trivial), (hUv.fr (hF0.mono fun k hk => by omega)).mono (fun _ _ => trivial), (hIv.fr (hF0.mono fun k hk => by omega)).mono (fun _ _ => trivial), (hBv.fr (hF0.mono fun k hk => by omega)).mono (fun _ _ => trivial)⟩, hb9, hb4, hE⟩
      · (first | replace h28 := of_decide_eq_false h28 | replace h28 := nd_false h28 | skip)
        refine Wc.seq (fun K11 hK11 => ?_)
        refine Wc.keep [(3, _), (4, _), (9, _), (27, _)] (.cons rfl (.cons rfl (.cons rfl (.cons rfl (.nil))))) ?_
        refine Wc.region ?_
        refine Wl.val rfl rfl rfl (Gives.eql rfl rfl rfl) ?_
        refine Wl.val rfl rfl rfl (Gives.assign rfl rfl) ?_
        refine Wl.nil ?_
        refine Wx.thenN (hK11 _ _ ?_)
        refine Wc.cond _ rfl (fun h32 => ?_) (fun h32 => ?_)
        · (first | replace h32 := of_decide_eq_true h32 | replace h32 := nd_true h32 | skip)
          refine Wc.keep [(3, _), (4, _), (9, _)] (.cons rfl (.cons rfl (.cons rfl (.nil)))) ?_
          refine Wc.region ?_
          refine Wl.val rfl rfl rfl (Gives.fieldAt 1 rfl Tryd.underlying33 rfl (by kernel_rfl) rfl rfl) ?_
          refine Wl.val rfl rfl rfl (Gives.ldK rfl (by kernel_rfl) rfl hb9 rfl) ?_
          refine Wl.val rfl rfl rfl (Gives.move rfl rfl) ?_
          refine Wl.does rfl rfl rfl (Does.lit rfl Tryd.underlying29 infoI2 rfl rfl rfl rfl rfl) ?_
          rintro _ w103 ⟨g103, rfl, hs103, hk103, hx103⟩
          replace hb4 := hb4.ext hx103
          replace hb9 := hb9.ext hx103
          replace hE := hE.trans hx103
          have hsz103 := hx103.size
          have hO3 := hH.own.ext hx103
          have hNO : ∀ k, (k < N1 ∨ (N2 ≤ k ∧ k < w103.heap.size)) → NOwn w103 (fun _ => True) (.slice hA hn hc) k := fun k hk => ⟨trivial, by omega, by rcases hk with h | h; exact ownB_lo hO3 h; exact ownB_hi hH.win h.1⟩
          refine Wl.does rfl rfl rfl (Does.appI' rfl rfl rfl hO3 hk103 (by omega) (by omega)) ?_
          rintro _ w104 ⟨B', c', rfl, hI2, hB104, hF104, hNN⟩
          replace hE := Ext.nown hE hF104 (fun k hk => hNO k (Or.inl (by omega)))
          have hne := (hNN b9 (hNO b9 (Or.inr ⟨by omega, by omega⟩))).2.2
          replace hb4 := hb4.fr hF104 (hNO b4 (Or.inl (by omega)))
          replace hb9 := hb9.fr hF104 (hNO b9 (Or.inr ⟨by omega, by omega⟩))
          have hUv2 := (hUv.ext hx103).fr (hF104.mono (fun k hk => hNO k (by omega)))
          have hIv2 := (hIv.ext hx103).fr (hF104.mono (fun k hk => hNO k (by omega)))
          have hBv2 := (hBv.ext hx103).fr (hF104.mono (fun k hk => hNO k (by omega)))
          refine Wl.val rfl rfl rfl (Gives.fieldAt 1 rfl Tryd.underlying33 rfl (by kernel_rfl) rfl rfl) ?_
          refine Wl.acts rfl rfl (Does.stC rfl rfl rfl hb9 (by kernel_rfl) (Nat.le_of_ble_eq_true rfl) rfl) ?_
          rintro _ w10_6 ⟨hbn, hF10_6⟩
          replace hb4 := hb4.fr hF10_6 (by first | assumption | exact Ne.symm (by assumption))
          replace hE := Ext.over hE hF10_6 hg9
          replace hb9 := hbn
          clear hbn
          (try simp only [List.setIfInBounds_toArray, List.set_cons_zero, List.set_cons_succ, Nat.reduceAdd, Nat.zero_add] at hb9)
          have hI3 := own_frN hI2 hF10_6 hne
          have hF0 : Fr (fun k => k < b9) w104 w10_6 := hF10_6.mono (fun k hk => by omega)
          refine Wl.nil ?_
          refine Wx.blockN ?_
          refine Wx.thenN ?_
          refine hJ8 (⟨p.code, p.hs ++ [z], p.us, p.is, p.bs⟩, ⟨B', hn + 1, c', aA, an, ac, iA, iN, ic, bA, bn, bc⟩) _ _ (.cons rfl (.cons rfl (.nil))) ⟨⟨by first | omega | (dsimp only; omega) | (simp; omega), by first | omega | (dsimp only; omega) | (simp; omega), by first | omega | (dsimp only; omega) | (simp; omega), by first | omega | (dsimp only; omega) | (simp; omega)⟩, ⟨OI.iv hI3 (fun _ _ => trivial), (hUv2.fr (hF0.mono fun k hk => by omega)).mono (fun _ _ => trivial), (hIv2.fr (hF0.mono fun k hk => by omega)).mono (fun _ _ => trivial), (hBv2.fr (hF0.mono fun k hk => by omega)).mono (fun _ _ => trivial)⟩, hb9, hb4, hE⟩
        · (first | replace h32 := of_decide_eq_false h32 | replace h32 := nd_false h32 | skip)
          refine Wc.seq (fun K12 hK12 => ?_)
          refine Wc.keep [(3, _), (4, _), (9, _), (27, _)] (.cons rfl (.cons rfl (.cons rfl (.cons rfl (.nil))))) ?_
          refine Wc.region ?_
          refine Wl.val rfl rfl rfl (Gives.eql rfl rfl rfl) ?_
          refine Wl.val rfl rfl rfl (Gives.assign rfl rfl) ?_
          refine Wl.nil ?_
          refine Wx.thenN (hK12 _ _ ?_)
          refine Wc.cond _ rfl (fun h40 => ?_) (fun h40 => ?_)
          · (first | replace h40 := of_decide_eq_true h40 | replace h40 := nd_true h40 | skip)
            refine Wc.seq (fun K13 hK13 => ?_)
            refine Wc.keep [(3, _), (4, _), (9, _)] (.cons rfl (.cons rfl (.cons rfl (.nil)))) ?_
            refine Wc.region ?_
            refine Wl.val rfl rfl rfl (Gives.fieldAt 1 rfl Tryd.underlying33 rfl (by kernel_rfl) rfl rfl) ?_
            refine Wl.val rfl rfl rfl (Gives.ldK rfl (by kernel_rfl) rfl hb9 rfl) ?_
            refine Wl.val rfl rfl rfl (Gives.lenS rfl Tryd.underlying29 rfl) ?_
            refine Wl.val rfl rfl rfl (Gives.gtr rfl rfl rfl) ?_
            refine Wl.nil ?_
            refine Wx.thenN (hK13 _ _ ?_)
            refine Wc.cond _ rfl (fun h45 => ?_) (fun h45 => ?_)
            · (first | replace h45 := of_decide_eq_true h45 | replace h45 := nd_true h45 | skip)
              refine Wc.keep [(3, _), (4, _), (9, _)] (.cons rfl (.cons rfl (.cons rfl (.nil)))) ?_
              obtain ⟨g, rfl, hg1, hg2⟩ := hH.own.head (show 0 < hn by omega)
              have hgN := hH.win g 0 none rfl
              refine Wc.region ?_
              refine Wl.val rfl rfl rfl (Gives.fieldAt 1 rfl Tryd.underlying33 rfl (by kernel_rfl) rfl rfl) ?_
              refine Wl.val rfl rfl rfl (Gives.ldK rfl (by kernel_rfl) rfl hb9 rfl) ?_
              refine Wl.val rfl rfl rfl (Gives.move rfl rfl) ?_
              refine Wl.val rfl rfl rfl (Gives.ixS (i := 0) rfl Tryd.underlying29 (by kernel_rfl) rfl rfl rfl (by omega)) ?_
              refine Wl.acts rfl rfl (Does.stR (i := 0) rfl rfl rfl rfl hH.own (by kernel_rfl) (by simp [i64s]; omega)) ?_
              rintro _ w134 ⟨hO2, hF134⟩
              rw [i64s_set] at hO2
              replace hE := Ext.over hE hF134 (by omega)
              replace hb4 := hb4.fr hF134 (by omega)
              replace hb9 := hb9.fr hF134 (by omega)
              refine Wl.nil ?_
              refine Wx.blockN ?_
              refine Wx.thenN ?_
              refine hJ8 (⟨p.code, p.hs.set 0 z, p.us, p.is, p.bs⟩, ⟨_, hn, hc, aA, an, ac, iA, iN, ic, bA, bn, bc⟩) _ _ (.cons rfl (.cons rfl (.nil))) ⟨⟨by first | omega | (dsimp only; omega) | (simp; omega), by first | omega | (dsimp only; omega) | (simp; omega), by first | omega | (dsimp only; omega) | (simp; omega), by first | omega | (dsimp only; omega) | (simp; omega)⟩, ⟨OI.iv hO2 (fun _ _ => trivial), (hUv.fr (hF134.mono fun k hk => by omega)).mono (fun _ _ => trivial), (hIv.fr (hF134.mono fun k hk => by omega)).mono (fun _ _ => trivial), (hBv.fr (hF134.mono fun k hk => by omega)).mono (fun _ _ => trivial)⟩, hb9, hb4, hE⟩
            · (first | replace h45 := of_decide_eq_false h45 | replace h45 := nd_false h45 | skip)
              refine Wc.skip ?_
              refine Wx.blockN ?_
              refine Wx.thenN ?_
              refine hJ8 (p, ⟨hA, hn, hc, aA, an, ac, iA, iN, ic, bA, bn, bc⟩) _ _ (.cons rfl (.cons rfl (.nil))) ⟨⟨by first | omega | (dsimp only; omega) | (simp; omega), by first | omega | (dsimp only; omega) | (simp; omega), by first | omega | (dsimp only; omega) | (simp; omega), by first | omega | (dsimp only; omega) | (simp; omega)⟩, ⟨hHv.mono (fun _ _ => trivial), hUv.mono (fun _ _ => trivial), hIv.mono (fun _ _ => trivial), hBv.mono (fun _ _ => trivial)⟩, hb9, hb4, hE⟩
          · (first | replace h40 := of_decide_eq_false h40 | replace h40 := nd_false h40 | skip)
            refine Wc.seq (fun K14 hK14 => ?_)
            refine Wc.keep [(3, _), (4, _), (9, _), (27, _)] (.cons rfl (.cons rfl (.cons rfl (.cons rfl (.nil))))) ?_
            refine Wc.region ?_
            refine Wl.val rfl rfl rfl (Gives.eql rfl rfl rfl) ?_
            refine Wl.val rfl rfl rfl (Gives.assign rfl rfl) ?_
            refine Wl.nil ?_
            refine Wx.thenN (hK14 _ _ ?_)
            refine Wc.cond _ rfl (fun h50 => ?_) (fun h50 => ?_)
            · (first | replace h50 := of_decide_eq_true h50 | replace h50 := nd_true h50 | skip)
              refine Wc.seq (fun K15 hK15 => ?_)
              refine Wc.keep [(3, _), (4, _), (9, _)] (.cons rfl (.cons rfl (.cons rfl (.nil)))) ?_
              refine Wc.region ?_
              refine Wl.val rfl rfl rfl (Gives.fieldAt 2 rfl Tryd.underlying33 rfl (by kernel_rfl) rfl rfl) ?_
              refine Wl.val rfl rfl rfl (Gives.ldK rfl (by kernel_rfl) rfl hb9 rfl) ?_
              refine Wl.val rfl rfl rfl (Gives.lenS rfl Tryd.underlying30 rfl) ?_
              refine Wl.val rfl rfl rfl (Gives.gtr rfl rfl rfl) ?_
              refine Wl.nil ?_
              refine Wx.thenN (hK15 _ _ ?_)
              refine Wc.cond _ rfl (fun h55 => ?_) (fun h55 => ?_)
              · (first | replace h55 := of_decide_eq_true h55 | replace h55 := nd_true h55 | skip)
                refine Wc.keep [(3, _), (4, _), (9, _)] (.cons rfl (.cons rfl (.cons rfl (.nil)))) ?_
                obtain ⟨g, rfl, hg1, hg2⟩ := hU.own.head (show 0 < an by omega)
                have hgN := hU.win g 0 none rfl
                obtain ⟨a0, ha0⟩ : ∃ a, p.us[0]? = some a := ⟨p.us[0], List.getElem?_eq_getElem (by omega)⟩
                obtain ⟨vs, hvo, hve, hv1⟩ := hU.own
                refine Wc.region ?_
                refine Wl.val rfl rfl rfl (Gives.fieldAt 2 rfl Tryd.underlying33 rfl (by kernel_rfl) rfl rfl) ?_
                refine Wl.val rfl rfl rfl (Gives.ldK rfl (by kernel_rfl) rfl hb9 rfl) ?_
                refine Wl.val rfl rfl rfl (Gives.move rfl rfl) ?_
                refine Wl.val rfl rfl rfl (Gives.ixSZ (i := 0) (sz := 3) rfl Tryd.underlying30 (by kernel_rfl) rfl rfl rfl (by omega)) ?_
                refine Wl.val rfl rfl rfl (Gives.fieldAt 0 rfl Tryd.underlying38 rfl (by kernel_rfl) rfl rfl) ?_
                refine Wl.acts rfl rfl (Does.stR (i := 0 * 3) rfl rfl rfl rfl hvo (by kernel_rfl) (by have := hve.1; omega)) ?_
                rintro _ w165 ⟨hO2, hF165⟩
                have hve2 : EachA w165 (fun _ => True) (vs.set (0 * 3) (.int .i64 z)) (p.us.set 0 { a0 with ses := z }) := ((hve.set z ha0).fr (hF165.mono (fun k hk => fun h => hk.2.2 (by rw [h]; rfl)))).mono (fun _ _ => trivial)
                replace hE := Ext.over hE hF165 (by omega)
                replace hb4 := hb4.fr hF165 (by omega)
                replace hb9 := hb9.fr hF165 (by omega)
                refine Wl.nil ?_
                refine Wx.blockN ?_
                refine Wx.thenN ?_
                refine hJ8 (⟨p.code, p.hs, p.us.set 0 { a0 with ses := z }, p.is, p.bs⟩, ⟨hA, hn, hc, _, an, ac, iA, iN, ic, bA, bn, bc⟩) _ _ (.cons rfl (.cons rfl (.nil))) ⟨⟨by first | omega | (dsimp only; omega) | (simp; omega), by first | omega | (dsimp only; omega) | (simp; omega), by first | omega | (dsimp only; omega) | (simp; omega), by first | omega | (dsimp only; omega) | (simp; omega)⟩, ⟨(hHv.fr (hF165.mono fun k hk => by omega)).mono (fun _ _ => trivial), ⟨_, Row.of_own hO2 (fun _ _ => trivial), hve2⟩, (hIv.fr (hF165.mono fun k hk => by omega)).mono (fun _ _ => trivial), (hBv.fr (hF165.mono fun k hk => by omega)).mono (fun _ _ => trivial)⟩, hb9, hb4, hE⟩
              · (first | replace h55 := of_decide_eq_false h55 | replace h55 := nd_false h55 | skip)
                refine Wc.skip ?_
                refine Wx.blockN ?_
                refine Wx.thenN ?_
                refine hJ8 (p, ⟨hA, hn, hc, aA, an, ac, iA, iN, ic, bA, bn, bc⟩) _ _ (.cons rfl (.cons rfl (.nil))) ⟨⟨by first | omega | (dsimp only; omega) | (simp; omega), by first | omega | (dsimp only; omega) | (simp; omega), by first | omega | (dsimp only; omega) | (simp; omega), by first | omega | (dsimp only; omega) | (simp; omega)⟩, ⟨hHv.mono (fun _ _ => trivial), hUv.mono (fun _ _ => trivial), hIv.mono (fun _ _ => trivial), hBv.mono (fun _ _ => trivial)⟩, hb9, hb4, hE⟩
            · (first | replace h50 := of_decide_eq_false h50 | replace h50 := nd_false h50 | skip)
              refine Wc.seq (fun K16 hK16 => ?_)
              refine Wc.keep [(3, _), (4, _), (9, _), (27, _)] (.cons rfl (.cons rfl (.cons rfl (.cons rfl (.nil))))) ?_
              refine Wc.region ?_
              refine Wl.val rfl rfl rfl (Gives.eql rfl rfl rfl) ?_
              refine Wl.val rfl rfl rfl (Gives.assign rfl rfl) ?_
              refine Wl.nil ?_
              refine Wx.thenN (hK16 _ _ ?_)
              refine Wc.cond _ rfl (fun h61 => ?_) (fun h61 => ?_)
              · (first | replace h61 := of_decide_eq_true h61 | replace h61 := nd_true h61 | skip)
                refine Wc.seq (fun K17 hK17 => ?_)
                refine Wc.keep [(3, _), (4, _), (9, _)] (.cons rfl (.cons rfl (.cons rfl (.nil)))) ?_
                refine Wc.region ?_
                refine Wl.val rfl rfl rfl (Gives.fieldAt 3 rfl Tryd.underlying33 rfl (by kernel_rfl) rfl rfl) ?_
                refine Wl.val rfl rfl rfl (Gives.ldK rfl (by kernel_rfl) rfl hb9 rfl) ?_
                refine Wl.val rfl rfl rfl (Gives.lenS rfl Tryd.underlying29 rfl) ?_
                refine Wl.val rfl rfl rfl (Gives.gtr rfl rfl rfl) ?_
                refine Wl.nil ?_
                refine Wx.thenN (hK17 _ _ ?_)
                refine Wc.cond _ rfl (fun h66 => ?_) (fun h66 => ?_)
                · (first | replace h66 := of_decide_eq_true h66 | replace h66 := nd_true h66 | skip)
                  refine Wc.keep [(3, _), (4, _), (9, _)] (.cons rfl (.cons rfl (.cons rfl (.nil)))) ?_
                  obtain ⟨g, rfl, hg1, hg2⟩ := hI.own.head (show 0 < iN by omega)
                  have hgN := hI.win g 0 none rfl
                  refine Wc.region ?_
                  refine Wl.val rfl rfl rfl (Gives.fieldAt 3 rfl Tryd.underlying33 rfl (by kernel_rfl) rfl rfl) ?_
                  refine Wl.val rfl rfl rfl (Gives.ldK rfl (by kernel_rfl) rfl hb9 rfl) ?_
                  refine Wl.val rfl rfl rfl (Gives.fieldAt 3 rfl Tryd.underlying33 rfl (by kernel_rfl) rfl rfl) ?_
                  refine Wl.val rfl rfl rfl (Gives.ldK rfl (by kernel_rfl) rfl hb9 rfl) ?_
                  refine Wl.val rfl rfl rfl (Gives.lenS rfl Tryd.underlying29 rfl) ?_
                  refine Wl.val rfl rfl rfl (Gives.sub rfl rfl rfl (by first | exact IntWalk.i64_in _ (by omega) | exact u64_in _ (by omega) | exact u32_in _ (by omega) | exact u8_in _ (by omega) | exact rfl)) ?_
                  refine Wl.val rfl rfl rfl (Gives.move rfl rfl) ?_
                  refine Wl.val rfl rfl rfl (Gives.ixS (i := (iN - 1)) rfl Tryd.underlying29 (by kernel_rfl) rfl rfl (by omega) (by omega)) ?_
                  refine Wl.acts rfl rfl (Does.stR (i := iN - 1) rfl rfl rfl rfl hI.own (by kernel_rfl) (by simp [i64s]; omega)) ?_
                  rintro _ w198 ⟨hO2, hF198⟩
                  rw [i64s_set] at hO2
                  replace hE := Ext.over hE hF198 (by omega)
                  replace hb4 := hb4.fr hF198 (by omega)
                  replace hb9 := hb9.fr hF198 (by omega)
                  refine Wl.nil ?_
                  refine Wx.blockN ?_
                  refine Wx.thenN ?_
                  refine hJ8 (⟨p.code, p.hs, p.us, p.is.set (iN - 1) z, p.bs⟩, ⟨hA, hn, hc, aA, an, ac, _, iN, ic, bA, bn, bc⟩) _ _ (.cons rfl (.cons rfl (.nil))) ⟨⟨by first | omega | (dsimp only; omega) | (simp; omega), by first | omega | (dsimp only; omega) | (simp; omega), by first | omega | (dsimp only; omega) | (simp; omega), by first | omega | (dsimp only; omega) | (simp; omega)⟩, ⟨(hHv.fr (hF198.mono fun k hk => by omega)).mono (fun _ _ => trivial), (hUv.fr (hF198.mono fun k hk => by omega)).mono (fun _ _ => trivial), OI.iv hO2 (fun _ _ => trivial), (hBv.fr (hF198.mono fun k hk => by omega)).mono (fun _ _ => trivial)⟩, hb9, hb4, hE⟩
                · (first | replace h66 := of_decide_eq_false h66 | replace h66 := nd_false h66 | skip)
                  refine Wc.skip ?_
                  refine Wx.blockN ?_
                  refine Wx.thenN ?_
                  refine hJ8 (p, ⟨hA, hn, hc, aA, an, ac, iA, iN, ic, bA, bn, bc⟩) _ _ (.cons rfl (.cons rfl (.nil))) ⟨⟨by first | omega | (dsimp only; omega) | (simp; omega), by first | omega | (dsimp only; omega) | (simp; omega), by first | omega | (dsimp only; omega) | (simp; omega), by first | omega | (dsimp only; omega) | (simp; omega)⟩, ⟨hHv.mono (fun _ _ => trivial), hUv.mono (fun _ _ => trivial), hIv.mono (fun _ _ => trivial), hBv.mono (fun _ _ => trivial)⟩, hb9, hb4, hE⟩
              · (first | replace h61 := of_decide_eq_false h61 | replace h61 := nd_false h61 | skip)
                refine Wc.seq (fun K18 hK18 => ?_)
                refine Wc.keep [(3, _), (4, _), (9, _), (27, _)] (.cons rfl (.cons rfl (.cons rfl (.cons rfl (.nil))))) ?_
                refine Wc.region ?_
                refine Wl.val rfl rfl rfl (Gives.eql rfl rfl rfl) ?_
                refine Wl.val rfl rfl rfl (Gives.assign rfl rfl) ?_
                refine Wl.nil ?_
                refine Wx.thenN (hK18 _ _ ?_)
                refine Wc.cond _ rfl (fun h75 => ?_) (fun h75 => ?_)
                · (first | replace h75 := of_decide_eq_true h75 | replace h75 := nd_true h75 | skip)
                  refine Wc.keep [(3, _), (4, _), (9, _)] (.cons rfl (.cons rfl (.cons rfl (.nil)))) ?_
                  obtain ⟨kk, hkk⟩ := Int.eq_ofNat_of_zero_le (Int.emod_nonneg z (show (2100 : Int) ≠ 0 by decide))
                  have hkk2 : kk < 2100 := by omega
                  refine Wc.regionB (fun q => [1].contains q) [] (.read 0 (.read 1 (.read 2 (.read 3 (.call false 4 (.call false 5 .tail .none) .none))))) 6 (by kernel_rfl) (by kernel_rfl) (by kernel_rfl) ?_
                  intro w21 hR21
                  replace hb4 := hb4.ext hR21.ext
                  replace hb9 := hb9.ext hR21.ext
                  replace hE := hE.trans hR21.ext
                  have hO21_4 : Old w21.heap.size [] b4 := ⟨hb4.lt, trivial⟩
                  have hO21_9 : Old w21.heap.size [] b9 := ⟨hb9.lt, trivial⟩
                  have hX := Ext.refl w21
                  refine RunE.read rfl rfl rfl rfl (fun wS _ => (Gives.fieldAt 4 rfl Tryd.underlying33 rfl (by kernel_rfl) rfl rfl)) ?_
                  refine RunE.readM rfl rfl rfl rfl rfl (fun wS hS => (Gives.ldK rfl (by kernel_rfl) rfl ((hb9.ext hX).fr hS hO21_9) rfl)) ?_
                  refine RunE.read rfl rfl rfl rfl (fun wS _ => (Gives.move rfl rfl)) ?_
                  refine RunE.read rfl rfl rfl rfl (fun wS _ => (Gives.call rfl Tryd.func15 rfl (by kernel_rfl) rfl (mod_calls _ _ _ (by omega) (by omega)))) ?_
                  refine RunE.turn rfl rfl rfl rfl (Does.mkM kk rfl rfl Tryd.underlying36 infoB rfl hkk rfl (by omega)) ?_ RunE.none
                  rintro _ w214 ⟨gm, rfl, hgm, hMm, hx214⟩
                  refine ⟨hx214.fr, ?_⟩
                  replace hX := hX.trans hx214
                  refine RunE.turn rfl rfl rfl rfl (Does.lit rfl Tryd.underlying31 infoL2 rfl rfl rfl rfl rfl) ?_ RunE.none
                  rintro _ w215 ⟨g215, rfl, hs215, hk215, hx215⟩
                  refine ⟨hx215.fr, ?_⟩
                  replace hX := hX.trans hx215
                  have hy21 := (hR21.ext.trans hx214).trans hx215
                  have hsz215 := hy21.size
                  have hszR := hR21.ext.size
                  have hsz215b := hx215.size
                  have hL3 := hL.ext hy21
                  obtain ⟨vs1, ho1⟩ := hL3.own
                  obtain ⟨vs0, ho0⟩ := hL.own
                  have hZB : BV w215 (NOwn w215 (fun k => k ≠ b9) (.slice bA bn bc)) (some ⟨gm, 0, none⟩) kk kk (List.replicate kk 0) := (MB.bv (P := fun k => k = gm) hMm rfl (by simp) (Nat.le_refl _) (by omega)).ext hx215 |>.bd.mono (fun k hk => ⟨by omega, hk.2, fun he => by have := (own_lt ho0 k he).2; omega⟩)
                  have hNO : ∀ k, k < N4 ∨ k = b9 → NOwn w215 (fun _ => True) (.slice bA bn bc) k := fun k hk => ⟨trivial, by omega, by rcases hk with h | h; exact ownB_lo ho1 h; exact ownB_hi hLW (by omega)⟩
                  refine RunE.tail rfl ?_
                  replace hb4 := hb4.ext hX
                  replace hb9 := hb9.ext hX
                  replace hE := hE.trans hX
                  refine Wl.does rfl rfl rfl (Does.appL' rfl rfl rfl hL3 hk215 hZB (by omega) (by omega)) ?_
                  rintro _ w216 ⟨B', c', rfl, hL4, hB216, hF216, hNN⟩
                  replace hE := Ext.nown hE hF216 (fun k hk => hNO k (Or.inl (by omega)))
                  have hne := (hNN b9 (hNO b9 (Or.inr rfl))).2.2
                  replace hb4 := hb4.fr hF216 (hNO b4 (Or.inl (by omega)))
                  replace hb9 := hb9.fr hF216 (hNO b9 (Or.inr rfl))
                  have hHv2 := (hHv.ext hy21).fr (hF216.mono (fun k hk => hNO k (by omega)))
                  have hUv2 := (hUv.ext hy21).fr (hF216.mono (fun k hk => hNO k (by omega)))
                  have hIv2 := (hIv.ext hy21).fr (hF216.mono (fun k hk => hNO k (by omega)))
                  have hn9m : gm ≠ b9 := by omega
                  refine Wl.val rfl rfl rfl (Gives.fieldAt 4 rfl Tryd.underlying33 rfl (by kernel_rfl) rfl rfl) ?_
                  refine Wl.acts rfl rfl (Does.stC rfl rfl rfl hb9 (by kernel_rfl) (Nat.le_of_ble_eq_true rfl) rfl) ?_
                  rintro _ w21_8 ⟨hbn, hF21_8⟩
                  replace hb4 := hb4.fr hF21_8 (by first | assumption | exact Ne.symm (by assumption))
                  replace hE := Ext.over hE hF21_8 hg9
                  replace hb9 := hbn
                  clear hbn
                  (try simp only [List.setIfInBounds_toArray, List.set_cons_zero, List.set_cons_succ, Nat.reduceAdd, Nat.zero_add] at hb9)
                  have hF0 : Fr (fun k => k < b9) w216 w21_8 := hF21_8.mono (fun k hk => by omega)
                  have hL5 : OL w21_8 (fun k => k ≠ b9) N4 B' (bn + 1) c' (p.bs ++ [List.replicate kk 0]) := OL.frN hL4 hF21_8 hne (fun _ h => h)
                  refine Wl.nil ?_
                  refine Wx.blockN ?_
                  refine Wx.thenN ?_
                  refine hJ8 (⟨p.code, p.hs, p.us, p.is, p.bs ++ [List.replicate kk 0]⟩, ⟨hA, hn, hc, aA, an, ac, iA, iN, ic, B', bn + 1, c'⟩) _ _ (.cons rfl (.cons rfl (.nil))) ⟨⟨by first | omega | (dsimp only; omega) | (simp; omega), by first | omega | (dsimp only; omega) | (simp; omega), by first | omega | (dsimp only; omega) | (simp; omega), by first | omega | (dsimp only; omega) | (simp; omega)⟩, ⟨(hHv2.fr (hF0.mono fun k hk => by omega)).mono (fun _ _ => trivial), (hUv2.fr (hF0.mono fun k hk => by omega)).mono (fun _ _ => trivial), (hIv2.fr (hF0.mono fun k hk => by omega)).mono (fun _ _ => trivial), hL5.bl (fun _ _ => trivial) (fun _ _ => trivial)⟩, hb9, hb4, hE⟩
                · (first | replace h75 := of_decide_eq_false h75 | replace h75 := nd_false h75 | skip)
                  refine Wc.seq (fun K19 hK19 => ?_)
                  refine Wc.keep [(3, _), (4, _), (9, _), (27, _)] (.cons rfl (.cons rfl (.cons rfl (.cons rfl (.nil))))) ?_
                  refine Wc.region ?_
                  refine Wl.val rfl rfl rfl (Gives.eql rfl rfl rfl) ?_
                  refine Wl.val rfl rfl rfl (Gives.assign rfl rfl) ?_
                  refine Wl.nil ?_
                  refine Wx.thenN (hK19 _ _ ?_)
                  refine Wc.cond _ rfl (fun h85 => ?_) (fun h85 => ?_)
                  · (first | replace h85 := of_decide_eq_true h85 | replace h85 := nd_true h85 | skip)
                    refine Wc.seq (fun K20 hK20 => ?_)
                    refine Wc.keep [(3, _), (4, _), (9, _)] (.cons rfl (.cons rfl (.cons rfl (.nil)))) ?_
                    refine Wc.region ?_
                    refine Wl.val rfl rfl rfl (Gives.fieldAt 4 rfl Tryd.underlying33 rfl (by kernel_rfl) rfl rfl) ?_
                    refine Wl.val rfl rfl rfl (Gives.ldK rfl (by kernel_rfl) rfl hb9 rfl) ?_
                    refine Wl.val rfl rfl rfl (Gives.lenS rfl Tryd.underlying31 rfl) ?_
                    refine Wl.val rfl rfl rfl (Gives.gtr rfl rfl rfl) ?_
                    refine Wl.nil ?_
                    refine Wx.thenN (hK20 _ _ ?_)
                    refine Wc.cond _ rfl (fun h90 => ?_) (fun h90 => ?_)
                    · (first | replace h90 := of_decide_eq_true h90 | replace h90 := nd_true h90 | skip)
                      refine Wc.keep [(3, _), (4, _), (9, _)] (.cons rfl (.cons rfl (.cons rfl (.nil)))) ?_
                      obtain ⟨kk, hkk⟩ := Int.eq_ofNat_of_zero_le (Int.emod_nonneg z (show (2100 : Int) ≠ 0 by decide))
                      have hkk2 : kk < 2100 := by omega
                      obtain ⟨g, rfl, hg1, hg2⟩ := hL.head (show 0 < bn by omega)
                      have hgN := hLW g 0 none rfl
                      refine Wc.regionB (fun q => [1].contains q) [] (.read 0 (.read 1 (.read 2 (.read 3 (.call false 4 .tail .none))))) 5 (by kernel_rfl) (by kernel_rfl) (by kernel_rfl) ?_
                      intro w24 hR24
                      replace hb4 := hb4.ext hR24.ext
                      replace hb9 := hb9.ext hR24.ext
                      replace hE := hE.trans hR24.ext
                      have hO24_4 : Old w24.heap.size [] b4 := ⟨hb4.lt, trivial⟩
                      have hO24_9 : Old w24.heap.size [] b9 := ⟨hb9.lt, trivial⟩
                      have hX := Ext.refl w24
                      refine RunE.read rfl rfl rfl rfl (fun wS _ => (Gives.fieldAt 4 rfl Tryd.underlying33 rfl (by kernel_rfl) rfl rfl)) ?_
                      refine RunE.readM rfl rfl rfl rfl rfl (fun wS hS => (Gives.ldK rfl (by kernel_rfl) rfl ((hb9.ext hX).fr hS hO24_9) rfl)) ?_
                      refine RunE.read rfl rfl rfl rfl (fun wS _ => (Gives.move rfl rfl)) ?_
                      refine RunE.read rfl rfl rfl rfl (fun wS _ => (Gives.call rfl Tryd.func15 rfl (by kernel_rfl) rfl (mod_calls _ _ _ (by omega) (by omega)))) ?_
                      refine RunE.turn rfl rfl rfl rfl (Does.mkM kk rfl rfl Tryd.underlying36 infoB rfl hkk rfl (by omega)) ?_ RunE.none
                      rintro _ w244 ⟨gm, rfl, hgm, hMm, hx244⟩
                      refine ⟨hx244.fr, ?_⟩
                      replace hX := hX.trans hx244
                      have hy24 := hR24.ext.trans hx244
                      have hsz244 := hy24.size
                      have hszR := hR24.ext.size
                      have hL3 := hL.ext hy24
                      obtain ⟨vs, hvo, hve⟩ := hL3
                      have hve3 : Each w244 (fun k => k ≠ g) vs p.bs := hve.mono (fun k hk => fun h => hk.2.2 (by rw [h]; rfl))
                      have hZB : BV w244 (fun k => k ≠ g) (some ⟨gm, 0, none⟩) kk kk (List.replicate kk 0) := MB.bv hMm (by omega) (by simp) (Nat.le_refl _) (by omega)
                      refine RunE.tail rfl ?_
                      replace hb4 := hb4.ext hX
                      replace hb9 := hb9.ext hX
                      replace hE := hE.trans hX
                      refine Wl.val rfl rfl rfl (Gives.ixS (i := 0) rfl Tryd.underlying31 (by kernel_rfl) rfl rfl rfl (by omega)) ?_
                      refine Wl.acts rfl rfl (Does.stR (i := 0) rfl rfl rfl rfl hvo (by kernel_rfl) (by have := hve.1; omega)) ?_
                      rintro _ w246 ⟨hO2, hF246⟩
                      have hve4 : Each w246 (fun _ => True) (vs.set 0 (.slice (some ⟨gm, 0, none⟩) kk kk)) (p.bs.set 0 (List.replicate kk 0)) := ((hve3.set hZB).fr hF246).mono (fun _ _ => trivial)
                      replace hE := Ext.over hE hF246 (by omega)
                      replace hb4 := hb4.fr hF246 (by omega)
                      replace hb9 := hb9.fr hF246 (by omega)
                      refine Wl.nil ?_
                      refine Wx.blockN ?_
                      refine Wx.thenN ?_
                      refine hJ8 (⟨p.code, p.hs, p.us, p.is, p.bs.set 0 (List.replicate kk 0)⟩, ⟨hA, hn, hc, aA, an, ac, iA, iN, ic, _, bn, bc⟩) _ _ (.cons rfl (.cons rfl (.nil))) ⟨⟨by first | omega | (dsimp only; omega) | (simp; omega), by first | omega | (dsimp only; omega) | (simp; omega), by first | omega | (dsimp only; omega) | (simp; omega), by first | omega | (dsimp only; omega) | (simp; omega)⟩, ⟨((hHv.ext hy24).fr (hF246.mono fun k hk => by omega)).mono (fun _ _ => trivial), ((hUv.ext hy24).fr (hF246.mono fun k hk => by omega)).mono (fun _ _ => trivial), ((hIv.ext hy24).fr (hF246.mono fun k hk => by omega)).mono (fun _ _ => trivial), ⟨_, Row.of_own hO2 (fun _ _ => trivial), hve4⟩⟩, hb9, hb4, hE⟩
                    · (first | replace h90 := of_decide_eq_false h90 | replace h90 := nd_false h90 | skip)
                      refine Wc.skip ?_
                      refine Wx.blockN ?_
                      refine Wx.thenN ?_
                      refine hJ8 (p, ⟨hA, hn, hc, aA, an, ac, iA, iN, ic, bA, bn, bc⟩) _ _ (.cons rfl (.cons rfl (.nil))) ⟨⟨by first | omega | (dsimp only; omega) | (simp; omega), by first | omega | (dsimp only; omega) | (simp; omega), by first | omega | (dsimp only; omega) | (simp; omega), by first | omega | (dsimp only; omega) | (simp; omega)⟩, ⟨hHv.mono (fun _ _ => trivial), hUv.mono (fun _ _ => trivial), hIv.mono (fun _ _ => trivial), hBv.mono (fun _ _ => trivial)⟩, hb9, hb4, hE⟩
                  · (first | replace h85 := of_decide_eq_false h85 | replace h85 := nd_false h85 | skip)
                    refine Wc.skip ?_
                    refine Wx.blockN ?_
                    refine Wx.thenN ?_
                    refine hJ8 (p, ⟨hA, hn, hc, aA, an, ac, iA, iN, ic, bA, bn, bc⟩) _ _ (.cons rfl (.cons rfl (.nil))) ⟨⟨by first | omega | (dsimp only; omega) | (simp; omega), by first | omega | (dsimp only; omega) | (simp; omega), by first | omega | (dsimp only; omega) | (simp; omega), by first | omega | (dsimp only; omega) | (simp; omega)⟩, ⟨hHv.mono (fun _ _ => trivial), hUv.mono (fun _ _ => trivial), hIv.mono (fun _ _ => trivial), hBv.mono (fun _ _ => trivial)⟩, hb9, hb4, hE⟩
    intro ⟨p, rp⟩ wJ hJ
    clear hb9 hb4 hE
    obtain ⟨hfp, hp, hb9, hb4, hE⟩ := hJ
    refine Wc.seq (fun K21 hK21 => ?_)
    refine Wc.keep [(4, _), (9, _)] (.cons rfl (.cons rfl (.nil))) ?_
    refine Wc.region ?_
    refine Wl.val rfl rfl rfl (Gives.ldW rfl (by kernel_rfl) rfl hb9 (by kernel_rfl)) ?_
    refine Wl.call rfl rfl rfl rfl Tryd.func16 rfl (by kernel_rfl) rfl (encodeP_calls (P := fun _ => True) _ (hT.ext hE) p rp hp hfp) ?_
    rintro x3 w25 ⟨S1, m1, c1, rfl, hO1, hx3⟩
    refine ⟨_, rfl, ?_⟩
    replace hp := hp.ext hx3
    have hB1 := hO1.bv (P := fun _ => True) (fun _ _ => trivial)
    replace hb4 := hb4.ext hx3
    replace hb9 := hb9.ext hx3
    replace hE := hE.trans hx3
    refine Wl.val rfl rfl rfl (Gives.move rfl rfl) ?_
    refine Wl.val rfl rfl rfl (Gives.extract rfl rfl rfl) ?_
    refine Wl.val rfl rfl rfl (Gives.extract rfl rfl rfl) ?_
    refine Wl.val rfl rfl rfl (Gives.assign rfl rfl) ?_
    refine Wl.val rfl rfl rfl (Gives.assign rfl rfl) ?_
    refine Wl.nil ?_
    refine Wx.thenN (hK21 _ _ ?_)
    refine Wc.seq (fun K22 hK22 => ?_)
    refine Wc.keep [(4, _), (9, _), (10, _), (11, _)] (.cons rfl (.cons rfl (.cons rfl (.cons rfl (.nil))))) ?_
    refine Wc.region ?_
    refine Wl.val rfl rfl rfl (Gives.ldW rfl (by kernel_rfl) rfl hb9 (by kernel_rfl)) ?_
    refine Wl.call rfl rfl rfl rfl Tryd.func17 rfl (by kernel_rfl) rfl (encodeR_calls (P := fun _ => True) _ p rp hp hfp) ?_
    rintro x4 w26 ⟨S2, m2, c2, rfl, hO2, hx4⟩
    refine ⟨_, rfl, ?_⟩
    replace hp := hp.ext hx4
    replace hB1 := hB1.ext hx4
    have hB2 := hO2.bv (P := fun _ => True) (fun _ _ => trivial)
    replace hb4 := hb4.ext hx4
    replace hb9 := hb9.ext hx4
    replace hE := hE.trans hx4
    refine Wl.val rfl rfl rfl (Gives.move rfl rfl) ?_
    refine Wl.val rfl rfl rfl (Gives.extract rfl rfl rfl) ?_
    refine Wl.val rfl rfl rfl (Gives.extract rfl rfl rfl) ?_
    refine Wl.val rfl rfl rfl (Gives.assign rfl rfl) ?_
    refine Wl.val rfl rfl rfl (Gives.assign rfl rfl) ?_
    refine Wl.nil ?_
    refine Wx.thenN (hK22 _ _ ?_)
    refine Wc.seq (fun K23 hK23 => ?_)
    refine Wc.keep [(4, _), (9, _), (10, _), (11, _), (12, _), (13, _)] (.cons rfl (.cons rfl (.cons rfl (.cons rfl (.cons rfl (.cons rfl (.nil))))))) ?_
    refine Wc.region ?_
    refine Wl.val rfl rfl rfl (Gives.ldW rfl (by kernel_rfl) rfl hb4 (by kernel_rfl)) ?_
    refine Wl.call rfl rfl rfl rfl Tryd.func16 rfl (by kernel_rfl) rfl (encodeP_calls (P := fun _ => True) _ (hT.ext hE) q r (hq.ext hE) hfq) ?_
    rintro x5 w27 ⟨S3, m3, c3, rfl, hO3, hx5⟩
    refine ⟨_, rfl, ?_⟩
    replace hp := hp.ext hx5
    replace hB1 := hB1.ext hx5
    replace hB2 := hB2.ext hx5
    have hB3 := hO3.bv (P := fun _ => True) (fun _ _ => trivial)
    replace hb4 := hb4.ext hx5
    replace hb9 := hb9.ext hx5
    replace hE := hE.trans hx5
    refine Wl.val rfl rfl rfl (Gives.move rfl rfl) ?_
    refine Wl.val rfl rfl rfl (Gives.extract rfl rfl rfl) ?_
    refine Wl.val rfl rfl rfl (Gives.extract rfl rfl rfl) ?_
    refine Wl.val rfl rfl rfl (Gives.assign rfl rfl) ?_
    refine Wl.val rfl rfl rfl (Gives.assign rfl rfl) ?_
    refine Wl.nil ?_
    refine Wx.thenN (hK23 _ _ ?_)
    refine Wc.seq (fun K24 hK24 => ?_)
    refine Wc.keep [(4, _), (9, _), (10, _), (11, _), (12, _), (13, _), (14, _), (15, _)] (.cons rfl (.cons rfl (.cons rfl (.cons rfl (.cons rfl (.cons rfl (.cons rfl (.cons rfl (.nil))))))))) ?_
    refine Wc.region ?_
    refine Wl.val rfl rfl rfl (Gives.ldW rfl (by kernel_rfl) rfl hb4 (by kernel_rfl)) ?_
    refine Wl.call rfl rfl rfl rfl Tryd.func17 rfl (by kernel_rfl) rfl (encodeR_calls (P := fun _ => True) _ q r (hq.ext hE) hfq) ?_
    rintro x6 w28 ⟨S4, m4, c4, rfl, hO4, hx6⟩
    refine ⟨_, rfl, ?_⟩
    replace hp := hp.ext hx6
    replace hB1 := hB1.ext hx6
    replace hB2 := hB2.ext hx6
    replace hB3 := hB3.ext hx6
    have hB4 := hO4.bv (P := fun _ => True) (fun _ _ => trivial)
    replace hb4 := hb4.ext hx6
    replace hb9 := hb9.ext hx6
    replace hE := hE.trans hx6
    refine Wl.val rfl rfl rfl (Gives.move rfl rfl) ?_
    refine Wl.val rfl rfl rfl (Gives.extract rfl rfl rfl) ?_
    refine Wl.val rfl rfl rfl (Gives.extract rfl rfl rfl) ?_
    refine Wl.val rfl rfl rfl (Gives.assign rfl rfl) ?_
    refine Wl.val rfl rfl rfl (Gives.assign rfl rfl) ?_
    refine Wl.nil ?_
    refine Wx.thenN (hK24 _ _ ?_)
    refine Wc.seq (fun K25 hK25 => ?_)
    refine Wc.keep [(4, _), (9, _), (10, _), (11, _), (12, _), (13, _), (14, _), (15, _), (16, _), (17, _)] (.cons rfl (.cons rfl (.cons rfl (.cons rfl (.cons rfl (.cons rfl (.cons rfl (.cons rfl (.cons rfl (.cons rfl (.nil))))))))))) ?_
    refine Wc.regionB (fun q => [0, 1, 2, 3, 6, 7, 8, 9, 20].contains q) [] (.read 0 (.read 2 (.call false 1 (.call true 3 (.read 4 (.read 5 (.read 6 (.read 8 (.call false 7 (.call true 9 (.read 10 (.read 11 (.read 12 (.read 13 (.read 14 (.read 15 (.read 16 (.read 17 (.read 18 (.read 19 (.call true 20 (.read 21 (.read 22 (.read 23 (.read 24 (.read 25 (.read 26 (.read 27 (.read 28 (.read 29 .tail))))))))) .none))))))))))) .none) .none))))) .none) .none))) 30 (by kernel_rfl) (by kernel_rfl) (by kernel_rfl) ?_
    intro w29 hR29
    replace hb4 := hb4.ext hR29.ext
    replace hb9 := hb9.ext hR29.ext
    replace hE := hE.trans hR29.ext
    have hO29_4 : Old w29.heap.size [] b4 := ⟨hb4.lt, trivial⟩
    have hO29_9 : Old w29.heap.size [] b9 := ⟨hb9.lt, trivial⟩
    have hX := Ext.refl w29
    replace hp := hp.ext hR29.ext
    replace hB1 := hB1.ext hR29.ext
    replace hB2 := hB2.ext hR29.ext
    replace hB3 := hB3.ext hR29.ext
    replace hB4 := hB4.ext hR29.ext
    refine RunE.readM rfl rfl rfl rfl rfl (fun wS hS => (Gives.ldW rfl (by kernel_rfl) rfl ((hb9.ext hX).fr hS hO29_9) (by kernel_rfl))) ?_
    refine RunE.readM rfl rfl rfl rfl rfl (fun wS hS => (Gives.ldW rfl (by kernel_rfl) rfl ((hb9.ext hX).fr hS hO29_9) (by kernel_rfl))) ?_
    refine RunE.turnC rfl rfl rfl rfl rfl Tryd.func18 rfl (by kernel_rfl) rfl (checkP_calls (P := fun _ => True) _ (hT.ext (hE.trans hX)) p rp (hp.ext hX) hfp) ?_ RunE.none
    rintro x7 w291 ⟨rfl, hx7⟩
    refine ⟨_, rfl, ?_⟩
    refine ⟨hx7.fr, ?_⟩
    replace hX := hX.trans hx7
    refine RunE.freeC rfl rfl rfl rfl rfl Tryd.func19 rfl (by kernel_rfl) rfl (checkR_calls (P := fun _ => True) _ p rp (hp.ext hX) hfp) ?_ RunE.none
    rintro x8 w293 ⟨rfl, hx8⟩
    refine ⟨_, rfl, ?_⟩
    replace hX := hX.trans hx8
    refine RunE.read rfl rfl rfl rfl (fun wS _ => (Gives.eql rfl rfl rfl)) ?_
    refine RunE.read rfl rfl rfl rfl (fun wS _ => (Gives.move rfl rfl)) ?_
    refine RunE.fix (t := 122) true rfl (by simp) ?_
    refine RunE.readM rfl rfl rfl rfl rfl (fun wS hS => (Gives.ldW rfl (by kernel_rfl) rfl ((hb4.ext hX).fr hS hO29_4) (by kernel_rfl))) ?_
    refine RunE.readM rfl rfl rfl rfl rfl (fun wS hS => (Gives.ldW rfl (by kernel_rfl) rfl ((hb4.ext hX).fr hS hO29_4) (by kernel_rfl))) ?_
    refine RunE.turnC rfl rfl rfl rfl rfl Tryd.func18 rfl (by kernel_rfl) rfl (checkP_calls (P := fun _ => True) _ (hT.ext (hE.trans hX)) q r (hq.ext (hE.trans hX)) hfq) ?_ RunE.none
    rintro x9 w297 ⟨rfl, hx9⟩
    refine ⟨_, rfl, ?_⟩
    refine ⟨hx9.fr, ?_⟩
    replace hX := hX.trans hx9
    refine RunE.freeC rfl rfl rfl rfl rfl Tryd.func19 rfl (by kernel_rfl) rfl (checkR_calls (P := fun _ => True) _ q r (hq.ext (hE.trans hX)) hfq) ?_ RunE.none
    rintro x10 w299 ⟨rfl, hx10⟩
    refine ⟨_, rfl, ?_⟩
    replace hX := hX.trans hx10
    refine RunE.read rfl rfl rfl rfl (fun wS _ => (Gives.eql rfl rfl rfl)) ?_
    refine RunE.read rfl rfl rfl rfl (fun wS _ => (Gives.pickT rfl rfl rfl rfl)) ?_
    refine RunE.read rfl rfl rfl rfl (fun wS _ => (Gives.move rfl rfl)) ?_
    refine RunE.fix (t := 129) true rfl (by simp) ?_
    refine RunE.read rfl rfl rfl rfl (fun wS _ => (Gives.move rfl rfl)) ?_
    refine RunE.read rfl rfl rfl rfl (fun wS _ => (Gives.move rfl rfl)) ?_
    refine RunE.read rfl rfl rfl rfl (fun wS _ => (Gives.eql rfl rfl rfl)) ?_
    refine RunE.read rfl rfl rfl rfl (fun wS _ => (Gives.pickT rfl rfl rfl rfl)) ?_
    refine RunE.read rfl rfl rfl rfl (fun wS _ => (Gives.move rfl rfl)) ?_
    refine RunE.fix (t := 134) true rfl (by simp) ?_
    refine RunE.read rfl rfl rfl rfl (fun wS _ => (Gives.move rfl rfl)) ?_
    refine RunE.read rfl rfl rfl rfl (fun wS _ => (Gives.move rfl rfl)) ?_
    refine RunE.freeC rfl rfl rfl rfl rfl Tryd.func20 rfl (by kernel_rfl) rfl (same_calls _ _ _ _ _ _ _ _ _ (hB1.ext hX) (hB2.ext hX)) ?_ RunE.none
    rintro x11 w2920 ⟨rfl, hQ11⟩
    refine ⟨_, rfl, ?_⟩
    have hx11 := hQ11.ext
    replace hX := hX.trans hx11
    refine RunE.read rfl rfl rfl rfl (fun wS _ => (Gives.pickT rfl rfl rfl rfl)) ?_
    refine RunE.read rfl rfl rfl rfl (fun wS _ => (Gives.move rfl rfl)) ?_
    refine RunE.fix (t := 139) true rfl (by simp) ?_
    refine RunE.read rfl rfl rfl rfl (fun wS _ => (Gives.move rfl rfl)) ?_
    refine RunE.read rfl rfl rfl rfl (fun wS _ => (Gives.move rfl rfl)) ?_
    refine RunE.read rfl rfl rfl rfl (fun wS _ => (Gives.eql rfl rfl rfl)) ?_
    refine RunE.read rfl rfl rfl rfl (fun wS _ => (Gives.pickT rfl rfl rfl rfl)) ?_
    refine RunE.read rfl rfl rfl rfl (fun wS _ => (Gives.move rfl rfl)) ?_
    refine RunE.fix (t := 144) true rfl (by simp) ?_
    refine RunE.read rfl rfl rfl rfl (fun wS _ => (Gives.move rfl rfl)) ?_
    refine RunE.read rfl rfl rfl rfl (fun wS _ => (Gives.move rfl rfl)) ?_
    refine RunE.tail rfl ?_
    replace hb4 := hb4.ext hX
    replace hb9 := hb9.ext hX
    replace hE := hE.trans hX
    refine Wl.call rfl rfl rfl rfl Tryd.func20 rfl (by kernel_rfl) rfl (same_calls _ _ _ _ _ _ _ _ _ (hB3.ext hX) (hB4.ext hX)) ?_
    rintro x12 w2930 ⟨rfl, hQ12⟩
    refine ⟨_, rfl, ?_⟩
    have hx12 := hQ12.ext
    replace hb4 := hb4.ext hx12
    replace hb9 := hb9.ext hx12
    replace hE := hE.trans hx12
    refine Wl.val rfl rfl rfl (Gives.pickT rfl rfl rfl rfl) ?_
    refine Wl.val rfl rfl rfl (Gives.assign rfl rfl) ?_
    refine Wl.nil ?_
    refine Wx.thenN (hK25 _ _ ?_)
    refine Wc.ret ?_
    refine Wx.ret [_] ⟨rfl, trivial⟩ ?_
    first | exact ⟨rfl, hE⟩ | exact ⟨rb (by simp), hE⟩
end Go.Proofs.YtaekpiejdgahfaaDoor
