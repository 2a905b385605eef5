/- Commands: a request that has the shape of its command. -/
import Derived.Test.YtaekpiejdgahfaaDoorOwnW
namespace Go.Proofs.YtaekpiejdgahfaaDoor
set_option linter.all false
open Go.RowKit
/-- What is made. -/
def ShR (w : World) (e : Ending) (w' : World) : Prop := ∃ q r N1 N2 N3 N4, e = .returned (.agg #[.int .i64 q.code, .slice r.hA r.hn r.hc, .slice r.aA r.an r.ac, .slice r.iA r.iN r.ic, .slice r.bA r.bn r.bc]) ∧ ShQ w' w.heap.size N1 N2 N3 N4 q r ∧ (shapeS q.code).ok = true ∧ argOk q (shapeS q.code) = true ∧ Ext w w'
theorem old_nown {w w0 : World} {N base size n c nn nc : Nat} {e : TypeId} {A B : Option Addr} {xs : List Value} {l : List UInt8} {S : Nat → Prop} (h : BV w (fun k => k < N) A nn nc l) (ho : w0.ownsRow base e size (.slice B n c) n xs) (hN : N ≤ base) (hS : ∀ k, k < N → S k) : BV w (NOwn w S (.slice B n c)) A nn nc l :=
  h.bd.mono fun k hk => ⟨hS k hk.1, hk.2, fun he => by have := (own_lt ho k he).1; omega⟩
set_option maxHeartbeats 4000000 in
set_option maxRecDepth 10000 in
theorem shaped_calls {P : Nat → Prop} (w : World) (q : Req) (r : RA) (hq : ReqV w P q r) (code : Int) :
    Calls Tryd.prog 14 #[.agg #[.int .i64 q.code, .slice r.hA r.hn r.hc, .slice r.aA r.an r.ac, .slice r.iA r.iN r.ic, .slice r.bA r.bn r.bc], .int .i64 code] w (ShR w) := by
  obtain ⟨hA, hn, hc, aA, an, ac, iA, iN, ic, bA, bn, bc⟩ := r
  have hhs : IV w P hA hn hc q.hs := hq.hs
  have hus : AV w P aA an ac q.us := hq.us
  have his : IV w P iA iN ic q.is := hq.is
  have hbs : BL w P bA bn bc q.bs := hq.bs
  clear hq
  have hle1 := hhs.le
  have hle2 := hus.le
  have hle3 := his.le
  have hle4 := hbs.le
  show Calls Tryd.prog _ #[.agg #[.int .i64 q.code, .slice hA hn hc, .slice aA an ac, .slice iA iN ic, .slice bA bn bc], .int .i64 code] w _
  refine calls_enter Tryd.func14 rfl Tryd.ntmps14 rfl ?_
  have hE : Ext w w := Ext.refl w
  refine Wc.seq (fun K1 hK1 => ?_)
  refine Wc.keep [(0, _), (1, _)] (.cons rfl (.cons rfl (.nil))) ?_
  refine Wc.region ?_
  refine Wl.does rfl rfl rfl (Does.boxA rfl rfl) ?_
  rintro _ w0_0 ⟨b2, rfl, hs2, hb2, hx0_0⟩
  have hg2 : w.heap.size ≤ b2 := Nat.le_trans hE.size hs2
  replace hE := hE.trans hx0_0
  have hlt2 : b2 < w0_0.heap.size := hb2.lt
  refine Wl.does rfl rfl rfl (Does.alB (.agg #[(.int .i64 0), (.slice none 0 0), (.slice none 0 0), (.slice none 0 0), (.slice none 0 0)]) rfl (by kernel_rfl) rfl) ?_
  rintro _ w0_1 ⟨b4, rfl, hs4, hb4, hx0_1⟩
  have hn2_4 : b2 ≠ b4 := hb2.ne hs4
  have hg4 : w.heap.size ≤ b4 := Nat.le_trans hE.size hs4
  replace hb2 := hb2.ext hx0_1
  replace hE := hE.trans hx0_1
  have hlt4 : b4 < w0_1.heap.size := hb4.lt
  refine Wl.nil ?_
  refine Wx.thenN (hK1 _ _ ?_)
  refine Wc.seq (fun K2 hK2 => ?_)
  refine Wc.keep [(1, _), (2, _), (4, _)] (.cons rfl (.cons rfl (.cons rfl (.nil)))) ?_
  refine Wc.region ?_
  refine Wl.val rfl rfl rfl (Gives.move rfl rfl) ?_
  refine Wl.val rfl rfl rfl (Gives.call rfl Tryd.func15 rfl (by kernel_rfl) rfl (mod_calls _ _ _ (by omega) (by omega))) ?_
  refine Wl.val rfl rfl rfl (Gives.add rfl rfl rfl (by first | exact IntWalk.i64_in _ (by omega) | exact u64_in _ (by omega) | exact u32_in _ (by omega) | exact u8_in _ (by omega) | exact rfl)) ?_
  refine Wl.val rfl rfl rfl (Gives.buildS (pl := [(0, 1), (1, 1), (2, 1), (3, 1), (4, 1)]) (zv := (.agg #[(.int .i64 0), (.slice none 0 0), (.slice none 0 0), (.slice none 0 0), (.slice none 0 0)])) rfl Tryd.underlying33 (by kernel_rfl) (by kernel_rfl) rfl rfl) ?_
  refine Wl.does rfl rfl rfl (Does.alB (.agg #[(.int .i64 0), (.slice none 0 0), (.slice none 0 0), (.slice none 0 0), (.slice none 0 0)]) rfl (by kernel_rfl) rfl) ?_
  rintro _ w1_4 ⟨b5, rfl, hs5, hb5, hx1_4⟩
  have hn2_5 : b2 ≠ b5 := hb2.ne hs5
  have hn4_5 : b4 ≠ b5 := hb4.ne hs5
  have hg5 : w.heap.size ≤ b5 := Nat.le_trans hE.size hs5
  replace hb2 := hb2.ext hx1_4
  replace hb4 := hb4.ext hx1_4
  replace hE := hE.trans hx1_4
  refine Wl.acts rfl rfl (Does.stL 5 rfl rfl rfl hb5 (by kernel_rfl) rfl rfl rfl) ?_
  rintro _ w1_5 ⟨hbn, hF1_5⟩
  replace hb2 := hb2.fr hF1_5 (by first | assumption | exact Ne.symm (by assumption))
  replace hb4 := hb4.fr hF1_5 (by first | assumption | exact Ne.symm (by assumption))
  replace hE := Ext.over hE hF1_5 hg5
  replace hb5 := hbn
  clear hbn
  refine Wl.nil ?_
  refine Wx.thenN (hK2 _ _ ?_)
  refine Wc.joinC (ι := Int) [(2, _), (4, _), (5, _)] (fun _ => []) (fun k wr => 1 ≤ k ∧ k < 34 ∧ k ≠ 3 ∧ Blk wr b2 33 #[.int .i64 q.code, .slice hA hn hc, .slice aA an ac, .slice iA iN ic, .slice bA bn bc] ∧ Blk wr b4 33 #[.int .i64 0, .slice none 0 0, .slice none 0 0, .slice none 0 0, .slice none 0 0] ∧ Blk wr b5 33 #[.int .i64 k, .slice none 0 0, .slice none 0 0, .slice none 0 0, .slice none 0 0] ∧ Ext w wr) ?_ ?_ (.cons rfl (.cons rfl (.cons rfl (.nil))))
  · intro K3 hJ3
    refine Wc.seq (fun K4 hK4 => ?_)
    refine Wc.keep [(2, _), (4, _), (5, _)] (.cons rfl (.cons rfl (.cons rfl (.nil)))) ?_
    refine Wc.region ?_
    refine Wl.val rfl rfl rfl (Gives.fieldAt 0 rfl Tryd.underlying33 rfl (by kernel_rfl) rfl rfl) ?_
    refine Wl.val rfl rfl rfl (Gives.ldK rfl (by kernel_rfl) rfl hb5 rfl) ?_
    refine Wl.val rfl rfl rfl (Gives.eql rfl rfl rfl) ?_
    refine Wl.nil ?_
    refine Wx.thenN (hK4 _ _ ?_)
    refine Wc.cond _ rfl (fun h23 => ?_) (fun h23 => ?_)
    · (first | replace h23 := of_decide_eq_true h23 | replace h23 := nd_true h23 | skip)
      refine Wc.keep [(2, _), (4, _), (5, _)] (.cons rfl (.cons rfl (.cons rfl (.nil)))) ?_
      refine Wc.region ?_
      refine Wl.val rfl rfl rfl (Gives.fieldAt 0 rfl Tryd.underlying33 rfl (by kernel_rfl) rfl rfl) ?_
      refine Wl.acts rfl rfl (Does.stC rfl rfl rfl hb5 (by kernel_rfl) (Nat.le_of_ble_eq_true rfl) rfl) ?_
      rintro _ w3_1 ⟨hbn, hF3_1⟩
      replace hb2 := hb2.fr hF3_1 (by first | assumption | exact Ne.symm (by assumption))
      replace hb4 := hb4.fr hF3_1 (by first | assumption | exact Ne.symm (by assumption))
      replace hE := Ext.over hE hF3_1 hg5
      replace hb5 := hbn
      clear hbn
      (try simp only [List.setIfInBounds_toArray, List.set_cons_zero, List.set_cons_succ, Nat.reduceAdd, Nat.zero_add] at hb5)
      refine Wl.nil ?_
      refine Wx.thenN ?_
      refine hJ3 4 _ _ (.cons rfl (.cons rfl (.cons rfl (.nil)))) ⟨by omega, by omega, by omega, hb2, hb4, hb5, hE⟩
    · (first | replace h23 := of_decide_eq_false h23 | replace h23 := nd_false h23 | skip)
      refine Wc.skip ?_
      refine Wx.thenN ?_
      refine hJ3 _ _ _ (.cons rfl (.cons rfl (.cons rfl (.nil)))) ⟨by omega, by omega, h23, hb2, hb4, hb5, hE⟩
  intro k wJ hJ
  clear hb2 hb4 hb5 hE
  obtain ⟨hk1, hk2, hk3, hb2, hb4, hb5, hE⟩ := hJ
  have hok := shape_ok hk1 hk2 hk3
  have hbd := shape_bounds k
  generalize hsq : shapeS k = s at *
  refine Wc.seq (fun K5 hK5 => ?_)
  refine Wc.keep [(2, _), (4, _), (5, _)] (.cons rfl (.cons rfl (.cons rfl (.nil)))) ?_
  refine Wc.region ?_
  refine Wl.val rfl rfl rfl (Gives.fieldAt 0 rfl Tryd.underlying33 rfl (by kernel_rfl) rfl rfl) ?_
  refine Wl.val rfl rfl rfl (Gives.ldK rfl (by kernel_rfl) rfl hb5 rfl) ?_
  refine Wl.call rfl rfl rfl rfl Tryd.func12 rfl (by kernel_rfl) rfl (shapeR_calls _ k) ?_
  rintro x2 w12 ⟨rfl, hx2⟩
  refine ⟨_, rfl, ?_⟩
  rw [hsq]
  replace hb2 := hb2.ext hx2
  replace hb4 := hb4.ext hx2
  replace hb5 := hb5.ext hx2
  replace hE := hE.trans hx2
  have hlt5 : b5 < w12.heap.size := hb5.lt
  refine Wl.val rfl rfl rfl (Gives.move rfl rfl) ?_
  refine Wl.val rfl rfl rfl (Gives.extract rfl rfl rfl) ?_
  refine Wl.val rfl rfl rfl (Gives.extract rfl rfl rfl) ?_
  refine Wl.does rfl rfl rfl (Does.alB (.agg #[(.int .i64 0), (.int .i64 0), (.int .i64 0), (.int .i64 0)]) rfl (by kernel_rfl) rfl) ?_
  rintro _ w4_6 ⟨b6, rfl, hs6, hb6, hx4_6⟩
  have hn2_6 : b2 ≠ b6 := hb2.ne hs6
  have hn4_6 : b4 ≠ b6 := hb4.ne hs6
  have hn5_6 : b5 ≠ b6 := hb5.ne hs6
  have hg6 : w.heap.size ≤ b6 := Nat.le_trans hE.size hs6
  replace hb2 := hb2.ext hx4_6
  replace hb4 := hb4.ext hx4_6
  replace hb5 := hb5.ext hx4_6
  replace hE := hE.trans hx4_6
  refine Wl.acts rfl rfl (Does.stL 4 rfl rfl rfl hb6 (by kernel_rfl) rfl rfl rfl) ?_
  rintro _ w4_7 ⟨hbn, hF4_7⟩
  replace hb2 := hb2.fr hF4_7 (by first | assumption | exact Ne.symm (by assumption))
  replace hb4 := hb4.fr hF4_7 (by first | assumption | exact Ne.symm (by assumption))
  replace hb5 := hb5.fr hF4_7 (by first | assumption | exact Ne.symm (by assumption))
  replace hE := Ext.over hE hF4_7 hg6
  replace hb6 := hbn
  clear hbn
  have h24 : b2 < b4 := by omega
  have h45 : b4 < b5 := by omega
  have h56 : b5 < b6 := by omega
  have hN0 : w.heap.size ≤ b2 := hg2
  refine Wl.val rfl rfl rfl (Gives.assign rfl rfl) ?_
  refine Wl.nil ?_
  refine Wx.thenN (hK5 _ _ ?_)
  refine Wc.seq (fun K6 hK6 => ?_)
  refine Wc.seq (fun K7 hK7 => ?_)
  refine Wc.keep [(2, _), (4, _), (5, _), (6, _)] (.cons rfl (.cons rfl (.cons rfl (.cons rfl (.nil))))) ?_
  refine Wc.region ?_
  refine Wl.val rfl rfl rfl (Gives.assign rfl rfl) ?_
  refine Wl.nil ?_
  refine Wx.thenN (hK7 _ _ ?_)
  refine Wc.block ?_
  refine Wc.keep [(2, _), (4, _), (5, _), (6, _), (8, _)] (.cons rfl (.cons rfl (.cons rfl (.cons rfl (.cons rfl (.nil)))))) ?_
  refine Wc.loopC (ι := Nat × Option Addr × Nat × List Int) [(2, _), (4, _), (5, _), (6, _)] (fun | (i, _, _, _) => [(8, .int .i64 (i : Int))]) (fun | (i, B, c1, xs), wr => i ≤ s.h.toNat ∧ OI wr (b6 + 1) B i c1 xs ∧ xs.all wordS = true ∧ Blk wr b5 33 #[.int .i64 k, .slice B i c1, .slice none 0 0, .slice none 0 0, .slice none 0 0] ∧ Blk wr b2 33 #[.int .i64 q.code, .slice hA hn hc, .slice aA an ac, .slice iA iN ic, .slice bA bn bc] ∧ Blk wr b4 33 #[.int .i64 0, .slice none 0 0, .slice none 0 0, .slice none 0 0, .slice none 0 0] ∧ Blk wr b6 25 #[.int .i64 s.h, .int .i64 s.a, .int .i64 s.i, .int .i64 s.b] ∧ Ext w wr) (fun | (i, _, _, _) => s.h.toNat - i) ((0, none, 0, [])) (.cons (by first | exact rfl | exact look_int rfl (by omega) | exact look_slice rfl (by omega)) (.cons rfl (.cons rfl (.cons rfl (.cons rfl (.nil)))))) (⟨Nat.zero_le _, OI.nil_ _ _, rfl, hb5, hb2, hb4, hb6, hE⟩) ?_
  intro ⟨i, B, c1, xs⟩ wr1 hJ KL1 hKL1
  clear hb2 hb4 hb5 hb6 hE
  obtain ⟨hi, hI, hall, hb5, hb2, hb4, hb6, hE⟩ := hJ
  refine Wc.seq (fun K8 hK8 => ?_)
  refine Wc.seq (fun K9 hK9 => ?_)
  refine Wc.keep [(2, _), (4, _), (5, _), (6, _), (8, _)] (.cons rfl (.cons rfl (.cons rfl (.cons rfl (.cons rfl (.nil)))))) ?_
  refine Wc.region ?_
  refine Wl.val rfl rfl rfl (Gives.move rfl rfl) ?_
  refine Wl.val rfl rfl rfl (Gives.ixA (i := 0) rfl Tryd.underlying25 (by kernel_rfl) rfl rfl rfl (by omega)) ?_
  refine Wl.val rfl rfl rfl (Gives.ldK rfl (by kernel_rfl) rfl hb6 rfl) ?_
  refine Wl.val rfl rfl rfl (Gives.lss rfl rfl rfl) ?_
  refine Wl.nil ?_
  refine Wx.thenN (hK9 _ _ ?_)
  refine Wc.cond _ rfl (fun h34 => ?_) (fun h34 => ?_)
  · (first | replace h34 := of_decide_eq_true h34 | replace h34 := nd_true h34 | skip)
    refine Wc.skip ?_
    refine Wx.thenN (hK8 _ _ ?_)
    refine Wc.seq (fun K10 hK10 => ?_)
    refine Wc.block ?_
    refine Wc.seq (fun K11 hK11 => ?_)
    refine Wc.keep [(2, _), (4, _), (5, _), (6, _), (8, _)] (.cons rfl (.cons rfl (.cons rfl (.cons rfl (.cons rfl (.nil)))))) ?_
    refine Wc.region ?_
    refine Wl.val rfl rfl rfl (Gives.move rfl rfl) ?_
    refine Wl.val rfl rfl rfl (Gives.assign rfl rfl) ?_
    refine Wl.nil ?_
    refine Wx.thenN (hK11 _ _ ?_)
    refine Wc.joinC (ι := Int) [(2, _), (4, _), (5, _), (6, _), (8, _)] (fun z => [(9, .int .i64 z)]) (fun z wJ => wordS z = true ∧ wJ = wr1) ?_ ?_ (.cons rfl (.cons rfl (.cons rfl (.cons rfl (.cons rfl (.nil))))))
    · intro K12 hJ12
      refine Wc.seq (fun K13 hK13 => ?_)
      refine Wc.keep [(2, _), (4, _), (5, _), (6, _), (8, _), (9, _)] (.cons rfl (.cons rfl (.cons rfl (.cons rfl (.cons rfl (.cons rfl (.nil))))))) ?_
      refine Wc.region ?_
      refine Wl.val rfl rfl rfl (Gives.move rfl rfl) ?_
      refine Wl.val rfl rfl rfl (Gives.fieldAt 1 rfl Tryd.underlying33 rfl (by kernel_rfl) rfl rfl) ?_
      refine Wl.val rfl rfl rfl (Gives.ldK rfl (by kernel_rfl) rfl hb2 rfl) ?_
      refine Wl.val rfl rfl rfl (Gives.lenS rfl Tryd.underlying29 rfl) ?_
      refine Wl.val rfl rfl rfl (Gives.lss rfl rfl rfl) ?_
      refine Wl.nil ?_
      refine Wx.thenN (hK13 _ _ ?_)
      refine Wc.cond _ rfl (fun h42 => ?_) (fun h42 => ?_)
      · (first | replace h42 := of_decide_eq_true h42 | replace h42 := nd_true h42 | skip)
        refine Wc.keep [(2, _), (4, _), (5, _), (6, _), (8, _)] (.cons rfl (.cons rfl (.cons rfl (.cons rfl (.cons rfl (.nil)))))) ?_
        obtain ⟨xb, xo, rfl, hbw, z, hz, hcell⟩ := (hhs.ext hE).at_ (show i < hn by omega)
        obtain ⟨zz, hzz, hz0, hz1⟩ : ∃ zz, bits .and .i64 z 65535 = zz ∧ 0 ≤ zz ∧ zz ≤ 65535 := ⟨_, rfl, bits_and_i64 z 65535 (by decide) (by decide)⟩
        refine Wc.region ?_
        refine Wl.val rfl rfl rfl (Gives.fieldAt 1 rfl Tryd.underlying33 rfl (by kernel_rfl) rfl rfl) ?_
        refine Wl.val rfl rfl rfl (Gives.ldK rfl (by kernel_rfl) rfl hb2 rfl) ?_
        refine Wl.val rfl rfl rfl (Gives.move rfl rfl) ?_
        refine Wl.val rfl rfl rfl (Gives.ixS (i := _) rfl Tryd.underlying29 (by kernel_rfl) rfl rfl rfl (by omega)) ?_
        refine Wl.val rfl rfl rfl (Gives.ldC rfl (by kernel_rfl) rfl hcell) ?_
        refine Wl.val rfl rfl rfl (Gives.bits .and (by simp) rfl rfl rfl hzz) ?_
        refine Wl.val rfl rfl rfl (Gives.assign rfl rfl) ?_
        refine Wl.nil ?_
        refine Wx.thenN ?_
        refine hJ12 zz _ _ (.cons (by first | exact rfl | exact look_int rfl (by omega) | exact look_slice rfl (by omega)) (.cons rfl (.cons rfl (.cons rfl (.cons rfl (.cons rfl (.nil))))))) ⟨(wordS_iff zz).2 ⟨hz0, by omega⟩, rfl⟩
      · (first | replace h42 := of_decide_eq_false h42 | replace h42 := nd_false h42 | skip)
        refine Wc.skip ?_
        refine Wx.thenN ?_
        refine hJ12 _ _ _ (.cons (by first | exact rfl | exact look_int rfl (by omega) | exact look_slice rfl (by omega)) (.cons rfl (.cons rfl (.cons rfl (.cons rfl (.cons rfl (.nil))))))) ⟨(wordS_iff _).2 ⟨by omega, by omega⟩, rfl⟩
    intro z wJ2 hJ
    obtain ⟨hzw, rfl⟩ := hJ
    refine Wc.keep [(2, _), (4, _), (5, _), (6, _), (8, _), (9, _)] (.cons rfl (.cons rfl (.cons rfl (.cons rfl (.cons rfl (.cons rfl (.nil))))))) ?_
    refine Wc.region ?_
    refine Wl.val rfl rfl rfl (Gives.fieldAt 1 rfl Tryd.underlying33 rfl (by kernel_rfl) rfl rfl) ?_
    refine Wl.val rfl rfl rfl (Gives.ldK rfl (by kernel_rfl) rfl hb5 rfl) ?_
    refine Wl.val rfl rfl rfl (Gives.move rfl rfl) ?_
    refine Wl.does rfl rfl rfl (Does.lit rfl Tryd.underlying29 infoI2 rfl rfl rfl rfl rfl) ?_
    rintro _ w113 ⟨g113, rfl, hs113, hk113, hx113⟩
    replace hb2 := hb2.ext hx113
    replace hb4 := hb4.ext hx113
    replace hb5 := hb5.ext hx113
    replace hb6 := hb6.ext hx113
    replace hE := hE.trans hx113
    refine Wl.does rfl rfl rfl (Does.appI rfl rfl rfl (hI.ext hx113) hk113 (by omega) (by have := hb6.lt; omega)) ?_
    rintro _ w114 ⟨B', c2, rfl, hI2, hB114⟩
    replace hb2 := Blk.bel hb2 hB114 (by omega)
    replace hb4 := Blk.bel hb4 hB114 (by omega)
    replace hb5 := Blk.bel hb5 hB114 (by omega)
    replace hb6 := Blk.bel hb6 hB114 (by omega)
    replace hE := Ext.step hE hB114 (by omega)
    refine Wl.val rfl rfl rfl (Gives.fieldAt 1 rfl Tryd.underlying33 rfl (by kernel_rfl) rfl rfl) ?_
    refine Wl.acts rfl rfl (Does.stC rfl rfl rfl hb5 (by kernel_rfl) (Nat.le_of_ble_eq_true rfl) rfl) ?_
    rintro _ w11_6 ⟨hbn, hF11_6⟩
    replace hb2 := hb2.fr hF11_6 (by first | assumption | exact Ne.symm (by assumption))
    replace hb4 := hb4.fr hF11_6 (by first | assumption | exact Ne.symm (by assumption))
    replace hb6 := hb6.fr hF11_6 (by first | assumption | exact Ne.symm (by assumption))
    replace hE := Ext.over hE hF11_6 hg5
    replace hb5 := hbn
    clear hbn
    (try simp only [List.setIfInBounds_toArray, List.set_cons_zero, List.set_cons_succ, Nat.reduceAdd, Nat.zero_add] at hb5)
    have hI3 := hI2.fr hF11_6 (fun k hk => by omega)
    refine Wl.nil ?_
    refine Wx.blockN ?_
    refine Wx.thenN (hK10 _ _ ?_)
    refine Wc.keep [(2, _), (4, _), (5, _), (6, _), (8, _)] (.cons rfl (.cons rfl (.cons rfl (.cons rfl (.cons rfl (.nil)))))) ?_
    refine Wc.region ?_
    refine Wl.val rfl rfl rfl (Gives.move rfl rfl) ?_
    refine Wl.val rfl rfl rfl (Gives.add rfl rfl rfl (by first | exact IntWalk.i64_in _ (by omega) | exact u64_in _ (by omega) | exact u32_in _ (by omega) | exact u8_in _ (by omega) | exact rfl)) ?_
    refine Wl.val rfl rfl rfl (Gives.assign rfl rfl) ?_
    refine Wl.nil ?_
    refine Wx.thenN ?_
    refine hKL1 (i + 1, B', c2, xs ++ [z]) _ _ (.cons (by first | exact rfl | exact look_int rfl (by omega) | exact look_slice rfl (by omega)) (.cons rfl (.cons rfl (.cons rfl (.cons rfl (.nil)))))) ⟨by omega, hI3, all_snoc _ _ _ hall hzw, hb5, hb2, hb4, hb6, hE⟩ (by show s.h.toNat - (i + 1) < s.h.toNat - i; omega)
  · (first | replace h34 := of_decide_eq_false h34 | replace h34 := nd_false h34 | skip)
    refine Wc.exit ?_
    refine Wx.thenE ?_
    refine Wx.thenE ?_
    refine Wx.hit ?_
    refine Wx.thenN (hK6 _ _ ?_)
    refine Wc.seq (fun K14 hK14 => ?_)
    refine Wc.seq (fun K15 hK15 => ?_)
    refine Wc.keep [(2, _), (4, _), (5, _), (6, _)] (.cons rfl (.cons rfl (.cons rfl (.cons rfl (.nil))))) ?_
    have hih : s.h.toNat = i := by omega
    clear hi
    have hH := IW.close hI
    have hHl := hI.iv (P := fun _ => True) (fun _ _ => trivial)
    have hHlen := hHl.len
    clear hI hHl
    have hN1 : b6 < wr1.heap.size := hb6.lt
    generalize hBn : i = hcnt at *
    generalize hNw : wr1.heap.size = N2 at *
    have hK0 : Fr (fun k => k ≠ b5 ∧ k < N2) wr1 wr1 := Fr.refl _ _
    refine Wc.region ?_
    refine Wl.val rfl rfl rfl (Gives.assign rfl rfl) ?_
    refine Wl.nil ?_
    refine Wx.thenN (hK15 _ _ ?_)
    refine Wc.block ?_
    refine Wc.keep [(2, _), (4, _), (5, _), (6, _), (10, _)] (.cons rfl (.cons rfl (.cons rfl (.cons rfl (.cons rfl (.nil)))))) ?_
    refine Wc.loopC (ι := Nat × Option Addr × Nat × List Auth) [(2, _), (4, _), (5, _), (6, _)] (fun | (i, _, _, _) => [(10, .int .i64 (i : Int))]) (fun | (i, B2, c2, us), wr => i ≤ s.a.toNat ∧ OAu wr (fun k => k < w.heap.size) N2 B2 i c2 us ∧ us.all authW = true ∧ Fr (fun k => k ≠ b5 ∧ k < N2) wr1 wr ∧ Blk wr b5 33 #[.int .i64 k, .slice B hcnt c1, .slice B2 i c2, .slice none 0 0, .slice none 0 0] ∧ Blk wr b2 33 #[.int .i64 q.code, .slice hA hn hc, .slice aA an ac, .slice iA iN ic, .slice bA bn bc] ∧ Blk wr b4 33 #[.int .i64 0, .slice none 0 0, .slice none 0 0, .slice none 0 0, .slice none 0 0] ∧ Blk wr b6 25 #[.int .i64 s.h, .int .i64 s.a, .int .i64 s.i, .int .i64 s.b] ∧ Ext w wr) (fun | (i, _, _, _) => s.a.toNat - i) ((0, none, 0, [])) (.cons (by first | exact rfl | exact look_int rfl (by omega) | exact look_slice rfl (by omega)) (.cons rfl (.cons rfl (.cons rfl (.cons rfl (.nil)))))) (⟨Nat.zero_le _, OAu.nil_ _ _ _, rfl, hK0, hb5, hb2, hb4, hb6, hE⟩) ?_
    intro ⟨i, B2, c2, us⟩ wr2 hJ KL2 hKL2
    clear hb2 hb4 hb5 hb6 hE hK0
    obtain ⟨hi, hU, hall2, hK, hb5, hb2, hb4, hb6, hE⟩ := hJ
    have hNs : N2 ≤ wr2.heap.size := by rw [← hNw]; exact hK.size
    refine Wc.seq (fun K16 hK16 => ?_)
    refine Wc.seq (fun K17 hK17 => ?_)
    refine Wc.keep [(2, _), (4, _), (5, _), (6, _), (10, _)] (.cons rfl (.cons rfl (.cons rfl (.cons rfl (.cons rfl (.nil)))))) ?_
    refine Wc.region ?_
    refine Wl.val rfl rfl rfl (Gives.move rfl rfl) ?_
    refine Wl.val rfl rfl rfl (Gives.ixA (i := 1) rfl Tryd.underlying25 (by kernel_rfl) rfl rfl rfl (by omega)) ?_
    refine Wl.val rfl rfl rfl (Gives.ldK rfl (by kernel_rfl) rfl hb6 rfl) ?_
    refine Wl.val rfl rfl rfl (Gives.lss rfl rfl rfl) ?_
    refine Wl.nil ?_
    refine Wx.thenN (hK17 _ _ ?_)
    refine Wc.cond _ rfl (fun h58 => ?_) (fun h58 => ?_)
    · (first | replace h58 := of_decide_eq_true h58 | replace h58 := nd_true h58 | skip)
      refine Wc.skip ?_
      refine Wx.thenN (hK16 _ _ ?_)
      refine Wc.seq (fun K18 hK18 => ?_)
      refine Wc.block ?_
      refine Wc.seq (fun K19 hK19 => ?_)
      refine Wc.keep [(2, _), (4, _), (5, _), (6, _), (10, _)] (.cons rfl (.cons rfl (.cons rfl (.cons rfl (.cons rfl (.nil)))))) ?_
      refine Wc.region ?_
      refine Wl.val rfl rfl rfl (Gives.buildS (pl := [(0, 1), (1, 1), (2, 1)]) (zv := (.agg #[(.int .i64 0), (.slice none 0 0), (.slice none 0 0)])) rfl Tryd.underlying38 (by kernel_rfl) (by kernel_rfl) rfl rfl) ?_
      refine Wl.does rfl rfl rfl (Does.alB (.agg #[(.int .i64 0), (.slice none 0 0), (.slice none 0 0)]) rfl (by kernel_rfl) rfl) ?_
      rintro _ w15_1 ⟨b11, rfl, hs11, hb11, hx15_1⟩
      have hn2_11 : b2 ≠ b11 := hb2.ne hs11
      have hn4_11 : b4 ≠ b11 := hb4.ne hs11
      have hn5_11 : b5 ≠ b11 := hb5.ne hs11
      have hn6_11 : b6 ≠ b11 := hb6.ne hs11
      have hg11 : w.heap.size ≤ b11 := Nat.le_trans hE.size hs11
      replace hb2 := hb2.ext hx15_1
      replace hb4 := hb4.ext hx15_1
      replace hb5 := hb5.ext hx15_1
      replace hb6 := hb6.ext hx15_1
      replace hE := hE.trans hx15_1
      refine Wl.acts rfl rfl (Does.stL 3 rfl rfl rfl hb11 (by kernel_rfl) rfl rfl rfl) ?_
      rintro _ w15_2 ⟨hbn, hF15_2⟩
      replace hb2 := hb2.fr hF15_2 (by first | assumption | exact Ne.symm (by assumption))
      replace hb4 := hb4.fr hF15_2 (by first | assumption | exact Ne.symm (by assumption))
      replace hb5 := hb5.fr hF15_2 (by first | assumption | exact Ne.symm (by assumption))
      replace hb6 := hb6.fr hF15_2 (by first | assumption | exact Ne.symm (by assumption))
      replace hE := Ext.over hE hF15_2 hg11
      replace hb11 := hbn
      clear hbn
      have hx15 := Ext.over hx15_1 hF15_2 hs11
      have h611 : b6 < b11 := by omega
      refine Wl.nil ?_
      refine Wx.thenN (hK19 _ _ ?_)
      refine Wc.joinC (ι := Auth × (Option Addr × Nat × Nat) × (Option Addr × Nat × Nat)) [(2, _), (4, _), (5, _), (6, _), (10, _), (11, _)] (fun _ => []) (fun | (a, (N, nn, nc), (V, vn, vc)), wr => authW a = true ∧ BV w (fun k => k < w.heap.size) N nn nc a.nonce ∧ BV w (fun k => k < w.heap.size) V vn vc a.val ∧ Ext wr2 wr ∧ Blk wr b11 38 #[.int .i64 a.ses, .slice N nn nc, .slice V vn vc] ∧ Blk wr b5 33 #[.int .i64 k, .slice B hcnt c1, .slice B2 i c2, .slice none 0 0, .slice none 0 0] ∧ Blk wr b2 33 #[.int .i64 q.code, .slice hA hn hc, .slice aA an ac, .slice iA iN ic, .slice bA bn bc] ∧ Blk wr b4 33 #[.int .i64 0, .slice none 0 0, .slice none 0 0, .slice none 0 0, .slice none 0 0] ∧ Blk wr b6 25 #[.int .i64 s.h, .int .i64 s.a, .int .i64 s.i, .int .i64 s.b] ∧ Ext w wr) ?_ ?_ (.cons rfl (.cons rfl (.cons rfl (.cons rfl (.cons rfl (.cons rfl (.nil)))))))
      · intro K20 hJ20
        refine Wc.seq (fun K21 hK21 => ?_)
        refine Wc.keep [(2, _), (4, _), (5, _), (6, _), (10, _), (11, _)] (.cons rfl (.cons rfl (.cons rfl (.cons rfl (.cons rfl (.cons rfl (.nil))))))) ?_
        refine Wc.region ?_
        refine Wl.val rfl rfl rfl (Gives.move rfl rfl) ?_
        refine Wl.val rfl rfl rfl (Gives.fieldAt 2 rfl Tryd.underlying33 rfl (by kernel_rfl) rfl rfl) ?_
        refine Wl.val rfl rfl rfl (Gives.ldK rfl (by kernel_rfl) rfl hb2 rfl) ?_
        refine Wl.val rfl rfl rfl (Gives.lenS rfl Tryd.underlying30 rfl) ?_
        refine Wl.val rfl rfl rfl (Gives.lss rfl rfl rfl) ?_
        refine Wl.nil ?_
        refine Wx.thenN (hK21 _ _ ?_)
        refine Wc.cond _ rfl (fun h66 => ?_) (fun h66 => ?_)
        · (first | replace h66 := of_decide_eq_true h66 | replace h66 := nd_true h66 | skip)
          refine Wc.keep [(2, _), (4, _), (5, _), (6, _), (10, _), (11, _)] (.cons rfl (.cons rfl (.cons rfl (.cons rfl (.cons rfl (.cons rfl (.nil))))))) ?_
          obtain ⟨xb, xo, rfl, hbw, a, N, nn, nc, V, vn, vc, ha, hrg, hN0', hV0⟩ := hus.at_ (show i < an by omega)
          have hNle := hN0'.le
          have hVle := hV0.le
          obtain ⟨zz, hzz, hz0, hz1⟩ : ∃ zz, bits .and .i64 a.ses 65535 = zz ∧ 0 ≤ zz ∧ zz ≤ 65535 := ⟨_, rfl, bits_and_i64 a.ses 65535 (by decide) (by decide)⟩
          have haw0 : authW ⟨zz, a.nonce.take 128, a.val.take 128⟩ = true := (wordS_iff zz).2 ⟨hz0, by omega⟩
          have hNb : BV w (fun k => k < w.heap.size) N (min nn 128) nc (a.nonce.take 128) := (hN0'.cutS 128).bd.mono (fun k hk => hk.2)
          have hVb : BV w (fun k => k < w.heap.size) V (min vn 128) vc (a.val.take 128) := (hV0.cutS 128).bd.mono (fun k hk => hk.2)
          refine Wc.regionD (fun _ => true) Eq (.read 0 (.read 1 (.read 2 (.read 3 (.read 4 (.read 5 (.read 6 (.read 7 (.read 8 (.read 9 (.read 10 (.read 11 (.read 12 (.read 13 (.read 14 (.read 15 (.read 16 (.read 17 (.read 18 (.read 19 (.read 20 .tail))))))))))))))))))))) 21 (by kernel_rfl) (by kernel_rfl) (by kernel_rfl) (fun _ => rfl) (fun _ _ _ h k => h.trans k) Quiet ⟨1, rfl⟩ ?_
          intro w17 hR17
          replace hb2 := hb2.ext hR17.ext
          replace hb4 := hb4.ext hR17.ext
          replace hb5 := hb5.ext hR17.ext
          replace hb6 := hb6.ext hR17.ext
          replace hb11 := hb11.ext hR17.ext
          replace hE := hE.trans hR17.ext
          have hrg2 := rng_ext hrg hbw hE
          refine RunE.readE rfl rfl rfl rfl (Gives.fieldAt 2 rfl Tryd.underlying33 rfl (by kernel_rfl) rfl rfl) ?_
          refine RunE.readE rfl rfl rfl rfl (Gives.ldK rfl (by kernel_rfl) rfl hb2 rfl) ?_
          refine RunE.readE rfl rfl rfl rfl (Gives.move rfl rfl) ?_
          refine RunE.readE rfl rfl rfl rfl (Gives.ixSZ (i := _) (sz := 3) rfl Tryd.underlying30 (by kernel_rfl) rfl rfl rfl (by omega)) ?_
          refine RunE.readE rfl rfl rfl rfl (Gives.fieldAt 0 rfl Tryd.underlying38 rfl (by kernel_rfl) rfl rfl) ?_
          refine RunE.readE rfl rfl rfl rfl (Gives.ldC rfl (by kernel_rfl) rfl (hrg2 0 _ rfl)) ?_
          refine RunE.readE rfl rfl rfl rfl (Gives.bits .and (by simp) rfl rfl rfl hzz) ?_
          refine RunE.readE rfl rfl rfl rfl (Gives.fieldAt 2 rfl Tryd.underlying33 rfl (by kernel_rfl) rfl rfl) ?_
          refine RunE.readE rfl rfl rfl rfl (Gives.ldK rfl (by kernel_rfl) rfl hb2 rfl) ?_
          refine RunE.readE rfl rfl rfl rfl (Gives.move rfl rfl) ?_
          refine RunE.readE rfl rfl rfl rfl (Gives.ixSZ (i := _) (sz := 3) rfl Tryd.underlying30 (by kernel_rfl) rfl rfl rfl (by omega)) ?_
          refine RunE.readE rfl rfl rfl rfl (Gives.fieldAt 1 rfl Tryd.underlying38 rfl (by kernel_rfl) rfl rfl) ?_
          refine RunE.readE rfl rfl rfl rfl (Gives.ldC rfl (by kernel_rfl) rfl (hrg2 1 _ rfl)) ?_
          refine RunE.readE rfl rfl rfl rfl (Gives.call rfl Tryd.func31 rfl (by kernel_rfl) rfl (by first | exact cutN_calls _ _ _ _ (by first | exact hNle | exact hVle) 128 rfl | exact cutN_calls _ _ _ _ hZle 200 rfl)) ?_
          refine RunE.readE rfl rfl rfl rfl (Gives.fieldAt 2 rfl Tryd.underlying33 rfl (by kernel_rfl) rfl rfl) ?_
          refine RunE.readE rfl rfl rfl rfl (Gives.ldK rfl (by kernel_rfl) rfl hb2 rfl) ?_
          refine RunE.readE rfl rfl rfl rfl (Gives.move rfl rfl) ?_
          refine RunE.readE rfl rfl rfl rfl (Gives.ixSZ (i := _) (sz := 3) rfl Tryd.underlying30 (by kernel_rfl) rfl rfl rfl (by omega)) ?_
          refine RunE.readE rfl rfl rfl rfl (Gives.fieldAt 2 rfl Tryd.underlying38 rfl (by kernel_rfl) rfl rfl) ?_
          refine RunE.readE rfl rfl rfl rfl (Gives.ldC rfl (by kernel_rfl) rfl (hrg2 2 _ rfl)) ?_
          refine RunE.readE rfl rfl rfl rfl (Gives.call rfl Tryd.func31 rfl (by kernel_rfl) rfl (by first | exact cutN_calls _ _ _ _ (by first | exact hNle | exact hVle) 128 rfl | exact cutN_calls _ _ _ _ hZle 200 rfl)) ?_
          refine RunE.tail rfl ?_
          refine Wl.val rfl rfl rfl (Gives.buildS (pl := [(0, 1), (1, 1), (2, 1)]) (zv := (.agg #[(.int .i64 0), (.slice none 0 0), (.slice none 0 0)])) rfl Tryd.underlying38 (by kernel_rfl) (by kernel_rfl) rfl rfl) ?_
          refine Wl.acts rfl rfl (Does.stL 3 rfl rfl rfl hb11 (by kernel_rfl) rfl rfl rfl) ?_
          rintro _ w17_22 ⟨hbn, hF17_22⟩
          replace hb2 := hb2.fr hF17_22 (by first | assumption | exact Ne.symm (by assumption))
          replace hb4 := hb4.fr hF17_22 (by first | assumption | exact Ne.symm (by assumption))
          replace hb5 := hb5.fr hF17_22 (by first | assumption | exact Ne.symm (by assumption))
          replace hb6 := hb6.fr hF17_22 (by first | assumption | exact Ne.symm (by assumption))
          replace hE := Ext.over hE hF17_22 hg11
          replace hb11 := hbn
          clear hbn
          refine Wl.nil ?_
          refine Wx.thenN ?_
          refine hJ20 (⟨zz, a.nonce.take 128, a.val.take 128⟩, (N, min nn 128, nc), (V, min vn 128, vc)) _ _ (.cons rfl (.cons rfl (.cons rfl (.cons rfl (.cons rfl (.cons rfl (.nil))))))) ⟨haw0, hNb, hVb, Ext.over (hx15.trans hR17.ext) hF17_22 hs11, hb11, hb5, hb2, hb4, hb6, hE⟩
        · (first | replace h66 := of_decide_eq_false h66 | replace h66 := nd_false h66 | skip)
          refine Wc.skip ?_
          refine Wx.thenN ?_
          refine hJ20 (⟨0, [], []⟩, (none, 0, 0), (none, 0, 0)) _ _ (.cons rfl (.cons rfl (.cons rfl (.cons rfl (.cons rfl (.cons rfl (.nil))))))) ⟨rfl, BV.nil_ _ _, BV.nil_ _ _, hx15, hb11, hb5, hb2, hb4, hb6, hE⟩
      intro ⟨a, ⟨N, nn, nc⟩, ⟨V, vn, vc⟩⟩ wJ3 hJ
      clear hb11 hb2 hb4 hb5 hb6 hE
      obtain ⟨haw, hN5, hV5, hxJ, hb11, hb5, hb2, hb4, hb6, hE⟩ := hJ
      refine Wc.keep [(2, _), (4, _), (5, _), (6, _), (10, _), (11, _)] (.cons rfl (.cons rfl (.cons rfl (.cons rfl (.cons rfl (.cons rfl (.nil))))))) ?_
      refine Wc.region ?_
      refine Wl.val rfl rfl rfl (Gives.fieldAt 2 rfl Tryd.underlying33 rfl (by kernel_rfl) rfl rfl) ?_
      refine Wl.val rfl rfl rfl (Gives.ldK rfl (by kernel_rfl) rfl hb5 rfl) ?_
      refine Wl.val rfl rfl rfl (Gives.ldW rfl (by kernel_rfl) rfl hb11 (by kernel_rfl)) ?_
      refine Wl.does rfl rfl rfl (Does.lit1 3 rfl Tryd.underlying30 infoU2 rfl rfl rfl) ?_
      rintro _ w183 ⟨g183, rfl, hs183, hk183, hx183⟩
      replace hb2 := hb2.ext hx183
      replace hb4 := hb4.ext hx183
      replace hb5 := hb5.ext hx183
      replace hb6 := hb6.ext hx183
      replace hb11 := hb11.ext hx183
      replace hE := hE.trans hx183
      obtain ⟨vs1, ho1⟩ := hU.own
      have hA5 : BV w183 (NOwn w183 (fun k => k < w.heap.size) (.slice B2 i c2)) N nn nc a.nonce := old_nown (hN5.ext hE) ho1 (by omega) (fun _ h => h)
      have hV6 : BV w183 (NOwn w183 (fun k => k < w.heap.size) (.slice B2 i c2)) V vn vc a.val := old_nown (hV5.ext hE) ho1 (by omega) (fun _ h => h)
      have hsz183 := hx183.size
      have hszJ := hxJ.size
      refine Wl.does rfl rfl rfl (Does.appU (a := a) rfl rfl rfl ((hU.ext hxJ).ext hx183) hk183 hA5 hV6 (by omega) (by omega)) ?_
      rintro _ w184 ⟨B', c3, rfl, hU7, hB184⟩
      replace hb2 := Blk.bel hb2 hB184 (by omega)
      replace hb4 := Blk.bel hb4 hB184 (by omega)
      replace hb5 := Blk.bel hb5 hB184 (by omega)
      replace hb6 := Blk.bel hb6 hB184 (by omega)
      replace hE := Ext.step hE hB184 (by omega)
      have hK7 := (hK.trans (hxJ.trans hx183).fr).trans ((below_fr hB184).mono (fun k hk => hk.2))
      refine Wl.val rfl rfl rfl (Gives.fieldAt 2 rfl Tryd.underlying33 rfl (by kernel_rfl) rfl rfl) ?_
      refine Wl.acts rfl rfl (Does.stC rfl rfl rfl hb5 (by kernel_rfl) (Nat.le_of_ble_eq_true rfl) rfl) ?_
      rintro _ w18_6 ⟨hbn, hF18_6⟩
      replace hb2 := hb2.fr hF18_6 (by first | assumption | exact Ne.symm (by assumption))
      replace hb4 := hb4.fr hF18_6 (by first | assumption | exact Ne.symm (by assumption))
      replace hb6 := hb6.fr hF18_6 (by first | assumption | exact Ne.symm (by assumption))
      replace hE := Ext.over hE hF18_6 hg5
      replace hb5 := hbn
      clear hbn
      (try simp only [List.setIfInBounds_toArray, List.set_cons_zero, List.set_cons_succ, Nat.reduceAdd, Nat.zero_add] at hb5)
      have hU8 := hU7.fr hF18_6 (fun k hk => by omega) (fun k hk => by omega)
      have hK8 := hK7.trans (hF18_6.mono (fun k hk => hk.1))
      refine Wl.nil ?_
      refine Wx.blockN ?_
      refine Wx.thenN (hK18 _ _ ?_)
      refine Wc.keep [(2, _), (4, _), (5, _), (6, _), (10, _)] (.cons rfl (.cons rfl (.cons rfl (.cons rfl (.cons rfl (.nil)))))) ?_
      refine Wc.region ?_
      refine Wl.val rfl rfl rfl (Gives.move rfl rfl) ?_
      refine Wl.val rfl rfl rfl (Gives.add rfl rfl rfl (by first | exact IntWalk.i64_in _ (by omega) | exact u64_in _ (by omega) | exact u32_in _ (by omega) | exact u8_in _ (by omega) | exact rfl)) ?_
      refine Wl.val rfl rfl rfl (Gives.assign rfl rfl) ?_
      refine Wl.nil ?_
      refine Wx.thenN ?_
      refine hKL2 (i + 1, B', c3, us ++ [a]) _ _ (.cons (by first | exact rfl | exact look_int rfl (by omega) | exact look_slice rfl (by omega)) (.cons rfl (.cons rfl (.cons rfl (.cons rfl (.nil)))))) ⟨by omega, hU8, all_snoc _ _ _ hall2 haw, hK8, hb5, hb2, hb4, hb6, hE⟩ (by show s.a.toNat - (i + 1) < s.a.toNat - i; omega)
    · (first | replace h58 := of_decide_eq_false h58 | replace h58 := nd_false h58 | skip)
      refine Wc.exit ?_
      refine Wx.thenE ?_
      refine Wx.thenE ?_
      refine Wx.hit ?_
      refine Wx.thenN (hK14 _ _ ?_)
      refine Wc.seq (fun K22 hK22 => ?_)
      refine Wc.seq (fun K23 hK23 => ?_)
      refine Wc.keep [(2, _), (4, _), (5, _), (6, _)] (.cons rfl (.cons rfl (.cons rfl (.cons rfl (.nil))))) ?_
      have hia : s.a.toNat = i := by omega
      clear hi
      have hUl := (hU.av (P := fun _ => True) (fun _ _ => trivial) (fun _ _ => trivial)).len
      have hU2 := UW.close hU
      have hH2 := hH.fr hK (fun k h1 h2 => ⟨by omega, by omega⟩)
      clear hU hH hK
      have hN2 : b6 < wr2.heap.size := hb6.lt
      generalize hBn2 : i = acnt at *
      generalize hNw2 : wr2.heap.size = N3 at *
      have hK0 : Fr (fun k => k ≠ b5 ∧ k < N3) wr2 wr2 := Fr.refl _ _
      refine Wc.region ?_
      refine Wl.val rfl rfl rfl (Gives.assign rfl rfl) ?_
      refine Wl.nil ?_
      refine Wx.thenN (hK23 _ _ ?_)
      refine Wc.block ?_
      refine Wc.keep [(2, _), (4, _), (5, _), (6, _), (12, _)] (.cons rfl (.cons rfl (.cons rfl (.cons rfl (.cons rfl (.nil)))))) ?_
      refine Wc.loopC (ι := Nat × Option Addr × Nat × List Int) [(2, _), (4, _), (5, _), (6, _)] (fun | (i, _, _, _) => [(12, .int .i64 (i : Int))]) (fun | (i, B3, c3, zs), wr => i ≤ s.i.toNat ∧ OI wr N3 B3 i c3 zs ∧ zs.all timeS = true ∧ Fr (fun k => k ≠ b5 ∧ k < N3) wr2 wr ∧ Blk wr b5 33 #[.int .i64 k, .slice B hcnt c1, .slice B2 acnt c2, .slice B3 i c3, .slice none 0 0] ∧ Blk wr b2 33 #[.int .i64 q.code, .slice hA hn hc, .slice aA an ac, .slice iA iN ic, .slice bA bn bc] ∧ Blk wr b4 33 #[.int .i64 0, .slice none 0 0, .slice none 0 0, .slice none 0 0, .slice none 0 0] ∧ Blk wr b6 25 #[.int .i64 s.h, .int .i64 s.a, .int .i64 s.i, .int .i64 s.b] ∧ Ext w wr) (fun | (i, _, _, _) => s.i.toNat - i) ((0, none, 0, [])) (.cons (by first | exact rfl | exact look_int rfl (by omega) | exact look_slice rfl (by omega)) (.cons rfl (.cons rfl (.cons rfl (.cons rfl (.nil)))))) (⟨Nat.zero_le _, OI.nil_ _ _, rfl, hK0, hb5, hb2, hb4, hb6, hE⟩) ?_
      intro ⟨i, B3, c3, zs⟩ wr3 hJ KL3 hKL3
      clear hb2 hb4 hb5 hb6 hE hK0
      obtain ⟨hi, hI, hall3, hK, hb5, hb2, hb4, hb6, hE⟩ := hJ
      have hNs3 : N3 ≤ wr3.heap.size := by rw [← hNw2]; exact hK.size
      refine Wc.seq (fun K24 hK24 => ?_)
      refine Wc.seq (fun K25 hK25 => ?_)
      refine Wc.keep [(2, _), (4, _), (5, _), (6, _), (12, _)] (.cons rfl (.cons rfl (.cons rfl (.cons rfl (.cons rfl (.nil)))))) ?_
      refine Wc.region ?_
      refine Wl.val rfl rfl rfl (Gives.move rfl rfl) ?_
      refine Wl.val rfl rfl rfl (Gives.ixA (i := 2) rfl Tryd.underlying25 (by kernel_rfl) rfl rfl rfl (by omega)) ?_
      refine Wl.val rfl rfl rfl (Gives.ldK rfl (by kernel_rfl) rfl hb6 rfl) ?_
      refine Wl.val rfl rfl rfl (Gives.lss rfl rfl rfl) ?_
      refine Wl.nil ?_
      refine Wx.thenN (hK25 _ _ ?_)
      refine Wc.cond _ rfl (fun h98 => ?_) (fun h98 => ?_)
      · (first | replace h98 := of_decide_eq_true h98 | replace h98 := nd_true h98 | skip)
        refine Wc.skip ?_
        refine Wx.thenN (hK24 _ _ ?_)
        refine Wc.seq (fun K26 hK26 => ?_)
        refine Wc.block ?_
        refine Wc.seq (fun K27 hK27 => ?_)
        refine Wc.keep [(2, _), (4, _), (5, _), (6, _), (12, _)] (.cons rfl (.cons rfl (.cons rfl (.cons rfl (.cons rfl (.nil)))))) ?_
        refine Wc.region ?_
        refine Wl.val rfl rfl rfl (Gives.move rfl rfl) ?_
        refine Wl.val rfl rfl rfl (Gives.assign rfl rfl) ?_
        refine Wl.nil ?_
        refine Wx.thenN (hK27 _ _ ?_)
        refine Wc.joinC (ι := Int) [(2, _), (4, _), (5, _), (6, _), (12, _)] (fun z => [(13, .int .i64 z)]) (fun z wJ => timeS z = true ∧ wJ = wr3) ?_ ?_ (.cons rfl (.cons rfl (.cons rfl (.cons rfl (.cons rfl (.nil))))))
        · intro K28 hJ28
          refine Wc.seq (fun K29 hK29 => ?_)
          refine Wc.keep [(2, _), (4, _), (5, _), (6, _), (12, _), (13, _)] (.cons rfl (.cons rfl (.cons rfl (.cons rfl (.cons rfl (.cons rfl (.nil))))))) ?_
          refine Wc.region ?_
          refine Wl.val rfl rfl rfl (Gives.move rfl rfl) ?_
          refine Wl.val rfl rfl rfl (Gives.fieldAt 3 rfl Tryd.underlying33 rfl (by kernel_rfl) rfl rfl) ?_
          refine Wl.val rfl rfl rfl (Gives.ldK rfl (by kernel_rfl) rfl hb2 rfl) ?_
          refine Wl.val rfl rfl rfl (Gives.lenS rfl Tryd.underlying29 rfl) ?_
          refine Wl.val rfl rfl rfl (Gives.lss rfl rfl rfl) ?_
          refine Wl.nil ?_
          refine Wx.thenN (hK29 _ _ ?_)
          refine Wc.cond _ rfl (fun h106 => ?_) (fun h106 => ?_)
          · (first | replace h106 := of_decide_eq_true h106 | replace h106 := nd_true h106 | skip)
            refine Wc.keep [(2, _), (4, _), (5, _), (6, _), (12, _)] (.cons rfl (.cons rfl (.cons rfl (.cons rfl (.cons rfl (.nil)))))) ?_
            obtain ⟨xb, xo, rfl, hbw, z, hz, hcell⟩ := (his.ext hE).at_ (show i < iN by omega)
            refine Wc.region ?_
            refine Wl.val rfl rfl rfl (Gives.fieldAt 3 rfl Tryd.underlying33 rfl (by kernel_rfl) rfl rfl) ?_
            refine Wl.val rfl rfl rfl (Gives.ldK rfl (by kernel_rfl) rfl hb2 rfl) ?_
            refine Wl.val rfl rfl rfl (Gives.move rfl rfl) ?_
            refine Wl.val rfl rfl rfl (Gives.ixS (i := _) rfl Tryd.underlying29 (by kernel_rfl) rfl rfl rfl (by omega)) ?_
            refine Wl.val rfl rfl rfl (Gives.ldC rfl (by kernel_rfl) rfl hcell) ?_
            refine Wl.val rfl rfl rfl (Gives.call rfl Tryd.func15 rfl (by kernel_rfl) rfl (mod_calls _ _ _ (by omega) (by omega))) ?_
            refine Wl.val rfl rfl rfl (Gives.assign rfl rfl) ?_
            refine Wl.nil ?_
            refine Wx.thenN ?_
            refine hJ28 _ _ _ (.cons (by first | exact rfl | exact look_int rfl (by omega) | exact look_slice rfl (by omega)) (.cons rfl (.cons rfl (.cons rfl (.cons rfl (.cons rfl (.nil))))))) ⟨by unfold timeS; rw [decide_eq_true (by omega), decide_eq_true (by omega)]; rfl, rfl⟩
          · (first | replace h106 := of_decide_eq_false h106 | replace h106 := nd_false h106 | skip)
            refine Wc.skip ?_
            refine Wx.thenN ?_
            refine hJ28 _ _ _ (.cons (by first | exact rfl | exact look_int rfl (by omega) | exact look_slice rfl (by omega)) (.cons rfl (.cons rfl (.cons rfl (.cons rfl (.cons rfl (.nil))))))) ⟨by unfold timeS; rw [decide_eq_true (by omega), decide_eq_true (by omega)]; rfl, rfl⟩
        intro z wJ4 hJ
        obtain ⟨hzw, rfl⟩ := hJ
        refine Wc.keep [(2, _), (4, _), (5, _), (6, _), (12, _), (13, _)] (.cons rfl (.cons rfl (.cons rfl (.cons rfl (.cons rfl (.cons rfl (.nil))))))) ?_
        refine Wc.region ?_
        refine Wl.val rfl rfl rfl (Gives.fieldAt 3 rfl Tryd.underlying33 rfl (by kernel_rfl) rfl rfl) ?_
        refine Wl.val rfl rfl rfl (Gives.ldK rfl (by kernel_rfl) rfl hb5 rfl) ?_
        refine Wl.val rfl rfl rfl (Gives.move rfl rfl) ?_
        refine Wl.does rfl rfl rfl (Does.lit rfl Tryd.underlying29 infoI2 rfl rfl rfl rfl rfl) ?_
        rintro _ w253 ⟨g253, rfl, hs253, hk253, hx253⟩
        replace hb2 := hb2.ext hx253
        replace hb4 := hb4.ext hx253
        replace hb5 := hb5.ext hx253
        replace hb6 := hb6.ext hx253
        replace hE := hE.trans hx253
        refine Wl.does rfl rfl rfl (Does.appI rfl rfl rfl (hI.ext hx253) hk253 (by omega) (by have := hx253.size; omega)) ?_
        rintro _ w254 ⟨B', c4, rfl, hI3, hB254⟩
        replace hb2 := Blk.bel hb2 hB254 (by omega)
        replace hb4 := Blk.bel hb4 hB254 (by omega)
        replace hb5 := Blk.bel hb5 hB254 (by omega)
        replace hb6 := Blk.bel hb6 hB254 (by omega)
        replace hE := Ext.step hE hB254 (by omega)
        have hK3 := (hK.trans hx253.fr).trans ((below_fr hB254).mono (fun k hk => hk.2))
        refine Wl.val rfl rfl rfl (Gives.fieldAt 3 rfl Tryd.underlying33 rfl (by kernel_rfl) rfl rfl) ?_
        refine Wl.acts rfl rfl (Does.stC rfl rfl rfl hb5 (by kernel_rfl) (Nat.le_of_ble_eq_true rfl) rfl) ?_
        rintro _ w25_6 ⟨hbn, hF25_6⟩
        replace hb2 := hb2.fr hF25_6 (by first | assumption | exact Ne.symm (by assumption))
        replace hb4 := hb4.fr hF25_6 (by first | assumption | exact Ne.symm (by assumption))
        replace hb6 := hb6.fr hF25_6 (by first | assumption | exact Ne.symm (by assumption))
        replace hE := Ext.over hE hF25_6 hg5
        replace hb5 := hbn
        clear hbn
        (try simp only [List.setIfInBounds_toArray, List.set_cons_zero, List.set_cons_succ, Nat.reduceAdd, Nat.zero_add] at hb5)
        have hI4 := hI3.fr hF25_6 (fun k hk => by omega)
        have hK4 := hK3.trans (hF25_6.mono (fun k hk => hk.1))
        refine Wl.nil ?_
        refine Wx.blockN ?_
        refine Wx.thenN (hK26 _ _ ?_)
        refine Wc.keep [(2, _), (4, _), (5, _), (6, _), (12, _)] (.cons rfl (.cons rfl (.cons rfl (.cons rfl (.cons rfl (.nil)))))) ?_
        refine Wc.region ?_
        refine Wl.val rfl rfl rfl (Gives.move rfl rfl) ?_
        refine Wl.val rfl rfl rfl (Gives.add rfl rfl rfl (by first | exact IntWalk.i64_in _ (by omega) | exact u64_in _ (by omega) | exact u32_in _ (by omega) | exact u8_in _ (by omega) | exact rfl)) ?_
        refine Wl.val rfl rfl rfl (Gives.assign rfl rfl) ?_
        refine Wl.nil ?_
        refine Wx.thenN ?_
        refine hKL3 (i + 1, B', c4, zs ++ [z]) _ _ (.cons (by first | exact rfl | exact look_int rfl (by omega) | exact look_slice rfl (by omega)) (.cons rfl (.cons rfl (.cons rfl (.cons rfl (.nil)))))) ⟨by omega, hI4, all_snoc _ _ _ hall3 hzw, hK4, hb5, hb2, hb4, hb6, hE⟩ (by show s.i.toNat - (i + 1) < s.i.toNat - i; omega)
      · (first | replace h98 := of_decide_eq_false h98 | replace h98 := nd_false h98 | skip)
        refine Wc.exit ?_
        refine Wx.thenE ?_
        refine Wx.thenE ?_
        refine Wx.hit ?_
        refine Wx.thenN (hK22 _ _ ?_)
        refine Wc.seq (fun K30 hK30 => ?_)
        refine Wc.keep [(2, _), (4, _), (5, _), (6, _)] (.cons rfl (.cons rfl (.cons rfl (.cons rfl (.nil))))) ?_
        have hii : s.i.toNat = i := by omega
        clear hi
        have hIl := (hI.iv (P := fun _ => True) (fun _ _ => trivial)).len
        have hI2 := IW.close hI
        have hH3 := hH2.fr hK (fun k h1 h2 => ⟨by omega, by omega⟩)
        have hU3 := hU2.fr hK (fun k h1 h2 => ⟨by omega, by omega⟩) (fun k hk => ⟨by omega, by omega⟩)
        clear hI hK hH2 hU2
        have hN3 : b6 < wr3.heap.size := hb6.lt
        generalize hBn3 : i = icnt at *
        generalize hNw3 : wr3.heap.size = N4 at *
        have hK0 : Fr (fun k => k ≠ b5 ∧ k < N4) wr3 wr3 := Fr.refl _ _
        refine Wc.region ?_
        refine Wl.val rfl rfl rfl (Gives.ixA (i := 3) rfl Tryd.underlying25 (by kernel_rfl) rfl rfl rfl (by omega)) ?_
        refine Wl.val rfl rfl rfl (Gives.ldK rfl (by kernel_rfl) rfl hb6 rfl) ?_
        refine Wl.val rfl rfl rfl (Gives.assign rfl rfl) ?_
        refine Wl.nil ?_
        refine Wx.thenN (hK30 _ _ ?_)
        refine Wc.joinC (ι := Int) [(2, _), (4, _), (5, _)] (fun z => [(14, .int .i64 z)]) (fun z wJ => fitsS s.b z = true ∧ 0 ≤ z ∧ z ≤ 8 ∧ wJ = wr3) ?_ ?_ (.cons rfl (.cons rfl (.cons rfl (.nil))))
        · intro K31 hJ31
          refine Wc.seq (fun K32 hK32 => ?_)
          refine Wc.keep [(2, _), (4, _), (5, _), (14, _)] (.cons rfl (.cons rfl (.cons rfl (.cons rfl (.nil))))) ?_
          refine Wc.region ?_
          refine Wl.val rfl rfl rfl (Gives.move rfl rfl) ?_
          refine Wl.val rfl rfl rfl (Gives.lss rfl rfl rfl) ?_
          refine Wl.nil ?_
          refine Wx.thenN (hK32 _ _ ?_)
          refine Wc.cond _ rfl (fun h122 => ?_) (fun h122 => ?_)
          · (first | replace h122 := of_decide_eq_true h122 | replace h122 := nd_true h122 | skip)
            refine Wc.keep [(2, _), (4, _), (5, _)] (.cons rfl (.cons rfl (.cons rfl (.nil)))) ?_
            refine Wc.region ?_
            refine Wl.val rfl rfl rfl (Gives.fieldAt 4 rfl Tryd.underlying33 rfl (by kernel_rfl) rfl rfl) ?_
            refine Wl.val rfl rfl rfl (Gives.ldK rfl (by kernel_rfl) rfl hb2 rfl) ?_
            refine Wl.val rfl rfl rfl (Gives.lenS rfl Tryd.underlying31 rfl) ?_
            refine Wl.val rfl rfl rfl (Gives.min rfl rfl rfl rfl) ?_
            refine Wl.val rfl rfl rfl (Gives.assign rfl rfl) ?_
            refine Wl.nil ?_
            refine Wx.thenN ?_
            refine hJ31 _ _ _ (.cons (by first | exact rfl | exact look_int rfl (by omega) | exact look_slice rfl (by omega)) (.cons rfl (.cons rfl (.cons rfl (.nil))))) ⟨by unfold fitsS iMin; rw [decide_eq_true (p := s.b = -1) (by omega), decide_eq_true (p := 0 ≤ min (bn : Int) 8) (by omega), decide_eq_true (p := min (bn : Int) 8 ≤ 8) (by omega)]; simp, by unfold iMin; omega, by unfold iMin; omega, rfl⟩
          · (first | replace h122 := of_decide_eq_false h122 | replace h122 := nd_false h122 | skip)
            refine Wc.skip ?_
            refine Wx.thenN ?_
            refine hJ31 _ _ _ (.cons (by first | exact rfl | exact look_int rfl (by omega) | exact look_slice rfl (by omega)) (.cons rfl (.cons rfl (.cons rfl (.nil))))) ⟨by unfold fitsS; simp, by omega, by omega, rfl⟩
        intro most wJ5 hJ
        obtain ⟨hfit, hm0, hm8, rfl⟩ := hJ
        refine Wc.seq (fun K33 hK33 => ?_)
        refine Wc.seq (fun K34 hK34 => ?_)
        refine Wc.keep [(2, _), (4, _), (5, _), (14, _)] (.cons rfl (.cons rfl (.cons rfl (.cons rfl (.nil))))) ?_
        refine Wc.region ?_
        refine Wl.val rfl rfl rfl (Gives.assign rfl rfl) ?_
        refine Wl.nil ?_
        refine Wx.thenN (hK34 _ _ ?_)
        refine Wc.block ?_
        refine Wc.keep [(2, _), (4, _), (5, _), (14, _), (15, _)] (.cons rfl (.cons rfl (.cons rfl (.cons rfl (.cons rfl (.nil)))))) ?_
        refine Wc.loopC (ι := Nat × Option Addr × Nat × List (List UInt8)) [(2, _), (4, _), (5, _), (14, _)] (fun | (i, _, _, _) => [(15, .int .i64 (i : Int))]) (fun | (i, B4, c4, bs), wr => i ≤ most.toNat ∧ OL wr (fun k => k < w.heap.size ∨ N4 ≤ k) N4 B4 i c4 bs ∧ Fr (fun k => k ≠ b5 ∧ k < N4) wJ5 wr ∧ Blk wr b5 33 #[.int .i64 k, .slice B hcnt c1, .slice B2 acnt c2, .slice B3 icnt c3, .slice B4 i c4] ∧ Blk wr b2 33 #[.int .i64 q.code, .slice hA hn hc, .slice aA an ac, .slice iA iN ic, .slice bA bn bc] ∧ Blk wr b4 33 #[.int .i64 0, .slice none 0 0, .slice none 0 0, .slice none 0 0, .slice none 0 0] ∧ Blk wr b6 25 #[.int .i64 s.h, .int .i64 s.a, .int .i64 s.i, .int .i64 s.b] ∧ Ext w wr) (fun | (i, _, _, _) => most.toNat - i) ((0, none, 0, [])) (.cons (by first | exact rfl | exact look_int rfl (by omega) | exact look_slice rfl (by omega)) (.cons rfl (.cons rfl (.cons rfl (.cons rfl (.nil)))))) (⟨Nat.zero_le _, OL.nil_ _ _ _, hK0, hb5, hb2, hb4, hb6, hE⟩) ?_
        intro ⟨i, B4, c4, bs⟩ wr4 hJ KL4 hKL4
        clear hb2 hb4 hb5 hb6 hE hK0
        obtain ⟨hi, hL, hK, hb5, hb2, hb4, hb6, hE⟩ := hJ
        have hNs4 : N4 ≤ wr4.heap.size := by rw [← hNw3]; exact hK.size
        refine Wc.seq (fun K35 hK35 => ?_)
        refine Wc.seq (fun K36 hK36 => ?_)
        refine Wc.keep [(2, _), (4, _), (5, _), (14, _), (15, _)] (.cons rfl (.cons rfl (.cons rfl (.cons rfl (.cons rfl (.nil)))))) ?_
        refine Wc.region ?_
        refine Wl.val rfl rfl rfl (Gives.move rfl rfl) ?_
        refine Wl.val rfl rfl rfl (Gives.move rfl rfl) ?_
        refine Wl.val rfl rfl rfl (Gives.lss rfl rfl rfl) ?_
        refine Wl.nil ?_
        refine Wx.thenN (hK36 _ _ ?_)
        refine Wc.cond _ rfl (fun h129 => ?_) (fun h129 => ?_)
        · (first | replace h129 := of_decide_eq_true h129 | replace h129 := nd_true h129 | skip)
          refine Wc.skip ?_
          refine Wx.thenN (hK35 _ _ ?_)
          refine Wc.seq (fun K37 hK37 => ?_)
          refine Wc.block ?_
          refine Wc.seq (fun K38 hK38 => ?_)
          refine Wc.keep [(2, _), (4, _), (5, _), (14, _), (15, _)] (.cons rfl (.cons rfl (.cons rfl (.cons rfl (.cons rfl (.nil)))))) ?_
          refine Wc.region ?_
          refine Wl.val rfl rfl rfl (Gives.move rfl rfl) ?_
          refine Wl.val rfl rfl rfl (Gives.conv rfl Tryd.underlying3 Tryd.underlying5 rfl (byteOf_int _)) ?_
          refine Wl.does rfl rfl rfl (Does.lit rfl Tryd.underlying36 infoB2 rfl rfl rfl rfl rfl) ?_
          rintro _ w322 ⟨g322, rfl, hs322, hk322, hx322⟩
          replace hb2 := hb2.ext hx322
          replace hb4 := hb4.ext hx322
          replace hb5 := hb5.ext hx322
          replace hb6 := hb6.ext hx322
          replace hE := hE.trans hx322
          have hF0 : BV w322 (fun k => wr4.heap.size ≤ k) (some ⟨g322, 0, none⟩) 1 1 [byteOf (i : Int)] := (mb1 (byteOf (i : Int)) hk322 rfl).bv hs322 rfl (Nat.le_refl _) (by omega)
          refine Wl.val rfl rfl rfl (Gives.assign rfl rfl) ?_
          refine Wl.nil ?_
          refine Wx.thenN (hK38 _ _ ?_)
          refine Wc.joinC (ι := Option Addr × Nat × Nat × List UInt8) [(2, _), (4, _), (5, _), (14, _), (15, _)] (fun | (C, cn, cc, _) => [(16, .slice C cn cc)]) (fun | (C, cn, cc, x), wJ => BV wJ (fun k => k < w.heap.size ∨ wr4.heap.size ≤ k) C cn cc x ∧ wJ = w322) ?_ ?_ (.cons rfl (.cons rfl (.cons rfl (.cons rfl (.cons rfl (.nil))))))
          · intro K39 hJ39
            refine Wc.seq (fun K40 hK40 => ?_)
            refine Wc.keep [(2, _), (4, _), (5, _), (14, _), (15, _), (16, _)] (.cons rfl (.cons rfl (.cons rfl (.cons rfl (.cons rfl (.cons rfl (.nil))))))) ?_
            refine Wc.region ?_
            refine Wl.val rfl rfl rfl (Gives.move rfl rfl) ?_
            refine Wl.val rfl rfl rfl (Gives.fieldAt 4 rfl Tryd.underlying33 rfl (by kernel_rfl) rfl rfl) ?_
            refine Wl.val rfl rfl rfl (Gives.ldK rfl (by kernel_rfl) rfl hb2 rfl) ?_
            refine Wl.val rfl rfl rfl (Gives.lenS rfl Tryd.underlying31 rfl) ?_
            refine Wl.val rfl rfl rfl (Gives.lss rfl rfl rfl) ?_
            refine Wl.nil ?_
            refine Wx.thenN (hK40 _ _ ?_)
            refine Wc.cond _ rfl (fun h139 => ?_) (fun h139 => ?_)
            · (first | replace h139 := of_decide_eq_true h139 | replace h139 := nd_true h139 | skip)
              refine Wc.keep [(2, _), (4, _), (5, _), (14, _), (15, _)] (.cons rfl (.cons rfl (.cons rfl (.cons rfl (.cons rfl (.nil)))))) ?_
              obtain ⟨xb, xo, rfl, hbw, x, zA, zn, zc, hz, hcell, hZ⟩ := hbs.at' (show i < bn by omega)
              have hcell2 := (World.cell?_of_block (w := w) (a := ⟨xb, xo + i, none⟩) (hE.below.block xb hbw)).trans hcell
              have hZle := hZ.le
              refine Wc.region ?_
              refine Wl.val rfl rfl rfl (Gives.fieldAt 4 rfl Tryd.underlying33 rfl (by kernel_rfl) rfl rfl) ?_
              refine Wl.val rfl rfl rfl (Gives.ldK rfl (by kernel_rfl) rfl hb2 rfl) ?_
              refine Wl.val rfl rfl rfl (Gives.move rfl rfl) ?_
              refine Wl.val rfl rfl rfl (Gives.ixS (i := _) rfl Tryd.underlying31 (by kernel_rfl) rfl rfl rfl (by omega)) ?_
              refine Wl.val rfl rfl rfl (Gives.ldC rfl (by kernel_rfl) rfl hcell2) ?_
              refine Wl.val rfl rfl rfl (Gives.call rfl Tryd.func31 rfl (by kernel_rfl) rfl (by first | exact cutN_calls _ _ _ _ (by first | exact hNle | exact hVle) 128 rfl | exact cutN_calls _ _ _ _ hZle 200 rfl)) ?_
              refine Wl.val rfl rfl rfl (Gives.assign rfl rfl) ?_
              refine Wl.nil ?_
              refine Wx.thenN ?_
              refine hJ39 (zA, min zn 200, zc, x.take 200) _ _ (.cons (by first | exact rfl | exact look_int rfl (by omega) | exact look_slice rfl (by omega)) (.cons rfl (.cons rfl (.cons rfl (.cons rfl (.cons rfl (.nil))))))) ⟨((hZ.cutS 200).bd.ext hE).mono (fun k hk => Or.inl hk.2), rfl⟩
            · (first | replace h139 := of_decide_eq_false h139 | replace h139 := nd_false h139 | skip)
              refine Wc.skip ?_
              refine Wx.thenN ?_
              refine hJ39 (some ⟨g322, 0, none⟩, 1, 1, [byteOf (i : Int)]) _ _ (.cons (by first | exact rfl | exact look_int rfl (by omega) | exact look_slice rfl (by omega)) (.cons rfl (.cons rfl (.cons rfl (.cons rfl (.cons rfl (.nil))))))) ⟨hF0.mono (fun k hk => Or.inr hk), rfl⟩
          intro ⟨C, cn, cc, x⟩ wJ6 hJ
          obtain ⟨hC, rfl⟩ := hJ
          refine Wc.keep [(2, _), (4, _), (5, _), (14, _), (15, _), (16, _)] (.cons rfl (.cons rfl (.cons rfl (.cons rfl (.cons rfl (.cons rfl (.nil))))))) ?_
          refine Wc.region ?_
          refine Wl.val rfl rfl rfl (Gives.fieldAt 4 rfl Tryd.underlying33 rfl (by kernel_rfl) rfl rfl) ?_
          refine Wl.val rfl rfl rfl (Gives.ldK rfl (by kernel_rfl) rfl hb5 rfl) ?_
          refine Wl.val rfl rfl rfl (Gives.move rfl rfl) ?_
          refine Wl.does rfl rfl rfl (Does.lit rfl Tryd.underlying31 infoL2 rfl rfl rfl rfl rfl) ?_
          rintro _ w353 ⟨g353, rfl, hs353, hk353, hx353⟩
          replace hb2 := hb2.ext hx353
          replace hb4 := hb4.ext hx353
          replace hb5 := hb5.ext hx353
          replace hb6 := hb6.ext hx353
          replace hE := hE.trans hx353
          obtain ⟨vs1, ho1⟩ := hL.own
          have hC2 : BV w353 (NOwn w353 (fun k => k < w.heap.size ∨ N4 ≤ k) (.slice B4 i c4)) C cn cc x := (hC.ext hx353).bd.mono fun k hk => ⟨by omega, hk.2, fun he => by have := own_lt ho1 k he; omega⟩
          have hsz353 := hx353.size
          have hsz322 := hx322.size
          refine Wl.does rfl rfl rfl (Does.appL rfl rfl rfl ((hL.ext hx322).ext hx353) hk353 hC2 (by omega) (by omega)) ?_
          rintro _ w354 ⟨B', c5, rfl, hL3, hB354⟩
          replace hb2 := Blk.bel hb2 hB354 (by omega)
          replace hb4 := Blk.bel hb4 hB354 (by omega)
          replace hb5 := Blk.bel hb5 hB354 (by omega)
          replace hb6 := Blk.bel hb6 hB354 (by omega)
          replace hE := Ext.step hE hB354 (by omega)
          have hK3 := (hK.trans (hx322.trans hx353).fr).trans ((below_fr hB354).mono (fun k hk => hk.2))
          refine Wl.val rfl rfl rfl (Gives.fieldAt 4 rfl Tryd.underlying33 rfl (by kernel_rfl) rfl rfl) ?_
          refine Wl.acts rfl rfl (Does.stC rfl rfl rfl hb5 (by kernel_rfl) (Nat.le_of_ble_eq_true rfl) rfl) ?_
          rintro _ w35_6 ⟨hbn, hF35_6⟩
          replace hb2 := hb2.fr hF35_6 (by first | assumption | exact Ne.symm (by assumption))
          replace hb4 := hb4.fr hF35_6 (by first | assumption | exact Ne.symm (by assumption))
          replace hb6 := hb6.fr hF35_6 (by first | assumption | exact Ne.symm (by assumption))
          replace hE := Ext.over hE hF35_6 hg5
          replace hb5 := hbn
          clear hbn
          (try simp only [List.setIfInBounds_toArray, List.set_cons_zero, List.set_cons_succ, Nat.reduceAdd, Nat.zero_add] at hb5)
          have hL4 := hL3.fr hF35_6 (fun k hk => by omega) (fun k hk => by omega)
          have hK4 := hK3.trans (hF35_6.mono (fun k hk => hk.1))
          refine Wl.nil ?_
          refine Wx.blockN ?_
          refine Wx.thenN (hK37 _ _ ?_)
          refine Wc.keep [(2, _), (4, _), (5, _), (14, _), (15, _)] (.cons rfl (.cons rfl (.cons rfl (.cons rfl (.cons rfl (.nil)))))) ?_
          refine Wc.region ?_
          refine Wl.val rfl rfl rfl (Gives.move rfl rfl) ?_
          refine Wl.val rfl rfl rfl (Gives.add rfl rfl rfl (by first | exact IntWalk.i64_in _ (by omega) | exact u64_in _ (by omega) | exact u32_in _ (by omega) | exact u8_in _ (by omega) | exact rfl)) ?_
          refine Wl.val rfl rfl rfl (Gives.assign rfl rfl) ?_
          refine Wl.nil ?_
          refine Wx.thenN ?_
          refine hKL4 (i + 1, B', c5, bs ++ [x]) _ _ (.cons (by first | exact rfl | exact look_int rfl (by omega) | exact look_slice rfl (by omega)) (.cons rfl (.cons rfl (.cons rfl (.cons rfl (.nil)))))) ⟨by omega, hL4, hK4, hb5, hb2, hb4, hb6, hE⟩ (by show most.toNat - (i + 1) < most.toNat - i; omega)
        · (first | replace h129 := of_decide_eq_false h129 | replace h129 := nd_false h129 | skip)
          refine Wc.exit ?_
          refine Wx.thenE ?_
          refine Wx.thenE ?_
          refine Wx.hit ?_
          refine Wx.thenN (hK33 _ _ ?_)
          refine Wc.seq (fun K41 hK41 => ?_)
          refine Wc.keep [(4, _), (5, _)] (.cons rfl (.cons rfl (.nil))) ?_
          have him : most.toNat = i := by omega
          clear hi
          have hLl := hL.len
          have hH4 := hH3.fr hK (fun k h1 h2 => ⟨by omega, by omega⟩)
          have hU4 := hU3.fr hK (fun k h1 h2 => ⟨by omega, by omega⟩) (fun k hk => ⟨by omega, by omega⟩)
          have hI4 := hI2.fr hK (fun k h1 h2 => ⟨by omega, by omega⟩)
          refine Wc.region ?_
          refine Wl.val rfl rfl rfl (Gives.ldW rfl (by kernel_rfl) rfl hb5 (by kernel_rfl)) ?_
          refine Wl.acts rfl rfl (Does.stL 5 rfl rfl rfl hb4 (by kernel_rfl) rfl rfl rfl) ?_
          rintro _ w36_1 ⟨hbn, hF36_1⟩
          replace hb2 := hb2.fr hF36_1 (by first | assumption | exact Ne.symm (by assumption))
          replace hb5 := hb5.fr hF36_1 (by first | assumption | exact Ne.symm (by assumption))
          replace hb6 := hb6.fr hF36_1 (by first | assumption | exact Ne.symm (by assumption))
          replace hE := Ext.over hE hF36_1 hg4
          replace hb4 := hbn
          clear hbn
          have hFr := hF36_1
          have hH5 := hH4.fr hFr (fun k h1 h2 => by omega)
          have hU5 := hU4.fr hFr (fun k h1 h2 => by omega) (fun k hk => by omega)
          have hI5 := hI4.fr hFr (fun k h1 h2 => by omega)
          have hL5 := hL.fr hFr (fun k hk => by omega) (fun k hk => by omega)
          have hszF := hFr.size
          refine Wl.nil ?_
          refine Wx.thenN (hK41 _ _ ?_)
          refine Wc.ret ?_
          refine Wx.ret [_] ⟨⟨_, rfl, res_blk hb4 Tryd.underlying33 rfl (by kernel_rfl)⟩, trivial⟩ ?_
          refine ⟨⟨k, xs, us, zs, bs⟩, ⟨B, hcnt, c1, B2, acnt, c2, B3, icnt, c3, B4, i, c4⟩, b6 + 1, N2, N3, N4, rfl, ⟨by omega, by omega, by omega, by omega, by omega, hH5, hU5, hI5, hL5⟩, by rw [hsq]; exact hok, ?_, hE⟩
          rw [hsq]
          unfold argOk argF
          simp only
          rw [hall, hall2, hall3, decide_eq_true (p := (xs.length : Int) = s.h) (by omega), decide_eq_true (p := (us.length : Int) = s.a) (by omega), decide_eq_true (p := (zs.length : Int) = s.i) (by omega), show (bs.length : Int) = most by omega, hfit]
          rfl
end Go.Proofs.YtaekpiejdgahfaaDoor
