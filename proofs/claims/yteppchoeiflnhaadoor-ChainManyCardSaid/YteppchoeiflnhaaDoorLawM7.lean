/- ChainMany, ChainDistinct: the walks. -/
import Derived.Test.YteppchoeiflnhaaDoorImgV
namespace Go.Proofs.YteppchoeiflnhaaDoor
set_option linter.all false
set_option maxRecDepth 20000
open Go.RowKit
set_option maxRecDepth 20000 in
set_option maxHeartbeats 2000000 in
theorem chainMany_walk (w : World) (hTM : Tab w ∧ TabM w) (n0 : Int) :
    Calls Tryd.prog 10 #[.int .i64 n0] w fun e w' => e = .returned (.bool true) ∧ Ext w w' := by
  obtain ⟨hT, hM⟩ := hTM
  refine calls_enter Tryd.func10 rfl Tryd.ntmps10 rfl ?_
  have hE : Ext w w := Ext.refl w
  refine Wc.seq (fun K1 hK1 => ?_)
  refine Wc.keep [(0, _)] (.cons rfl (.nil)) ?_
  refine Wc.region ?_
  refine Wl.val rfl rfl rfl (Gives.assign rfl rfl) ?_
  refine Wl.nil ?_
  refine Wx.thenN (hK1 _ _ ?_)
  refine Wc.seq (fun K2 hK2 => ?_)
  refine Wc.seq (fun K3 hK3 => ?_)
  refine Wc.keep [(0, _)] (.cons rfl (.nil)) ?_
  refine Wc.region ?_
  refine Wl.call rfl rfl rfl rfl Tryd.func13 rfl (by kernel_rfl) rfl (awakeI _ (hT.ext hE) (hM.ext hE)) ?_
  rintro x0 w0 ⟨rfl, hx0⟩
  refine ⟨_, rfl, ?_⟩
  replace hE := hE.trans hx0
  refine Wl.val rfl rfl rfl (Gives.not rfl rfl) ?_
  refine Wl.nil ?_
  refine Wx.thenN (hK3 _ _ ?_)
  refine Wc.condF rfl rfl ?_
  refine Wc.skip ?_
  refine Wx.thenN (hK2 _ _ ?_)
  refine Wc.seq (fun K4 hK4 => ?_)
  refine Wc.keep [(0, _)] (.cons rfl (.nil)) ?_
  refine Wc.region ?_
  refine Wl.val rfl rfl rfl (Gives.move rfl rfl) ?_
  refine Wl.call rfl rfl rfl rfl Tryd.func20 rfl (by kernel_rfl) rfl (mod_calls _ n0 12 (by omega) (by omega)) ?_
  rintro x1 w31 ⟨rfl, rfl⟩
  refine ⟨_, rfl, ?_⟩
  have hn0 := Int.emod_nonneg n0 (show (12 : Int) ≠ 0 by decide)
  have hn1 := Int.emod_lt_of_pos n0 (show (0 : Int) < 12 by decide)
  generalize n0 % 12 = z at *
  obtain ⟨n, rfl⟩ := Int.eq_ofNat_of_zero_le hn0
  refine Wl.val rfl rfl rfl (Gives.assign rfl rfl) ?_
  refine Wl.nil ?_
  refine Wx.thenN (hK4 _ _ ?_)
  refine Wc.seq (fun K5 hK5 => ?_)
  refine Wc.keep [(0, _)] (.cons rfl (.nil)) ?_
  refine Wc.region ?_
  refine Wl.val rfl rfl rfl (Gives.buildS (pl := [(0, 1), (1, 1), (2, 1), (3, 1)]) (zv := (.agg #[(.int .i64 0), (.string ByteArray.empty), (.int .i64 0), (.slice none 0 0)])) rfl Tryd.underlying26 (by kernel_rfl) (by kernel_rfl) rfl rfl) ?_
  refine Wl.does rfl rfl rfl (Does.lit1 4 rfl Tryd.underlying52 infoI2 rfl rfl rfl) ?_
  rintro _ w41 ⟨g41, rfl, hs41, hk41, hx41⟩
  have hg41 : w.heap.size ≤ g41 := Nat.le_trans hE.size hs41
  have hIO0 : ImO w41 w.heap.size (some ⟨g41, 0, none⟩) 1 1 (manyL 0) := ImO.one (x := manyX) (S := none) (m := 0) (d := 0) hk41 hg41 (BV.nil_ _ _)
  replace hE := hE.trans hx41
  refine Wl.val rfl rfl rfl (Gives.assign rfl rfl) ?_
  refine Wl.nil ?_
  refine Wx.thenN (hK5 _ _ ?_)
  refine Wc.seq (fun K6 hK6 => ?_)
  refine Wc.seq (fun K7 hK7 => ?_)
  refine Wc.keep [(0, _), (3, _)] (.cons rfl (.cons rfl (.nil))) ?_
  refine Wc.region ?_
  refine Wl.val rfl rfl rfl (Gives.assign rfl rfl) ?_
  refine Wl.nil ?_
  refine Wx.thenN (hK7 _ _ ?_)
  refine Wc.block ?_
  refine Wc.keep [(0, _), (3, _), (4, _)] (.cons rfl (.cons rfl (.cons rfl (.nil)))) ?_
  refine Wc.loopC (ι := Nat × Option Addr × Nat × Nat) [(0, _)] (fun | (i, S, m, k) => [(4, .int .i64 (i : Int)), (3, .slice S m k)]) (fun | (i, S, m, k), wr => i ≤ n ∧ m = i + 1 ∧ ImO wr w.heap.size S m k (manyL i) ∧ Ext w wr) (fun | (i, _) => n - i) ((0, some ⟨g41, 0, none⟩, 1, 1)) (.cons (by first | exact rfl | exact look_int rfl (by omega) | exact look_slice rfl (by omega)) (.cons (by first | exact rfl | exact look_int rfl (by omega) | exact look_slice rfl (by omega)) (.cons rfl (.nil)))) (⟨by omega, rfl, hIO0, hE⟩) ?_
  intro ⟨i, S, m, k⟩ wr hJ KL1 hKL1
  clear hE hIO0
  obtain ⟨hi, hm, hIO, hE⟩ := hJ
  refine Wc.seq (fun K8 hK8 => ?_)
  refine Wc.seq (fun K9 hK9 => ?_)
  refine Wc.keep [(0, _), (3, _), (4, _)] (.cons rfl (.cons rfl (.cons rfl (.nil)))) ?_
  refine Wc.region ?_
  refine Wl.val rfl rfl rfl (Gives.move rfl rfl) ?_
  refine Wl.val rfl rfl rfl (Gives.move rfl rfl) ?_
  refine Wl.val rfl rfl rfl (Gives.lss rfl rfl rfl) ?_
  refine Wl.nil ?_
  refine Wx.thenN (hK9 _ _ ?_)
  refine Wc.cond _ rfl (fun h14 => ?_) (fun h14 => ?_)
  · (first | replace h14 := of_decide_eq_true h14 | replace h14 := nd_true h14 | skip)
    refine Wc.skip ?_
    refine Wx.thenN (hK8 _ _ ?_)
    refine Wc.seq (fun K10 hK10 => ?_)
    refine Wc.block ?_
    refine Wc.keep [(0, _), (3, _), (4, _)] (.cons rfl (.cons rfl (.cons rfl (.nil)))) ?_
    refine Wc.region ?_
    refine Wl.val rfl rfl rfl (Gives.move rfl rfl) ?_
    refine Wl.val rfl rfl rfl (Gives.move rfl rfl) ?_
    refine Wl.val rfl rfl rfl (Gives.add rfl rfl rfl (by first | exact IntWalk.i64_in _ (by omega) | exact u64_in _ (by omega) | exact u32_in _ (by omega) | exact u8_in _ (by omega) | exact rfl)) ?_
    refine Wl.val rfl rfl rfl (Gives.conv rfl Tryd.underlying3 Tryd.underlying5 rfl (by first | exact IntWalk.i64_in _ (by omega) | exact u64_in _ (by omega) | exact u32_in _ (by omega) | exact u8_in _ (by omega) | exact rfl)) ?_
    refine Wl.does rfl rfl rfl (Does.lit rfl Tryd.underlying22 infoB2 rfl rfl rfl rfl rfl) ?_
    rintro _ w84 ⟨g84, rfl, hs84, hk84, hx84⟩
    have hB84 : BV w84 (fun _ => True) (some ⟨g84, 0, none⟩) 2 2 [107, UInt8.ofNat (97 + i)] := MB.bv (t := 5) (by
      show Blk _ _ _ _
      have e : ((UInt8.ofNat (97 + i)).toNat : Int) = 97 + (i : Int) := by rw [UInt8.toNat_ofNat', Nat.mod_eq_of_lt (by omega)]; omega
      unfold u8s
      simp only [List.map_cons, List.map_nil, e]
      exact hk84) trivial rfl (Nat.le_refl _) (by omega)
    replace hIO := hIO.ext hx84
    replace hE := hE.trans hx84
    refine Wl.val rfl rfl rfl (Gives.toStr rfl Tryd.underlying22 Tryd.underlying5 Tryd.underlying9 rfl hB84) ?_
    refine Wl.val rfl rfl rfl (Gives.buildS (pl := [(0, 1), (1, 1), (2, 1), (3, 1)]) (zv := (.agg #[(.int .i64 0), (.string ByteArray.empty), (.int .i64 0), (.slice none 0 0)])) rfl Tryd.underlying26 (by kernel_rfl) (by kernel_rfl) rfl rfl) ?_
    refine Wl.does rfl rfl rfl (Does.lit1 4 rfl Tryd.underlying52 infoI2 rfl rfl rfl) ?_
    rintro _ w87 ⟨g87, rfl, hs87, hk87, hx87⟩
    replace hk87 : Blk w87 g87 26 (imgC (manyI i) none 0 0).toArray := hk87
    replace hIO := hIO.ext hx87
    replace hE := hE.trans hx87
    refine Wl.does rfl rfl rfl (Does.appIO rfl rfl rfl hIO hk87 (BV.nil_ _ _) (by omega) hE.size) ?_
    rintro _ w88 ⟨B2, sc2, rfl, hIO2, hB88⟩
    replace hE := Ext.step hE hB88 (Nat.le_refl _)
    refine Wl.val rfl rfl rfl (Gives.assign rfl rfl) ?_
    refine Wl.nil ?_
    refine Wx.blockN ?_
    refine Wx.thenN (hK10 _ _ ?_)
    refine Wc.keep [(0, _), (3, _), (4, _)] (.cons rfl (.cons rfl (.cons rfl (.nil)))) ?_
    refine Wc.region ?_
    refine Wl.val rfl rfl rfl (Gives.move rfl rfl) ?_
    refine Wl.val rfl rfl rfl (Gives.add rfl rfl rfl (by first | exact IntWalk.i64_in _ (by omega) | exact u64_in _ (by omega) | exact u32_in _ (by omega) | exact u8_in _ (by omega) | exact rfl)) ?_
    refine Wl.val rfl rfl rfl (Gives.assign rfl rfl) ?_
    refine Wl.nil ?_
    refine Wx.thenN ?_
    exact hKL1 (i + 1, B2, m + 1, sc2) _ _ (.cons (by first | exact rfl | exact look_int rfl (by omega) | exact look_slice rfl (by omega)) (.cons (by first | exact rfl | exact look_int rfl (by omega) | exact look_slice rfl (by omega)) (.cons rfl (.nil)))) ⟨by omega, by omega, by rw [← many_step]; exact hIO2, hE⟩ (by show n - (i + 1) < n - i; omega)
  · (first | replace h14 := of_decide_eq_false h14 | replace h14 := nd_false h14 | skip)
    refine Wc.exit ?_
    refine Wx.thenE ?_
    refine Wx.thenE ?_
    refine Wx.hit ?_
    refine Wx.thenN (hK6 _ _ ?_)
    refine Wc.seq (fun K11 hK11 => ?_)
    refine Wc.keep [(0, _), (3, _)] (.cons rfl (.cons rfl (.nil))) ?_
    obtain rfl : i = n := by omega
    refine Wc.region ?_
    refine Wl.val rfl rfl rfl (Gives.move rfl rfl) ?_
    refine Wl.call rfl rfl rfl rfl Tryd.func37 rfl (by kernel_rfl) rfl (chainP _ S m k _ (hIO.sl (P := fun _ => True) fun _ _ => trivial)) ?_
    rintro x2 w91 ⟨rfl, hx91⟩
    refine ⟨_, rfl, ?_⟩
    replace hE := hE.trans hx91
    refine Wl.val rfl rfl rfl (Gives.assign rfl rfl) ?_
    refine Wl.nil ?_
    refine Wx.thenN (hK11 _ _ ?_)
    refine Wc.seq (fun K12 hK12 => ?_)
    refine Wc.seq (fun K13 hK13 => ?_)
    refine Wc.keep [(0, _), (5, _)] (.cons rfl (.cons rfl (.nil))) ?_
    refine Wc.region ?_
    refine Wl.val rfl rfl rfl (Gives.move rfl rfl) ?_
    refine Wl.val rfl rfl rfl (Gives.add rfl rfl rfl (by first | exact IntWalk.i64_in _ (by omega) | exact u64_in _ (by omega) | exact u32_in _ (by omega) | exact u8_in _ (by omega) | exact rfl)) ?_
    refine Wl.val rfl rfl rfl (Gives.gtr rfl rfl rfl) ?_
    refine Wl.nil ?_
    refine Wx.thenN (hK13 _ _ ?_)
    refine Wc.cond _ rfl (fun h30 => ?_) (fun h30 => ?_)
    · (first | replace h30 := of_decide_eq_true h30 | replace h30 := nd_true h30 | skip)
      refine Wc.seq (fun K14 hK14 => ?_)
      refine Wc.keep [(5, _)] (.cons rfl (.nil)) ?_
      refine Wc.region ?_
      refine Wl.val rfl rfl rfl (Gives.move rfl rfl) ?_
      refine Wl.val rfl rfl rfl (Gives.eql rfl rfl rfl) ?_
      refine Wl.val rfl rfl rfl (Gives.assign rfl rfl) ?_
      refine Wl.nil ?_
      refine Wx.thenN (hK14 _ _ ?_)
      refine Wc.ret ?_
      refine Wx.thenR ?_
      refine Wx.ret [_] ⟨rfl, trivial⟩ ?_
      first | exact ⟨ret_bool (by rw [many_1 _ (by omega)]; rfl), hE⟩ | exact ⟨ret_bool (by rcases hce with ⟨h1, h2⟩ | ⟨h1, h2⟩ <;> simp_all), hE⟩ | (exfalso; omega)
    · (first | replace h30 := of_decide_eq_false h30 | replace h30 := nd_false h30 | skip)
      refine Wc.skip ?_
      refine Wx.thenN (hK12 _ _ ?_)
      refine Wc.seq (fun K15 hK15 => ?_)
      refine Wc.keep [(0, _), (5, _)] (.cons rfl (.cons rfl (.nil))) ?_
      have hce : (i = 0 ∧ chainE (manyL i) = 40) ∨ (0 < i ∧ chainE (manyL i) = 0) := by
        rcases Nat.eq_zero_or_pos i with hz | hz
        · left; subst hz; exact ⟨rfl, many_0⟩
        · right; exact ⟨hz, many_E i hz (by omega)⟩
      generalize chainE (manyL i) = ce at *
      refine Wc.region ?_
      refine Wl.val rfl rfl rfl (Gives.move rfl rfl) ?_
      refine Wl.val rfl rfl rfl (Gives.eql rfl rfl rfl) ?_
      refine Wl.val rfl rfl rfl (Gives.move rfl rfl) ?_
      refine Wl.guard rfl rfl rfl (fun h35 => ?_) (fun h35 => ?_)
      · (first | replace h35 := of_decide_eq_true h35 | replace h35 := nd_true h35 | skip)
        refine Wl.val rfl rfl rfl (Gives.move rfl rfl) ?_
        refine Wl.val rfl rfl rfl (Gives.gtr rfl rfl rfl) ?_
        refine Wl.val rfl rfl rfl (Gives.pickT rfl rfl rfl rfl) ?_
        refine Wl.val rfl rfl rfl (Gives.move rfl rfl) ?_
        refine Wl.guard rfl rfl rfl (fun h39 => ?_) (fun h39 => ?_)
        · (first | replace h39 := of_decide_eq_false h39 | replace h39 := nd_false h39 | skip)
          refine Wl.val rfl rfl rfl (Gives.move rfl rfl) ?_
          refine Wl.val rfl rfl rfl (Gives.eql rfl rfl rfl) ?_
          refine Wl.val rfl rfl rfl (Gives.move rfl rfl) ?_
          refine Wl.guard rfl rfl rfl (fun h42 => ?_) (fun h42 => ?_)
          · (first | replace h42 := of_decide_eq_true h42 | replace h42 := nd_true h42 | skip)
            refine Wl.val rfl rfl rfl (Gives.move rfl rfl) ?_
            refine Wl.val rfl rfl rfl (Gives.eql rfl rfl rfl) ?_
            refine Wl.val rfl rfl rfl (Gives.pickT rfl rfl rfl rfl) ?_
            refine Wl.val rfl rfl rfl (Gives.pickF rfl rfl rfl rfl) ?_
            refine Wl.val rfl rfl rfl (Gives.assign rfl rfl) ?_
            refine Wl.nil ?_
            refine Wx.thenN (hK15 _ _ ?_)
            refine Wc.ret ?_
            refine Wx.ret [_] ⟨rfl, trivial⟩ ?_
            first | exact ⟨ret_bool (by rw [many_1 _ (by omega)]; rfl), hE⟩ | exact ⟨ret_bool (by rcases hce with ⟨h1, h2⟩ | ⟨h1, h2⟩ <;> simp_all), hE⟩ | (exfalso; omega)
          · (first | replace h42 := of_decide_eq_false h42 | replace h42 := nd_false h42 | skip)
            refine Wl.pass rfl rfl rfl ?_
            refine Wl.pass rfl rfl rfl ?_
            refine Wl.val rfl rfl rfl (Gives.pickF rfl rfl rfl rfl) ?_
            refine Wl.val rfl rfl rfl (Gives.pickF rfl rfl rfl rfl) ?_
            refine Wl.val rfl rfl rfl (Gives.assign rfl rfl) ?_
            refine Wl.nil ?_
            refine Wx.thenN (hK15 _ _ ?_)
            refine Wc.ret ?_
            refine Wx.ret [_] ⟨rfl, trivial⟩ ?_
            first | exact ⟨ret_bool (by rw [many_1 _ (by omega)]; rfl), hE⟩ | exact ⟨ret_bool (by rcases hce with ⟨h1, h2⟩ | ⟨h1, h2⟩ <;> simp_all), hE⟩ | (exfalso; omega)
        · (first | replace h39 := of_decide_eq_true h39 | replace h39 := nd_true h39 | skip)
          refine Wl.pass rfl rfl rfl ?_
          refine Wl.pass rfl rfl rfl ?_
          refine Wl.pass rfl rfl rfl ?_
          refine Wl.pass rfl rfl rfl ?_
          refine Wl.pass rfl rfl rfl ?_
          refine Wl.pass rfl rfl rfl ?_
          refine Wl.val rfl rfl rfl (Gives.pickT rfl rfl rfl rfl) ?_
          refine Wl.val rfl rfl rfl (Gives.assign rfl rfl) ?_
          refine Wl.nil ?_
          refine Wx.thenN (hK15 _ _ ?_)
          refine Wc.ret ?_
          refine Wx.ret [_] ⟨rfl, trivial⟩ ?_
          first | exact ⟨ret_bool (by rw [many_1 _ (by omega)]; rfl), hE⟩ | exact ⟨ret_bool (by rcases hce with ⟨h1, h2⟩ | ⟨h1, h2⟩ <;> simp_all), hE⟩ | (exfalso; omega)
      · (first | replace h35 := of_decide_eq_false h35 | replace h35 := nd_false h35 | skip)
        refine Wl.pass rfl rfl rfl ?_
        refine Wl.pass rfl rfl rfl ?_
        refine Wl.val rfl rfl rfl (Gives.pickF rfl rfl rfl rfl) ?_
        refine Wl.val rfl rfl rfl (Gives.move rfl rfl) ?_
        refine Wl.guardT rfl rfl rfl rfl ?_
        refine Wl.val rfl rfl rfl (Gives.move rfl rfl) ?_
        refine Wl.val rfl rfl rfl (Gives.eql rfl rfl rfl) ?_
        refine Wl.val rfl rfl rfl (Gives.move rfl rfl) ?_
        refine Wl.guard rfl rfl rfl (fun h42 => ?_) (fun h42 => ?_)
        · (first | replace h42 := of_decide_eq_true h42 | replace h42 := nd_true h42 | skip)
          refine Wl.val rfl rfl rfl (Gives.move rfl rfl) ?_
          refine Wl.val rfl rfl rfl (Gives.eql rfl rfl rfl) ?_
          refine Wl.val rfl rfl rfl (Gives.pickT rfl rfl rfl rfl) ?_
          refine Wl.val rfl rfl rfl (Gives.pickF rfl rfl rfl rfl) ?_
          refine Wl.val rfl rfl rfl (Gives.assign rfl rfl) ?_
          refine Wl.nil ?_
          refine Wx.thenN (hK15 _ _ ?_)
          refine Wc.ret ?_
          refine Wx.ret [_] ⟨rfl, trivial⟩ ?_
          first | exact ⟨ret_bool (by rw [many_1 _ (by omega)]; rfl), hE⟩ | exact ⟨ret_bool (by rcases hce with ⟨h1, h2⟩ | ⟨h1, h2⟩ <;> simp_all), hE⟩ | (exfalso; omega)
        · (first | replace h42 := of_decide_eq_false h42 | replace h42 := nd_false h42 | skip)
          refine Wl.pass rfl rfl rfl ?_
          refine Wl.pass rfl rfl rfl ?_
          refine Wl.val rfl rfl rfl (Gives.pickF rfl rfl rfl rfl) ?_
          refine Wl.val rfl rfl rfl (Gives.pickF rfl rfl rfl rfl) ?_
          refine Wl.val rfl rfl rfl (Gives.assign rfl rfl) ?_
          refine Wl.nil ?_
          refine Wx.thenN (hK15 _ _ ?_)
          refine Wc.ret ?_
          refine Wx.ret [_] ⟨rfl, trivial⟩ ?_
          first | exact ⟨ret_bool (by rw [many_1 _ (by omega)]; rfl), hE⟩ | exact ⟨ret_bool (by rcases hce with ⟨h1, h2⟩ | ⟨h1, h2⟩ <;> simp_all), hE⟩ | (exfalso; omega)
set_option maxRecDepth 20000 in
set_option maxHeartbeats 2000000 in
theorem chainDistinct_walk {P P' P'' : Nat → Prop} (w : World) (hTM : Tab w ∧ TabM w) (C : Option Addr) (cn cc : Nat) (codes : List UInt8) (hc : BV w P C cn cc codes) (D : Option Addr) (dn dc : Nat) (codes2 : List UInt8) (hd : BV w P' D dn dc codes2) (A : Option Addr) (n c : Nat) (l : List Im) (hl : SL Rp.img w P'' A n c l) :
    Calls Tryd.prog 11 #[.slice C cn cc, .slice D dn dc, .slice A n c] w fun e w' => e = .returned (.bool true) ∧ Ext w w' := by
  obtain ⟨hT, hM⟩ := hTM
  have hle := hl.le
  have hln := hl.len
  refine calls_enter Tryd.func11 rfl Tryd.ntmps11 rfl ?_
  have hE : Ext w w := Ext.refl w
  refine Wc.seq (fun K1 hK1 => ?_)
  refine Wc.keep [(0, _), (1, _), (2, _)] (.cons rfl (.cons rfl (.cons rfl (.nil)))) ?_
  refine Wc.region ?_
  refine Wl.val rfl rfl rfl (Gives.assign rfl rfl) ?_
  refine Wl.nil ?_
  refine Wx.thenN (hK1 _ _ ?_)
  refine Wc.seq (fun K2 hK2 => ?_)
  refine Wc.seq (fun K3 hK3 => ?_)
  refine Wc.keep [(0, _), (1, _), (2, _)] (.cons rfl (.cons rfl (.cons rfl (.nil)))) ?_
  refine Wc.region ?_
  refine Wl.call rfl rfl rfl rfl Tryd.func13 rfl (by kernel_rfl) rfl (awakeI _ (hT.ext hE) (hM.ext hE)) ?_
  rintro x0 w0 ⟨rfl, hx0⟩
  refine ⟨_, rfl, ?_⟩
  replace hE := hE.trans hx0
  refine Wl.val rfl rfl rfl (Gives.not rfl rfl) ?_
  refine Wl.nil ?_
  refine Wx.thenN (hK3 _ _ ?_)
  refine Wc.condF rfl rfl ?_
  refine Wc.skip ?_
  refine Wx.thenN (hK2 _ _ ?_)
  refine Wc.joinC (ι := Nat) [(0, _), (1, _)] (fun q => [(2, .slice A q c)]) (fun q wr => SL Rp.img w P'' A q c (l.take q) ∧ Ext w wr) ?_ ?_ (.cons rfl (.cons rfl (.nil)))
  · intro K4 hJ4
    refine Wc.seq (fun K5 hK5 => ?_)
    refine Wc.keep [(0, _), (1, _), (2, _)] (.cons rfl (.cons rfl (.cons rfl (.nil)))) ?_
    refine Wc.region ?_
    refine Wl.val rfl rfl rfl (Gives.move rfl rfl) ?_
    refine Wl.val rfl rfl rfl (Gives.lenS rfl Tryd.underlying52 rfl) ?_
    refine Wl.val rfl rfl rfl (Gives.gtr rfl rfl rfl) ?_
    refine Wl.nil ?_
    refine Wx.thenN (hK5 _ _ ?_)
    refine Wc.cond _ rfl (fun h13 => ?_) (fun h13 => ?_)
    · (first | replace h13 := of_decide_eq_true h13 | replace h13 := nd_true h13 | skip)
      refine Wc.keep [(0, _), (1, _), (2, _)] (.cons rfl (.cons rfl (.cons rfl (.nil)))) ?_
      refine Wc.region ?_
      refine Wl.val rfl rfl rfl (Gives.move rfl rfl) ?_
      refine Wl.val rfl rfl rfl (Gives.cutHiZ 12 rfl Tryd.underlying52 (by kernel_rfl) rfl rfl rfl (by omega)) ?_
      refine Wl.val rfl rfl rfl (Gives.assign rfl rfl) ?_
      refine Wl.nil ?_
      refine Wx.thenN ?_
      first | exact hJ4 12 _ _ (.cons (by first | exact rfl | exact look_int rfl (by omega) | exact look_slice rfl (by omega)) (.cons rfl (.cons rfl (.nil)))) ⟨hl.take (by omega), hE⟩ | exact hJ4 n _ _ (.cons (by first | exact rfl | exact look_int rfl (by omega) | exact look_slice rfl (by omega)) (.cons rfl (.cons rfl (.nil)))) ⟨hl.take (by omega), hE⟩
    · (first | replace h13 := of_decide_eq_false h13 | replace h13 := nd_false h13 | skip)
      refine Wc.skip ?_
      refine Wx.thenN ?_
      first | exact hJ4 12 _ _ (.cons (by first | exact rfl | exact look_int rfl (by omega) | exact look_slice rfl (by omega)) (.cons rfl (.cons rfl (.nil)))) ⟨hl.take (by omega), hE⟩ | exact hJ4 n _ _ (.cons (by first | exact rfl | exact look_int rfl (by omega) | exact look_slice rfl (by omega)) (.cons rfl (.cons rfl (.nil)))) ⟨hl.take (by omega), hE⟩
  intro q wj hJ
  clear hE
  obtain ⟨hq, hE⟩ := hJ
  generalize l.take q = lq at *
  have hqn := hq.len
  refine Wc.seq (fun K6 hK6 => ?_)
  refine Wc.keep [(0, _), (1, _), (2, _)] (.cons rfl (.cons rfl (.cons rfl (.nil)))) ?_
  refine Wc.region ?_
  refine Wl.val rfl rfl rfl (Gives.move rfl rfl) ?_
  refine Wl.call rfl rfl rfl rfl Tryd.func36 rfl (by kernel_rfl) rfl (drawChain _ C cn cc codes (hc.ext hE)) ?_
  rintro x1 w51 ⟨S1, m1, k1, l1, rfl, hI1, hce1, hx51⟩
  refine ⟨_, rfl, ?_⟩
  have hl1 := hI1.sl (P := fun _ => True) fun _ _ => trivial
  replace hE := hE.trans hx51
  refine Wl.val rfl rfl rfl (Gives.move rfl rfl) ?_
  refine Wl.call rfl rfl rfl rfl Tryd.func36 rfl (by kernel_rfl) rfl (drawChain _ D dn dc codes2 (hd.ext hE)) ?_
  rintro x2 w53 ⟨S2, m2, k2, l2, rfl, hI2, hce2, hx53⟩
  refine ⟨_, rfl, ?_⟩
  have hl2 := hI2.sl (P := fun _ => True) fun _ _ => trivial
  replace hl1 := hl1.ext hx53
  replace hE := hE.trans hx53
  refine Wl.val rfl rfl rfl (Gives.assign rfl rfl) ?_
  refine Wl.val rfl rfl rfl (Gives.assign rfl rfl) ?_
  refine Wl.nil ?_
  refine Wx.thenN (hK6 _ _ ?_)
  refine Wc.seq (fun K7 hK7 => ?_)
  refine Wc.keep [(2, _), (7, _), (8, _)] (.cons rfl (.cons rfl (.cons rfl (.nil)))) ?_
  refine Wc.region ?_
  refine Wl.val rfl rfl rfl (Gives.move rfl rfl) ?_
  refine Wl.call rfl rfl rfl rfl Tryd.func39 rfl (by kernel_rfl) rfl (encChainP _ S1 m1 k1 l1 hl1) ?_
  rintro x3 w61 ⟨S3, m3, k3, rfl, hO3, hx61⟩
  refine ⟨_, rfl, ?_⟩
  replace hl1 := hl1.ext hx61
  replace hl2 := hl2.ext hx61
  replace hE := hE.trans hx61
  refine Wl.val rfl rfl rfl (Gives.move rfl rfl) ?_
  refine Wl.call rfl rfl rfl rfl Tryd.func39 rfl (by kernel_rfl) rfl (encChainP _ S2 m2 k2 l2 hl2) ?_
  rintro x4 w63 ⟨S4, m4, k4, rfl, hO4, hx63⟩
  refine ⟨_, rfl, ?_⟩
  replace hl1 := hl1.ext hx63
  replace hl2 := hl2.ext hx63
  have hB3 := (hO3.bv (P := fun _ => True) fun _ _ => trivial).ext hx63
  have hB4 := hO4.bv (P := fun _ => True) fun _ _ => trivial
  replace hE := hE.trans hx63
  refine Wl.call rfl rfl rfl rfl Tryd.func27 rfl (by kernel_rfl) rfl (same_calls _ _ _ _ _ _ _ _ _ hB3 hB4) ?_
  rintro x5 w64 ⟨rfl, hq64⟩
  refine ⟨_, rfl, ?_⟩
  replace hl1 := hl1.ext hq64.ext
  replace hl2 := hl2.ext hq64.ext
  replace hE := hE.trans hq64.ext
  refine Wl.val rfl rfl rfl (Gives.move rfl rfl) ?_
  refine Wl.val rfl rfl rfl (Gives.move rfl rfl) ?_
  refine Wl.call rfl rfl rfl rfl Tryd.func40 rfl (by kernel_rfl) rfl (sameChain _ S1 S2 m1 k1 m2 k2 l1 l2 hl1 hl2) ?_
  rintro x6 w67 ⟨rfl, hx67⟩
  refine ⟨_, rfl, ?_⟩
  replace hE := hE.trans hx67
  refine Wl.val rfl rfl rfl (Gives.boolEql rfl rfl rfl Tryd.underlying4) ?_
  refine Wl.val rfl rfl rfl (Gives.move rfl rfl) ?_
  refine Wl.guardT rfl rfl rfl (by rw [beq_iff_eq, decide_eq_decide]; exact ⟨chB_inj hce1 hce2, fun h => by rw [h]⟩) ?_
  refine Wl.val rfl rfl rfl (Gives.move rfl rfl) ?_
  refine Wl.call rfl rfl rfl rfl Tryd.func39 rfl (by kernel_rfl) rfl (encChainP _ A q c lq (hq.ext hE)) ?_
  rintro x7 w611 ⟨S5, m5, k5, rfl, hO5, hx611⟩
  refine ⟨_, rfl, ?_⟩
  have hm5 := hO5.len
  have hif := chB_iff lq
  replace hE := hE.trans hx611
  refine Wl.val rfl rfl rfl (Gives.lenS rfl Tryd.underlying22 rfl) ?_
  refine Wl.val rfl rfl rfl (Gives.gtr rfl rfl rfl) ?_
  refine Wl.val rfl rfl rfl (Gives.move rfl rfl) ?_
  refine Wl.call rfl rfl rfl rfl Tryd.func37 rfl (by kernel_rfl) rfl (chainP _ A q c lq (hq.ext hE)) ?_
  rintro x8 w615 ⟨rfl, hx615⟩
  refine ⟨_, rfl, ?_⟩
  replace hE := hE.trans hx615
  refine Wl.val rfl rfl rfl (Gives.eql rfl rfl rfl) ?_
  refine Wl.val rfl rfl rfl (Gives.boolEql rfl rfl rfl Tryd.underlying4) ?_
  refine Wl.val rfl rfl rfl (Gives.pickT rfl rfl rfl rfl) ?_
  refine Wl.val rfl rfl rfl (Gives.assign rfl rfl) ?_
  refine Wl.nil ?_
  refine Wx.thenN (hK7 _ _ ?_)
  refine Wc.ret ?_
  refine Wx.ret [_] ⟨rfl, trivial⟩ ?_
  refine ⟨ret_bool ?_, hE⟩
  rw [hm5] at hif
  rw [beq_iff_eq, decide_eq_decide, ← hif]
  omega
end Go.Proofs.YteppchoeiflnhaaDoor
