/- Indices: SetBits, the walks. -/
import Derived.Test.YtdekjkcnfebfnaaIdxB
namespace Go.Proofs.Ytdekjkcnfebfnaa
set_option linter.all false
open Go.RowKit
theorem setR_calls {P PX : Nat → Prop} (w : World) (x : Ix) (pA : Option Addr) (pn pc : Nat) (aA : Option Addr) (an ac : Nat) (dA : Option Addr) (dn dc : Nat) (hx : IxV w P x pA pn pc aA an ac dA dn dc) (hk3 : x.kind = 3 → dn = 8)
    (D : Option Addr) (m mc : Nat) (l : List UInt8) (hl : BV w PX D m mc l) :
    Calls Try.prog 22 #[.agg #[.int .i64 x.n, .int .i64 x.kind, .int .i64 x.attr, .int .i64 x.size, .slice pA pn pc, .slice aA an ac, .bool x.wr, .slice dA dn dc], .slice D m mc] w (IxR w (setI' x l) (setE' x m)) := by
  have hlm := hl.len
  have hdl := hx.2.2.len
  refine calls_enter Try.func22 rfl Try.ntmps22 rfl ?_
  have hE : Ext w w := Ext.refl w
  refine Wc.seq (fun K1 hK1 => ?_)
  refine Wc.keep [(0, _), (1, _)] (.cons rfl (.cons rfl (.nil))) ?_
  refine Wc.region ?_
  refine Wl.does rfl rfl rfl (Does.boxA rfl rfl) ?_
  rintro _ w0_0 ⟨b2, rfl, hs2, hb2, hx0_0⟩
  have hg2 : w.heap.size ≤ b2 := Nat.le_trans hE.size hs2
  replace hE := hE.trans hx0_0
  refine Wl.does rfl rfl rfl (Does.alB (.agg #[(.int .i64 0), (.int .i64 0), (.int .i64 0), (.int .i64 0), (.slice none 0 0), (.slice none 0 0), (.bool false), (.slice none 0 0)]) rfl (by kernel_rfl) rfl) ?_
  rintro _ w0_1 ⟨b4, rfl, hs4, hb4, hx0_1⟩
  have hn2_4 : b2 ≠ b4 := hb2.ne hs4
  have hg4 : w.heap.size ≤ b4 := Nat.le_trans hE.size hs4
  replace hb2 := hb2.ext hx0_1
  replace hE := hE.trans hx0_1
  refine Wl.val rfl rfl rfl (Gives.assign rfl rfl) ?_
  refine Wl.nil ?_
  refine Wx.thenN (hK1 _ _ ?_)
  refine Wc.seq (fun K2 hK2 => ?_)
  refine Wc.seq (fun K3 hK3 => ?_)
  refine Wc.keep [(1, _), (2, _), (4, _)] (.cons rfl (.cons rfl (.cons rfl (.nil)))) ?_
  refine Wc.region ?_
  refine Wl.val rfl rfl rfl (Gives.fieldAt 1 rfl Try.underlying28 rfl (by kernel_rfl) rfl rfl) ?_
  refine Wl.val rfl rfl rfl (Gives.ldK rfl (by kernel_rfl) rfl hb2 rfl) ?_
  refine Wl.val rfl rfl rfl (Gives.neq rfl rfl rfl) ?_
  refine Wl.nil ?_
  refine Wx.thenN (hK3 _ _ ?_)
  refine Wc.cond _ rfl (fun h10 => ?_) (fun h10 => ?_)
  · (first | replace h10 := of_decide_eq_true h10 | replace h10 := nd_true h10 | skip)
    refine Wc.seq (fun K4 hK4 => ?_)
    refine Wc.keep [(4, _)] (.cons rfl (.nil)) ?_
    refine Wc.region ?_
    refine Wl.val rfl rfl rfl (Gives.buildS (pl := [(0, 1), (1, 1), (2, 1), (3, 1), (4, 1), (5, 1), (6, 1), (7, 1)]) (zv := (.agg #[(.int .i64 0), (.int .i64 0), (.int .i64 0), (.int .i64 0), (.slice none 0 0), (.slice none 0 0), (.bool false), (.slice none 0 0)])) rfl Try.underlying28 (by kernel_rfl) (by kernel_rfl) rfl rfl) ?_
    refine Wl.acts rfl rfl (Does.stL 8 rfl rfl rfl hb4 (by kernel_rfl) rfl rfl rfl) ?_
    rintro _ w2_1 ⟨hbn, hF2_1⟩
    replace hb2 := hb2.fr hF2_1 (by first | assumption | exact Ne.symm (by assumption))
    replace hE := Ext.over hE hF2_1 hg4
    replace hb4 := hbn
    clear hbn
    refine Wl.val rfl rfl rfl (Gives.assign rfl rfl) ?_
    refine Wl.nil ?_
    refine Wx.thenN (hK4 _ _ ?_)
    refine Wc.ret ?_
    refine Wx.thenR ?_
    refine Wx.ret [_, _] ⟨⟨_, rfl, res_blk hb4 Try.underlying28 rfl (by kernel_rfl)⟩, ⟨rfl, trivial⟩⟩ ?_
    have he : setE' x m = 19 := by unfold setE'; rw [if_pos h10]
    exact IxR.zero 19 rfl (set_z hlm he (by decide)) he.symm hE
  · (first | replace h10 := of_decide_eq_false h10 | replace h10 := nd_false h10 | skip)
    refine Wc.skip ?_
    refine Wx.thenN (hK2 _ _ ?_)
    refine Wc.seq (fun K5 hK5 => ?_)
    refine Wc.seq (fun K6 hK6 => ?_)
    refine Wc.keep [(1, _), (2, _), (4, _)] (.cons rfl (.cons rfl (.cons rfl (.nil)))) ?_
    refine Wc.region ?_
    refine Wl.val rfl rfl rfl (Gives.move rfl rfl) ?_
    refine Wl.val rfl rfl rfl (Gives.lenS rfl Try.underlying22 rfl) ?_
    refine Wl.val rfl rfl rfl (Gives.neq rfl rfl rfl) ?_
    refine Wl.nil ?_
    refine Wx.thenN (hK6 _ _ ?_)
    refine Wc.cond _ rfl (fun h14 => ?_) (fun h14 => ?_)
    · (first | replace h14 := of_decide_eq_true h14 | replace h14 := nd_true h14 | skip)
      refine Wc.seq (fun K7 hK7 => ?_)
      refine Wc.keep [(4, _)] (.cons rfl (.nil)) ?_
      refine Wc.region ?_
      refine Wl.val rfl rfl rfl (Gives.buildS (pl := [(0, 1), (1, 1), (2, 1), (3, 1), (4, 1), (5, 1), (6, 1), (7, 1)]) (zv := (.agg #[(.int .i64 0), (.int .i64 0), (.int .i64 0), (.int .i64 0), (.slice none 0 0), (.slice none 0 0), (.bool false), (.slice none 0 0)])) rfl Try.underlying28 (by kernel_rfl) (by kernel_rfl) rfl rfl) ?_
      refine Wl.acts rfl rfl (Does.stL 8 rfl rfl rfl hb4 (by kernel_rfl) rfl rfl rfl) ?_
      rintro _ w4_1 ⟨hbn, hF4_1⟩
      replace hb2 := hb2.fr hF4_1 (by first | assumption | exact Ne.symm (by assumption))
      replace hE := Ext.over hE hF4_1 hg4
      replace hb4 := hbn
      clear hbn
      refine Wl.val rfl rfl rfl (Gives.assign rfl rfl) ?_
      refine Wl.nil ?_
      refine Wx.thenN (hK7 _ _ ?_)
      refine Wc.ret ?_
      refine Wx.thenR ?_
      refine Wx.ret [_, _] ⟨⟨_, rfl, res_blk hb4 Try.underlying28 rfl (by kernel_rfl)⟩, ⟨rfl, trivial⟩⟩ ?_
      have he : setE' x m = 24 := by unfold setE'; rw [if_neg (not_not_intro h10), if_pos (by omega)]
      exact IxR.zero 24 rfl (set_z hlm he (by decide)) he.symm hE
    · (first | replace h14 := of_decide_eq_false h14 | replace h14 := nd_false h14 | skip)
      refine Wc.skip ?_
      refine Wx.thenN (hK5 _ _ ?_)
      refine Wc.seq (fun K8 hK8 => ?_)
      refine Wc.keep [(1, _), (2, _), (4, _)] (.cons rfl (.cons rfl (.cons rfl (.nil)))) ?_
      have hd8 : dn = 8 := hk3 h10
      have hm8 : m = 8 := by omega
      refine Wc.region ?_
      refine Wl.val rfl rfl rfl (Gives.fieldAt 7 rfl Try.underlying28 rfl (by kernel_rfl) rfl rfl) ?_
      refine Wl.val rfl rfl rfl (Gives.ldK rfl (by kernel_rfl) rfl hb2 rfl) ?_
      refine Wl.call rfl rfl rfl rfl Try.func33 rfl (by kernel_rfl) rfl (copy_calls _ dA dn dc x.data (hx.2.2.ext hE) (by omega)) ?_
      rintro x5 w51 ⟨S1, k1, rfl, hO1, hx51⟩
      refine ⟨_, rfl, ?_⟩
      obtain ⟨g, rfl, hgb⟩ := hO1.head (by omega)
      have hn2g : b2 ≠ g := by have := hb2.lt; omega
      have hn4g : b4 ≠ g := by have := hb4.lt; omega
      have hgg : w.heap.size ≤ g := Nat.le_trans hE.size hgb
      replace hO1 := hO1.mono hE.size
      replace hb2 := hb2.ext hx51
      replace hb4 := hb4.ext hx51
      replace hE := hE.trans hx51
      refine Wl.val rfl rfl rfl (Gives.assign rfl rfl) ?_
      refine Wl.nil ?_
      refine Wx.thenN (hK8 _ _ ?_)
      refine Wc.seq (fun K9 hK9 => ?_)
      refine Wc.seq (fun K10 hK10 => ?_)
      refine Wc.keep [(1, _), (2, _), (4, _), (6, _)] (.cons rfl (.cons rfl (.cons rfl (.cons rfl (.nil))))) ?_
      refine Wc.region ?_
      refine Wl.val rfl rfl rfl (Gives.assign rfl rfl) ?_
      refine Wl.nil ?_
      refine Wx.thenN (hK10 _ _ ?_)
      refine Wc.block ?_
      refine Wc.keep [(1, _), (2, _), (4, _), (6, _), (7, _)] (.cons rfl (.cons rfl (.cons rfl (.cons rfl (.cons rfl (.nil)))))) ?_
      refine Wc.loopC (ι := Nat) [(1, _), (2, _), (4, _), (6, _)] (fun i => [(7, .int .i64 (i : Int))]) (fun i wr => i ≤ 8 ∧ OB wr w.heap.size 5 (some ⟨g, 0, none⟩) dn k1 (orK x.data l i) ∧ Blk wr b2 28 #[.int .i64 x.n, .int .i64 x.kind, .int .i64 x.attr, .int .i64 x.size, .slice pA pn pc, .slice aA an ac, .bool x.wr, .slice dA dn dc] ∧ Blk wr b4 28 #[.int .i64 0, .int .i64 0, .int .i64 0, .int .i64 0, .slice none 0 0, .slice none 0 0, .bool false, .slice none 0 0] ∧ Ext w wr) (fun i => 8 - i) (0) (.cons (by first | exact rfl | exact look_int rfl (by omega) | exact look_slice rfl (by omega)) (.cons rfl (.cons rfl (.cons rfl (.cons rfl (.nil)))))) (⟨by omega, by rw [orK_zero]; exact hO1, hb2, hb4, hE⟩) ?_
      intro i wr hJ KL1 hKL1
      clear hb2 hb4 hE
      obtain ⟨hi, hO, hb2, hb4, hE⟩ := hJ
      refine Wc.seq (fun K11 hK11 => ?_)
      refine Wc.seq (fun K12 hK12 => ?_)
      refine Wc.keep [(1, _), (2, _), (4, _), (6, _), (7, _)] (.cons rfl (.cons rfl (.cons rfl (.cons rfl (.cons rfl (.nil)))))) ?_
      refine Wc.region ?_
      refine Wl.val rfl rfl rfl (Gives.move rfl rfl) ?_
      refine Wl.val rfl rfl rfl (Gives.move rfl rfl) ?_
      refine Wl.val rfl rfl rfl (Gives.lenS rfl Try.underlying22 rfl) ?_
      refine Wl.val rfl rfl rfl (Gives.lss rfl rfl rfl) ?_
      refine Wl.nil ?_
      refine Wx.thenN (hK12 _ _ ?_)
      refine Wc.cond _ rfl (fun h22 => ?_) (fun h22 => ?_)
      · (first | replace h22 := of_decide_eq_true h22 | replace h22 := nd_true h22 | skip)
        refine Wc.skip ?_
        refine Wx.thenN (hK11 _ _ ?_)
        refine Wc.seq (fun K13 hK13 => ?_)
        refine Wc.block ?_
        refine Wc.keep [(1, _), (2, _), (4, _), (6, _), (7, _)] (.cons rfl (.cons rfl (.cons rfl (.cons rfl (.cons rfl (.nil)))))) ?_
        refine Wc.regionD (fun _ => true) Eq (.read 0 (.read 1 (.read 2 (.read 3 (.read 4 (.read 5 (.read 6 (.read 7 .tail)))))))) 8 (by kernel_rfl) (by kernel_rfl) (by kernel_rfl) (fun _ => rfl) (fun _ _ _ h k => h.trans k) Quiet ⟨1, rfl⟩ ?_
        intro w9 hR9
        replace hb2 := hb2.ext hR9.ext
        replace hb4 := hb4.ext hR9.ext
        replace hE := hE.trans hR9.ext
        replace hO := hO.ext hR9.ext
        obtain ⟨bb, bo, y, rfl, hy, _, hyc⟩ := (hl.ext hE).get (show i < m by omega)
        have hcx : w9.cell? ⟨g, 0 + i, none⟩ = some (.int .u8 ((gb1 x.data i).toNat : Int)) := (OB.bv (P := fun _ => True) hO (fun _ _ => trivial)).cell0 ((orK_at x.data l i (by omega) (by omega)).trans (gb1_some _ _ (by omega)))
        refine RunE.readE rfl rfl rfl rfl (Gives.move rfl rfl) ?_
        refine RunE.readE rfl rfl rfl rfl (Gives.move rfl rfl) ?_
        refine RunE.readE rfl rfl rfl rfl (Gives.ixS (i := _) rfl Try.underlying22 (by kernel_rfl) rfl rfl rfl (by omega)) ?_
        refine RunE.readE rfl rfl rfl rfl (Gives.ldC rfl (by kernel_rfl) rfl hcx) ?_
        refine RunE.readE rfl rfl rfl rfl (Gives.move rfl rfl) ?_
        refine RunE.readE rfl rfl rfl rfl (Gives.move rfl rfl) ?_
        refine RunE.readE rfl rfl rfl rfl (Gives.ixS (i := _) rfl Try.underlying22 (by kernel_rfl) rfl rfl rfl (by omega)) ?_
        refine RunE.readE rfl rfl rfl rfl (Gives.ldC rfl (by kernel_rfl) rfl hyc) ?_
        refine RunE.tail rfl ?_
        refine Wl.val rfl rfl rfl (Gives.bits .or (by simp) rfl rfl rfl (bits_u8 _ _)) ?_
        refine Wl.val rfl rfl rfl (Gives.ixS (i := _) rfl Try.underlying22 (by kernel_rfl) rfl rfl rfl (by omega)) ?_
        refine Wl.acts rfl rfl (Does.stO (gb1 x.data i ||| y) rfl rfl rfl rfl hO (by kernel_rfl) (by omega)) ?_
        rintro _ w10 ⟨hO10, hF10⟩
        rw [← orK_step _ _ _ _ _ (gb1_some x.data i (by omega)) hy] at hO10
        replace hb2 := hb2.fr hF10 hn2g
        replace hb4 := hb4.fr hF10 hn4g
        replace hE := Ext.over hE hF10 hgg
        refine Wl.nil ?_
        refine Wx.blockN ?_
        refine Wx.thenN (hK13 _ _ ?_)
        refine Wc.keep [(1, _), (2, _), (4, _), (6, _), (7, _)] (.cons rfl (.cons rfl (.cons rfl (.cons rfl (.cons rfl (.nil)))))) ?_
        refine Wc.region ?_
        refine Wl.val rfl rfl rfl (Gives.move rfl rfl) ?_
        refine Wl.val rfl rfl rfl (Gives.add rfl rfl rfl (by first | exact IntWalk.i64_in _ (by omega) | exact u64_in _ (by omega) | exact u32_in _ (by omega) | exact u8_in _ (by omega) | exact rfl)) ?_
        refine Wl.val rfl rfl rfl (Gives.assign rfl rfl) ?_
        refine Wl.nil ?_
        refine Wx.thenN ?_
        refine hKL1 (i + 1) _ _ (.cons (by first | exact rfl | exact look_int rfl (by omega) | exact look_slice rfl (by omega)) (.cons rfl (.cons rfl (.cons rfl (.cons rfl (.nil)))))) ⟨by omega, hO10, hb2, hb4, hE⟩ (by omega)
      · (first | replace h22 := of_decide_eq_false h22 | replace h22 := nd_false h22 | skip)
        refine Wc.exit ?_
        refine Wx.thenE ?_
        refine Wx.thenE ?_
        refine Wx.hit ?_
        refine Wx.thenN (hK9 _ _ ?_)
        refine Wc.seq (fun K14 hK14 => ?_)
        refine Wc.keep [(2, _), (4, _), (6, _)] (.cons rfl (.cons rfl (.cons rfl (.nil)))) ?_
        obtain rfl : i = 8 := by omega
        have hD : BV wr (NB [b2, b4]) (some ⟨g, 0, none⟩) dn k1 (orK x.data l 8) := (hO.bv (P := fun _ => True) (fun _ _ => trivial)).only.mono (fun q hq => by subst hq; exact ⟨Ne.symm hn2g, Ne.symm hn4g, trivial⟩)
        refine Wc.region ?_
        refine Wl.val rfl rfl rfl (Gives.move rfl rfl) ?_
        refine Wl.val rfl rfl rfl (Gives.fieldAt 7 rfl Try.underlying28 rfl (by kernel_rfl) rfl rfl) ?_
        refine Wl.acts rfl rfl (Does.stC rfl rfl rfl hb2 (by kernel_rfl) (Nat.le_of_ble_eq_true rfl) rfl) ?_
        rintro _ w10_2 ⟨hbn, hF10_2⟩
        replace hb4 := hb4.fr hF10_2 (by first | assumption | exact Ne.symm (by assumption))
        replace hD := hD.fr (hF10_2.mono (fun k h => h.1))
        replace hE := Ext.over hE hF10_2 hg2
        replace hb2 := hbn
        clear hbn
        (try simp only [List.setIfInBounds_toArray, List.set_cons_zero, List.set_cons_succ, Nat.reduceAdd, Nat.zero_add] at hb2)
        refine Wl.val rfl rfl rfl (Gives.fieldAt 6 rfl Try.underlying28 rfl (by kernel_rfl) rfl rfl) ?_
        refine Wl.acts rfl rfl (Does.stC rfl rfl rfl hb2 (by kernel_rfl) (Nat.le_of_ble_eq_true rfl) rfl) ?_
        rintro _ w10_4 ⟨hbn, hF10_4⟩
        replace hb4 := hb4.fr hF10_4 (by first | assumption | exact Ne.symm (by assumption))
        replace hD := hD.fr (hF10_4.mono (fun k h => h.1))
        replace hE := Ext.over hE hF10_4 hg2
        replace hb2 := hbn
        clear hbn
        (try simp only [List.setIfInBounds_toArray, List.set_cons_zero, List.set_cons_succ, Nat.reduceAdd, Nat.zero_add] at hb2)
        refine Wl.nil ?_
        refine Wx.thenN (hK14 _ _ ?_)
        refine Wc.seq (fun K15 hK15 => ?_)
        refine Wc.keep [(2, _), (4, _)] (.cons rfl (.cons rfl (.nil))) ?_
        refine Wc.region ?_
        refine Wl.val rfl rfl rfl (Gives.ldW rfl (by kernel_rfl) rfl hb2 (by kernel_rfl)) ?_
        refine Wl.acts rfl rfl (Does.stL 8 rfl rfl rfl hb4 (by kernel_rfl) rfl rfl rfl) ?_
        rintro _ w11_1 ⟨hbn, hF11_1⟩
        replace hb2 := hb2.fr hF11_1 (by first | assumption | exact Ne.symm (by assumption))
        replace hD := hD.fr (hF11_1.mono (fun k h => h.2.1))
        replace hE := Ext.over hE hF11_1 hg4
        replace hb4 := hbn
        clear hbn
        refine Wl.val rfl rfl rfl (Gives.assign rfl rfl) ?_
        refine Wl.nil ?_
        refine Wx.thenN (hK15 _ _ ?_)
        refine Wc.ret ?_
        refine Wx.ret [_, _] ⟨⟨_, rfl, res_blk hb4 Try.underlying28 rfl (by kernel_rfl)⟩, ⟨rfl, trivial⟩⟩ ?_
        have he : setE' x m = 0 := by unfold setE'; rw [if_neg (not_not_intro h10), if_neg (by omega)]
        exact IxR.mk (x := { x with wr := true, data := orL x.data l }) rfl (set_0 hlm he) he.symm ⟨(hx.1.ext hE).mono (fun _ _ => trivial), (hx.2.1.ext hE).mono (fun _ _ => trivial), hD.mono (fun _ _ => trivial)⟩ hE
theorem spl8 (d : List UInt8) (h : d.length = 8) : spliceB (List.replicate 8 0) 0 (d.take 8) = d := by
  have e : d.take 8 = d := List.take_of_length_le (by omega)
  unfold spliceB
  rw [e]
  simp [h]
theorem setP_calls {P PX : Nat → Prop} (w : World) (x : Ix) (pA : Option Addr) (pn pc : Nat) (aA : Option Addr) (an ac : Nat) (dA : Option Addr) (dn dc : Nat) (hx : IxV w P x pA pn pc aA an ac dA dn dc) (hk3 : x.kind = 3 → dn = 8)
    (D : Option Addr) (m mc : Nat) (l : List UInt8) (hl : BV w PX D m mc l) :
    Calls Try.prog 21 #[.agg #[.int .i64 x.n, .int .i64 x.kind, .int .i64 x.attr, .int .i64 x.size, .slice pA pn pc, .slice aA an ac, .bool x.wr, .slice dA dn dc], .slice D m mc] w (IxR w (setI' x l) (setE' x m)) := by
  have hlm := hl.len
  have hdl := hx.2.2.len
  refine calls_enter Try.func21 rfl Try.ntmps21 rfl ?_
  have hE : Ext w w := Ext.refl w
  refine Wc.seq (fun K1 hK1 => ?_)
  refine Wc.keep [(0, _), (1, _)] (.cons rfl (.cons rfl (.nil))) ?_
  refine Wc.region ?_
  refine Wl.does rfl rfl rfl (Does.boxA rfl rfl) ?_
  rintro _ w0_0 ⟨b2, rfl, hs2, hb2, hx0_0⟩
  have hg2 : w.heap.size ≤ b2 := Nat.le_trans hE.size hs2
  replace hE := hE.trans hx0_0
  refine Wl.does rfl rfl rfl (Does.alB (.agg #[(.int .i64 0), (.int .i64 0), (.int .i64 0), (.int .i64 0), (.slice none 0 0), (.slice none 0 0), (.bool false), (.slice none 0 0)]) rfl (by kernel_rfl) rfl) ?_
  rintro _ w0_1 ⟨b4, rfl, hs4, hb4, hx0_1⟩
  have hn2_4 : b2 ≠ b4 := hb2.ne hs4
  have hg4 : w.heap.size ≤ b4 := Nat.le_trans hE.size hs4
  replace hb2 := hb2.ext hx0_1
  replace hE := hE.trans hx0_1
  refine Wl.val rfl rfl rfl (Gives.assign rfl rfl) ?_
  refine Wl.nil ?_
  refine Wx.thenN (hK1 _ _ ?_)
  refine Wc.seq (fun K2 hK2 => ?_)
  refine Wc.seq (fun K3 hK3 => ?_)
  refine Wc.keep [(1, _), (2, _), (4, _)] (.cons rfl (.cons rfl (.cons rfl (.nil)))) ?_
  refine Wc.region ?_
  refine Wl.val rfl rfl rfl (Gives.fieldAt 1 rfl Try.underlying28 rfl (by kernel_rfl) rfl rfl) ?_
  refine Wl.val rfl rfl rfl (Gives.ldK rfl (by kernel_rfl) rfl hb2 rfl) ?_
  refine Wl.val rfl rfl rfl (Gives.neq rfl rfl rfl) ?_
  refine Wl.nil ?_
  refine Wx.thenN (hK3 _ _ ?_)
  refine Wc.cond _ rfl (fun h10 => ?_) (fun h10 => ?_)
  · (first | replace h10 := of_decide_eq_true h10 | replace h10 := nd_true h10 | skip)
    refine Wc.seq (fun K4 hK4 => ?_)
    refine Wc.keep [(4, _)] (.cons rfl (.nil)) ?_
    refine Wc.region ?_
    refine Wl.val rfl rfl rfl (Gives.buildS (pl := [(0, 1), (1, 1), (2, 1), (3, 1), (4, 1), (5, 1), (6, 1), (7, 1)]) (zv := (.agg #[(.int .i64 0), (.int .i64 0), (.int .i64 0), (.int .i64 0), (.slice none 0 0), (.slice none 0 0), (.bool false), (.slice none 0 0)])) rfl Try.underlying28 (by kernel_rfl) (by kernel_rfl) rfl rfl) ?_
    refine Wl.acts rfl rfl (Does.stL 8 rfl rfl rfl hb4 (by kernel_rfl) rfl rfl rfl) ?_
    rintro _ w2_1 ⟨hbn, hF2_1⟩
    replace hb2 := hb2.fr hF2_1 (by first | assumption | exact Ne.symm (by assumption))
    replace hE := Ext.over hE hF2_1 hg4
    replace hb4 := hbn
    clear hbn
    refine Wl.val rfl rfl rfl (Gives.assign rfl rfl) ?_
    refine Wl.nil ?_
    refine Wx.thenN (hK4 _ _ ?_)
    refine Wc.ret ?_
    refine Wx.thenR ?_
    refine Wx.ret [_, _] ⟨⟨_, rfl, res_blk hb4 Try.underlying28 rfl (by kernel_rfl)⟩, ⟨rfl, trivial⟩⟩ ?_
    have he : setE' x m = 19 := by unfold setE'; rw [if_pos h10]
    exact IxR.zero 19 rfl (set_z hlm he (by decide)) he.symm hE
  · (first | replace h10 := of_decide_eq_false h10 | replace h10 := nd_false h10 | skip)
    refine Wc.skip ?_
    refine Wx.thenN (hK2 _ _ ?_)
    refine Wc.seq (fun K5 hK5 => ?_)
    refine Wc.seq (fun K6 hK6 => ?_)
    refine Wc.keep [(1, _), (2, _), (4, _)] (.cons rfl (.cons rfl (.cons rfl (.nil)))) ?_
    refine Wc.region ?_
    refine Wl.val rfl rfl rfl (Gives.move rfl rfl) ?_
    refine Wl.val rfl rfl rfl (Gives.lenS rfl Try.underlying22 rfl) ?_
    refine Wl.val rfl rfl rfl (Gives.neq rfl rfl rfl) ?_
    refine Wl.nil ?_
    refine Wx.thenN (hK6 _ _ ?_)
    refine Wc.cond _ rfl (fun h14 => ?_) (fun h14 => ?_)
    · (first | replace h14 := of_decide_eq_true h14 | replace h14 := nd_true h14 | skip)
      refine Wc.seq (fun K7 hK7 => ?_)
      refine Wc.keep [(4, _)] (.cons rfl (.nil)) ?_
      refine Wc.region ?_
      refine Wl.val rfl rfl rfl (Gives.buildS (pl := [(0, 1), (1, 1), (2, 1), (3, 1), (4, 1), (5, 1), (6, 1), (7, 1)]) (zv := (.agg #[(.int .i64 0), (.int .i64 0), (.int .i64 0), (.int .i64 0), (.slice none 0 0), (.slice none 0 0), (.bool false), (.slice none 0 0)])) rfl Try.underlying28 (by kernel_rfl) (by kernel_rfl) rfl rfl) ?_
      refine Wl.acts rfl rfl (Does.stL 8 rfl rfl rfl hb4 (by kernel_rfl) rfl rfl rfl) ?_
      rintro _ w4_1 ⟨hbn, hF4_1⟩
      replace hb2 := hb2.fr hF4_1 (by first | assumption | exact Ne.symm (by assumption))
      replace hE := Ext.over hE hF4_1 hg4
      replace hb4 := hbn
      clear hbn
      refine Wl.val rfl rfl rfl (Gives.assign rfl rfl) ?_
      refine Wl.nil ?_
      refine Wx.thenN (hK7 _ _ ?_)
      refine Wc.ret ?_
      refine Wx.thenR ?_
      refine Wx.ret [_, _] ⟨⟨_, rfl, res_blk hb4 Try.underlying28 rfl (by kernel_rfl)⟩, ⟨rfl, trivial⟩⟩ ?_
      have he : setE' x m = 24 := by unfold setE'; rw [if_neg (not_not_intro h10), if_pos (by omega)]
      exact IxR.zero 24 rfl (set_z hlm he (by decide)) he.symm hE
    · (first | replace h14 := of_decide_eq_false h14 | replace h14 := nd_false h14 | skip)
      refine Wc.skip ?_
      refine Wx.thenN (hK5 _ _ ?_)
      refine Wc.seq (fun K8 hK8 => ?_)
      refine Wc.keep [(1, _), (2, _), (4, _)] (.cons rfl (.cons rfl (.cons rfl (.nil)))) ?_
      have hd8 : dn = 8 := hk3 h10
      have hm8 : m = 8 := by omega
      refine Wc.region ?_
      refine Wl.does rfl rfl rfl (Does.mkM 8 rfl rfl Try.underlying22 infoB rfl rfl rfl (by omega)) ?_
      rintro _ w51 ⟨g, rfl, hgb, hM1, hx51⟩
      have hn2g : b2 ≠ g := hb2.ne hgb
      have hn4g : b4 ≠ g := hb4.ne hgb
      have hgg : w.heap.size ≤ g := Nat.le_trans hE.size hgb
      replace hb2 := hb2.ext hx51
      replace hb4 := hb4.ext hx51
      replace hE := hE.trans hx51
      refine Wl.val rfl rfl rfl (Gives.assign rfl rfl) ?_
      refine Wl.nil ?_
      refine Wx.thenN (hK8 _ _ ?_)
      refine Wc.seq (fun K9 hK9 => ?_)
      refine Wc.keep [(1, _), (2, _), (4, _), (6, _)] (.cons rfl (.cons rfl (.cons rfl (.cons rfl (.nil))))) ?_
      refine Wc.region ?_
      refine Wl.val rfl rfl rfl (Gives.move rfl rfl) ?_
      refine Wl.val rfl rfl rfl (Gives.fieldAt 7 rfl Try.underlying28 rfl (by kernel_rfl) rfl rfl) ?_
      refine Wl.val rfl rfl rfl (Gives.ldK rfl (by kernel_rfl) rfl hb2 rfl) ?_
      refine Wl.does rfl rfl rfl (Does.cpM (g := g) (off := 0) rfl rfl Try.underlying22 infoB rfl rfl (hx.2.2.ext hE) (fun _ => rfl) hM1 (by simp)) ?_
      rintro _ w52 ⟨rfl, hM2, hF52⟩
      rw [spl8 x.data (by omega)] at hM2
      replace hb2 := hb2.fr hF52 hn2g
      replace hb4 := hb4.fr hF52 hn4g
      replace hE := Ext.over hE hF52 hgg
      refine Wl.nil ?_
      refine Wx.thenN (hK9 _ _ ?_)
      refine Wc.seq (fun K10 hK10 => ?_)
      refine Wc.seq (fun K11 hK11 => ?_)
      refine Wc.keep [(1, _), (2, _), (4, _), (6, _)] (.cons rfl (.cons rfl (.cons rfl (.cons rfl (.nil))))) ?_
      refine Wc.region ?_
      refine Wl.val rfl rfl rfl (Gives.move rfl rfl) ?_
      refine Wl.val rfl rfl rfl (Gives.lenS rfl Try.underlying22 rfl) ?_
      refine Wl.val rfl rfl rfl (Gives.move rfl rfl) ?_
      refine Wl.nil ?_
      refine Wx.thenN (hK11 _ _ ?_)
      refine Wc.block ?_
      refine Wc.keep [(1, _), (2, _), (4, _), (6, _), (22, _), (23, _)] (.cons rfl (.cons rfl (.cons rfl (.cons rfl (.cons rfl (.cons rfl (.nil))))))) ?_
      refine Wc.loopC (ι := Nat) [(1, _), (2, _), (4, _), (6, _), (22, _)] (fun i => [(23, .int .i64 (i : Int))]) (fun i wr => i ≤ 8 ∧ MB wr g 5 (orK x.data l i) ∧ Blk wr b2 28 #[.int .i64 x.n, .int .i64 x.kind, .int .i64 x.attr, .int .i64 x.size, .slice pA pn pc, .slice aA an ac, .bool x.wr, .slice dA dn dc] ∧ Blk wr b4 28 #[.int .i64 0, .int .i64 0, .int .i64 0, .int .i64 0, .slice none 0 0, .slice none 0 0, .bool false, .slice none 0 0] ∧ Ext w wr) (fun i => 8 - i) (0) (.cons (by first | exact rfl | exact look_int rfl (by omega) | exact look_slice rfl (by omega)) (.cons rfl (.cons rfl (.cons rfl (.cons rfl (.cons rfl (.nil))))))) (⟨by omega, by rw [orK_zero]; exact hM2, hb2, hb4, hE⟩) ?_
      intro i wr hJ KL1 hKL1
      clear hb2 hb4 hE
      obtain ⟨hi, hO, hb2, hb4, hE⟩ := hJ
      refine Wc.seq (fun K12 hK12 => ?_)
      refine Wc.keep [(1, _), (2, _), (4, _), (6, _), (22, _), (23, _)] (.cons rfl (.cons rfl (.cons rfl (.cons rfl (.cons rfl (.cons rfl (.nil))))))) ?_
      refine Wc.region ?_
      refine Wl.val rfl rfl rfl (Gives.lss rfl rfl rfl) ?_
      refine Wl.nil ?_
      refine Wx.thenN (hK12 _ _ ?_)
      refine Wc.seq (fun K13 hK13 => ?_)
      refine Wc.cond _ rfl (fun h24 => ?_) (fun h24 => ?_)
      · (first | replace h24 := of_decide_eq_true h24 | replace h24 := nd_true h24 | skip)
        refine Wc.skip ?_
        refine Wx.thenN (hK13 _ _ ?_)
        refine Wc.seq (fun K14 hK14 => ?_)
        refine Wc.block ?_
        refine Wc.seq (fun K15 hK15 => ?_)
        refine Wc.keep [(1, _), (2, _), (4, _), (6, _), (22, _), (23, _)] (.cons rfl (.cons rfl (.cons rfl (.cons rfl (.cons rfl (.cons rfl (.nil))))))) ?_
        refine Wc.region ?_
        refine Wl.val rfl rfl rfl (Gives.move rfl rfl) ?_
        refine Wl.val rfl rfl rfl (Gives.assign rfl rfl) ?_
        refine Wl.nil ?_
        refine Wx.thenN (hK15 _ _ ?_)
        refine Wc.keep [(1, _), (2, _), (4, _), (6, _), (7, _), (22, _), (23, _)] (.cons rfl (.cons rfl (.cons rfl (.cons rfl (.cons rfl (.cons rfl (.cons rfl (.nil)))))))) ?_
        refine Wc.regionD (fun _ => true) Eq (.read 0 (.read 1 (.read 2 (.read 3 (.read 4 (.read 5 (.read 6 (.read 7 .tail)))))))) 8 (by kernel_rfl) (by kernel_rfl) (by kernel_rfl) (fun _ => rfl) (fun _ _ _ h k => h.trans k) Quiet ⟨1, rfl⟩ ?_
        intro w10 hR10
        replace hb2 := hb2.ext hR10.ext
        replace hb4 := hb4.ext hR10.ext
        replace hE := hE.trans hR10.ext
        replace hO := hO.ext hR10.ext
        have hlk : (orK x.data l i).length = 8 := by unfold orK; simp; omega
        obtain ⟨bb, bo, y, rfl, hy, _, hyc⟩ := (hl.ext hE).get (show i < m by omega)
        have hcx : w10.cell? ⟨g, 0 + i, none⟩ = some (.int .u8 ((gb1 x.data i).toNat : Int)) := by rw [Nat.zero_add]; exact hO.cell ((orK_at x.data l i (by omega) (by omega)).trans (gb1_some _ _ (by omega)))
        refine RunE.readE rfl rfl rfl rfl (Gives.move rfl rfl) ?_
        refine RunE.readE rfl rfl rfl rfl (Gives.move rfl rfl) ?_
        refine RunE.readE rfl rfl rfl rfl (Gives.ixS (i := _) rfl Try.underlying22 (by kernel_rfl) rfl rfl rfl (by omega)) ?_
        refine RunE.readE rfl rfl rfl rfl (Gives.ldC rfl (by kernel_rfl) rfl hcx) ?_
        refine RunE.readE rfl rfl rfl rfl (Gives.move rfl rfl) ?_
        refine RunE.readE rfl rfl rfl rfl (Gives.move rfl rfl) ?_
        refine RunE.readE rfl rfl rfl rfl (Gives.ixS (i := _) rfl Try.underlying22 (by kernel_rfl) rfl rfl rfl (by omega)) ?_
        refine RunE.readE rfl rfl rfl rfl (Gives.ldC rfl (by kernel_rfl) rfl hyc) ?_
        refine RunE.tail rfl ?_
        refine Wl.val rfl rfl rfl (Gives.bits .or (by simp) rfl rfl rfl (bits_u8 _ _)) ?_
        refine Wl.val rfl rfl rfl (Gives.ixS (i := _) rfl Try.underlying22 (by kernel_rfl) rfl rfl rfl (by omega)) ?_
        refine Wl.acts rfl rfl (Does.stM (gb1 x.data i ||| y) rfl rfl rfl rfl hO (by kernel_rfl) (by omega)) ?_
        rintro _ w11 ⟨hO10, hF10⟩
        rw [← orK_step _ _ _ _ _ (gb1_some x.data i (by omega)) hy] at hO10
        replace hb2 := hb2.fr hF10 hn2g
        replace hb4 := hb4.fr hF10 hn4g
        replace hE := Ext.over hE hF10 hgg
        refine Wl.nil ?_
        refine Wx.blockN ?_
        refine Wx.thenN (hK14 _ _ ?_)
        refine Wc.keep [(1, _), (2, _), (4, _), (6, _), (22, _), (23, _)] (.cons rfl (.cons rfl (.cons rfl (.cons rfl (.cons rfl (.cons rfl (.nil))))))) ?_
        refine Wc.region ?_
        refine Wl.val rfl rfl rfl (Gives.add rfl rfl rfl (by first | exact IntWalk.i64_in _ (by omega) | exact u64_in _ (by omega) | exact u32_in _ (by omega) | exact u8_in _ (by omega) | exact rfl)) ?_
        refine Wl.val rfl rfl rfl (Gives.move rfl rfl) ?_
        refine Wl.nil ?_
        refine Wx.thenN ?_
        refine hKL1 (i + 1) _ _ (.cons (by first | exact rfl | exact look_int rfl (by omega) | exact look_slice rfl (by omega)) (.cons rfl (.cons rfl (.cons rfl (.cons rfl (.cons rfl (.nil))))))) ⟨by omega, hO10, hb2, hb4, hE⟩ (by omega)
      · (first | replace h24 := of_decide_eq_false h24 | replace h24 := nd_false h24 | skip)
        refine Wc.exit ?_
        refine Wx.thenE ?_
        refine Wx.thenE ?_
        refine Wx.hit ?_
        refine Wx.thenN (hK10 _ _ ?_)
        refine Wc.seq (fun K16 hK16 => ?_)
        refine Wc.keep [(2, _), (4, _), (6, _)] (.cons rfl (.cons rfl (.cons rfl (.nil)))) ?_
        obtain rfl : i = 8 := by omega
        have hD : BV wr (NB [b2, b4]) (some ⟨g, 0, none⟩) 8 8 (orK x.data l 8) := (hO.bv (P := fun _ => True) trivial (by unfold orK; simp; omega) (Nat.le_refl _) (by omega)).only.mono (fun q hq => by subst hq; exact ⟨Ne.symm hn2g, Ne.symm hn4g, trivial⟩)
        refine Wc.region ?_
        refine Wl.val rfl rfl rfl (Gives.ldW rfl (by kernel_rfl) rfl hb2 (by kernel_rfl)) ?_
        refine Wl.val rfl rfl rfl (Gives.move rfl rfl) ?_
        refine Wl.call rfl rfl rfl rfl Try.func31 rfl (by kernel_rfl) rfl (writtenP_calls wr x pA pn pc aA an ac dA dn dc _ 8 8) ?_
        rintro x7 w54 ⟨rfl, hx54⟩
        refine ⟨_, rfl, ?_⟩
        replace hb2 := hb2.ext hx54
        replace hb4 := hb4.ext hx54
        replace hD := hD.ext hx54
        replace hE := hE.trans hx54
        refine Wl.acts rfl rfl (Does.stL 8 rfl rfl rfl hb4 (by kernel_rfl) rfl rfl rfl) ?_
        rintro _ w12_3 ⟨hbn, hF12_3⟩
        replace hb2 := hb2.fr hF12_3 (by first | assumption | exact Ne.symm (by assumption))
        replace hD := hD.fr (hF12_3.mono (fun k h => h.2.1))
        replace hE := Ext.over hE hF12_3 hg4
        replace hb4 := hbn
        clear hbn
        refine Wl.val rfl rfl rfl (Gives.assign rfl rfl) ?_
        refine Wl.nil ?_
        refine Wx.thenN (hK16 _ _ ?_)
        refine Wc.ret ?_
        refine Wx.ret [_, _] ⟨⟨_, rfl, res_blk hb4 Try.underlying28 rfl (by kernel_rfl)⟩, ⟨rfl, trivial⟩⟩ ?_
        have he : setE' x m = 0 := by unfold setE'; rw [if_neg (not_not_intro h10), if_neg (by omega)]
        exact IxR.mk (x := { x with wr := true, data := orL x.data l }) rfl (set_0 hlm he) he.symm ⟨(hx.1.ext hE).mono (fun _ _ => trivial), (hx.2.1.ext hE).mono (fun _ _ => trivial), hD.mono (fun _ _ => trivial)⟩ hE
end Go.Proofs.Ytdekjkcnfebfnaa
