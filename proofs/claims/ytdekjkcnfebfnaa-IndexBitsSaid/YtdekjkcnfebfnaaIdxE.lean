/- Indices: Extend, of the reference and of the program. -/
import Derived.Test.YtdekjkcnfebfnaaIdxW
import Derived.Test.YtdekjkcnfebfnaaHashV3
import Derived.Test.YtdekjkcnfebfnaaVc4
import Derived.Test.YtdekjkcnfebfnaaVcA
namespace Go.Proofs.Ytdekjkcnfebfnaa
set_option linter.all false
open Go.RowKit
def extendE' (x : Ix) (m : Nat) : Int := if x.kind ≠ 4 then 19 else if 128 < m then 4 else 0
def extendI' (x : Ix) (l : List UInt8) : Ix := if extendE' x l.length = 0 then { x with wr := true, data := sha256S (x.data ++ l) } else zeroIx
theorem extend_z {x : Ix} {l : List UInt8} {m : Nat} {er : Int} (hm : l.length = m) (h : extendE' x m = er) (h0 : er ≠ 0) : zeroIx = extendI' x l := by unfold extendI'; rw [hm, h, if_neg h0]
theorem extend_0 {x : Ix} {l : List UInt8} {m : Nat} (hm : l.length = m) (h : extendE' x m = 0) : { x with wr := true, data := sha256S (x.data ++ l) } = extendI' x l := by unfold extendI'; rw [hm, h, if_pos rfl]
theorem extendR_calls {P PX : Nat → Prop} (w : World) (x : Ix) (pA : Option Addr) (pn pc : Nat) (aA : Option Addr) (an ac : Nat) (dA : Option Addr) (dn dc : Nat) (hx : IxV w P x pA pn pc aA an ac dA dn dc) (hdn : dn ≤ 1000000)
    (D : Option Addr) (m mc : Nat) (l : List UInt8) (hl : BV w PX D m mc l) :
    Calls Try.prog 29 #[.agg #[.int .i64 x.n, .int .i64 x.kind, .int .i64 x.attr, .int .i64 x.size, .slice pA pn pc, .slice aA an ac, .bool x.wr, .slice dA dn dc], .slice D m mc] w (IxR w (extendI' x l) (extendE' x m)) := by
  have hlm := hl.len
  refine calls_enter Try.func29 rfl Try.ntmps29 rfl ?_
  have hE : Ext w w := Ext.refl w
  refine Wc.seq (fun K1 hK1 => ?_)
  refine Wc.keep [(0, _), (1, _)] (.cons rfl (.cons rfl (.nil))) ?_
  refine Wc.region ?_
  refine Wl.does rfl rfl rfl (Does.boxA rfl rfl) ?_
  rintro _ w0_0 ⟨b2, rfl, hs2, hb2, hx0_0⟩
  have hg2 : w.heap.size ≤ b2 := Nat.le_trans hE.size hs2
  replace hE := hE.trans hx0_0
  refine Wl.does rfl rfl rfl (Does.alB (.agg #[(.int .i64 0), (.int .i64 0), (.int .i64 0), (.int .i64 0), (.slice none 0 0), (.slice none 0 0), (.bool false), (.slice none 0 0)]) rfl (by kernel_rfl) rfl) ?_
  rintro _ w0_1 ⟨b4, rfl, hs4, hb4, hx0_1⟩
  have hn2_4 : b2 ≠ b4 := hb2.ne hs4
  have hg4 : w.heap.size ≤ b4 := Nat.le_trans hE.size hs4
  replace hb2 := hb2.ext hx0_1
  replace hE := hE.trans hx0_1
  refine Wl.val rfl rfl rfl (Gives.assign rfl rfl) ?_
  refine Wl.nil ?_
  refine Wx.thenN (hK1 _ _ ?_)
  refine Wc.seq (fun K2 hK2 => ?_)
  refine Wc.seq (fun K3 hK3 => ?_)
  refine Wc.keep [(1, _), (2, _), (4, _)] (.cons rfl (.cons rfl (.cons rfl (.nil)))) ?_
  refine Wc.region ?_
  refine Wl.val rfl rfl rfl (Gives.fieldAt 1 rfl Try.underlying28 rfl (by kernel_rfl) rfl rfl) ?_
  refine Wl.val rfl rfl rfl (Gives.ldK rfl (by kernel_rfl) rfl hb2 rfl) ?_
  refine Wl.val rfl rfl rfl (Gives.neq rfl rfl rfl) ?_
  refine Wl.nil ?_
  refine Wx.thenN (hK3 _ _ ?_)
  refine Wc.cond _ rfl (fun h8 => ?_) (fun h8 => ?_)
  · (first | replace h8 := of_decide_eq_true h8 | replace h8 := nd_true h8 | skip)
    refine Wc.seq (fun K4 hK4 => ?_)
    refine Wc.keep [(4, _)] (.cons rfl (.nil)) ?_
    refine Wc.region ?_
    refine Wl.val rfl rfl rfl (Gives.buildS (pl := [(0, 1), (1, 1), (2, 1), (3, 1), (4, 1), (5, 1), (6, 1), (7, 1)]) (zv := (.agg #[(.int .i64 0), (.int .i64 0), (.int .i64 0), (.int .i64 0), (.slice none 0 0), (.slice none 0 0), (.bool false), (.slice none 0 0)])) rfl Try.underlying28 (by kernel_rfl) (by kernel_rfl) rfl rfl) ?_
    refine Wl.acts rfl rfl (Does.stL 8 rfl rfl rfl hb4 (by kernel_rfl) rfl rfl rfl) ?_
    rintro _ w2_1 ⟨hbn, hF2_1⟩
    replace hb2 := hb2.fr hF2_1 (by first | assumption | exact Ne.symm (by assumption))
    replace hE := Ext.over hE hF2_1 hg4
    replace hb4 := hbn
    clear hbn
    refine Wl.val rfl rfl rfl (Gives.assign rfl rfl) ?_
    refine Wl.nil ?_
    refine Wx.thenN (hK4 _ _ ?_)
    refine Wc.ret ?_
    refine Wx.thenR ?_
    refine Wx.ret [_, _] ⟨⟨_, rfl, res_blk hb4 Try.underlying28 rfl (by kernel_rfl)⟩, ⟨rfl, trivial⟩⟩ ?_
    exact IxR.zero 19 rfl (extend_z hlm (er := 19) (by unfold extendE'; rw [if_pos h8]) (by decide)) (by unfold extendE'; rw [if_pos h8]) hE
  · (first | replace h8 := of_decide_eq_false h8 | replace h8 := nd_false h8 | skip)
    refine Wc.skip ?_
    refine Wx.thenN (hK2 _ _ ?_)
    refine Wc.seq (fun K5 hK5 => ?_)
    refine Wc.seq (fun K6 hK6 => ?_)
    refine Wc.keep [(1, _), (2, _), (4, _)] (.cons rfl (.cons rfl (.cons rfl (.nil)))) ?_
    refine Wc.region ?_
    refine Wl.val rfl rfl rfl (Gives.move rfl rfl) ?_
    refine Wl.val rfl rfl rfl (Gives.lenS rfl Try.underlying22 rfl) ?_
    refine Wl.val rfl rfl rfl (Gives.gtr rfl rfl rfl) ?_
    refine Wl.nil ?_
    refine Wx.thenN (hK6 _ _ ?_)
    refine Wc.cond _ rfl (fun h12 => ?_) (fun h12 => ?_)
    · (first | replace h12 := of_decide_eq_true h12 | replace h12 := nd_true h12 | skip)
      refine Wc.seq (fun K7 hK7 => ?_)
      refine Wc.keep [(4, _)] (.cons rfl (.nil)) ?_
      refine Wc.region ?_
      refine Wl.val rfl rfl rfl (Gives.buildS (pl := [(0, 1), (1, 1), (2, 1), (3, 1), (4, 1), (5, 1), (6, 1), (7, 1)]) (zv := (.agg #[(.int .i64 0), (.int .i64 0), (.int .i64 0), (.int .i64 0), (.slice none 0 0), (.slice none 0 0), (.bool false), (.slice none 0 0)])) rfl Try.underlying28 (by kernel_rfl) (by kernel_rfl) rfl rfl) ?_
      refine Wl.acts rfl rfl (Does.stL 8 rfl rfl rfl hb4 (by kernel_rfl) rfl rfl rfl) ?_
      rintro _ w4_1 ⟨hbn, hF4_1⟩
      replace hb2 := hb2.fr hF4_1 (by first | assumption | exact Ne.symm (by assumption))
      replace hE := Ext.over hE hF4_1 hg4
      replace hb4 := hbn
      clear hbn
      refine Wl.val rfl rfl rfl (Gives.assign rfl rfl) ?_
      refine Wl.nil ?_
      refine Wx.thenN (hK7 _ _ ?_)
      refine Wc.ret ?_
      refine Wx.thenR ?_
      refine Wx.ret [_, _] ⟨⟨_, rfl, res_blk hb4 Try.underlying28 rfl (by kernel_rfl)⟩, ⟨rfl, trivial⟩⟩ ?_
      have he : extendE' x m = 4 := by unfold extendE'; rw [if_neg (by omega), if_pos (by omega)]
      exact IxR.zero 4 rfl (extend_z hlm he (by decide)) he.symm hE
    · (first | replace h12 := of_decide_eq_false h12 | replace h12 := nd_false h12 | skip)
      refine Wc.skip ?_
      refine Wx.thenN (hK5 _ _ ?_)
      refine Wc.seq (fun K8 hK8 => ?_)
      refine Wc.keep [(1, _), (2, _), (4, _)] (.cons rfl (.cons rfl (.cons rfl (.nil)))) ?_
      refine Wc.region ?_
      refine Wl.val rfl rfl rfl (Gives.fieldAt 7 rfl Try.underlying28 rfl (by kernel_rfl) rfl rfl) ?_
      refine Wl.val rfl rfl rfl (Gives.ldK rfl (by kernel_rfl) rfl hb2 rfl) ?_
      refine Wl.call rfl rfl rfl rfl Try.func33 rfl (by kernel_rfl) rfl (copy_calls _ dA dn dc x.data (hx.2.2.ext hE) (by omega)) ?_
      rintro x5 w51 ⟨S1, k1, rfl, hO1, hx51⟩
      refine ⟨_, rfl, ?_⟩
      refine Wl.val rfl rfl rfl (Gives.move rfl rfl) ?_
      refine Wl.does rfl rfl rfl (Does.appO rfl Try.underlying22 infoB rfl rfl hO1 ((hl.ext hE).ext hx51) (by omega) hx51.size) ?_
      rintro _ w52 ⟨S2, k2, rfl, hO2, hB2⟩
      have hx52 := Ext.step hx51 hB2 (Nat.le_refl _)
      replace hb2 := hb2.ext hx52
      replace hb4 := hb4.ext hx52
      replace hE := hE.trans hx52
      refine Wl.call rfl rfl rfl rfl Try.func40 rfl (by kernel_rfl) rfl (sum256R_calls w52 S2 (dn + m) k2 (x.data ++ l) (hO2.bv (P := fun _ => True) (fun _ _ => trivial)) (by omega)) ?_
      rintro x6 w53 ⟨S3, k3, rfl, hO3, hx53⟩
      refine ⟨_, rfl, ?_⟩
      have hD := hO3.nb (ls := [b2, b4]) ⟨hb2.lt, hb4.lt, trivial⟩
      replace hb2 := hb2.ext hx53
      replace hb4 := hb4.ext hx53
      replace hE := hE.trans hx53
      refine Wl.val rfl rfl rfl (Gives.fieldAt 7 rfl Try.underlying28 rfl (by kernel_rfl) rfl rfl) ?_
      refine Wl.acts rfl rfl (Does.stC rfl rfl rfl hb2 (by kernel_rfl) (Nat.le_of_ble_eq_true rfl) rfl) ?_
      rintro _ w5_7 ⟨hbn, hF5_7⟩
      replace hb4 := hb4.fr hF5_7 (by first | assumption | exact Ne.symm (by assumption))
      replace hD := hD.fr (hF5_7.mono (fun k h => h.1))
      replace hE := Ext.over hE hF5_7 hg2
      replace hb2 := hbn
      clear hbn
      (try simp only [List.setIfInBounds_toArray, List.set_cons_zero, List.set_cons_succ, Nat.reduceAdd, Nat.zero_add] at hb2)
      refine Wl.val rfl rfl rfl (Gives.fieldAt 6 rfl Try.underlying28 rfl (by kernel_rfl) rfl rfl) ?_
      refine Wl.acts rfl rfl (Does.stC rfl rfl rfl hb2 (by kernel_rfl) (Nat.le_of_ble_eq_true rfl) rfl) ?_
      rintro _ w5_9 ⟨hbn, hF5_9⟩
      replace hb4 := hb4.fr hF5_9 (by first | assumption | exact Ne.symm (by assumption))
      replace hD := hD.fr (hF5_9.mono (fun k h => h.1))
      replace hE := Ext.over hE hF5_9 hg2
      replace hb2 := hbn
      clear hbn
      (try simp only [List.setIfInBounds_toArray, List.set_cons_zero, List.set_cons_succ, Nat.reduceAdd, Nat.zero_add] at hb2)
      refine Wl.nil ?_
      refine Wx.thenN (hK8 _ _ ?_)
      refine Wc.seq (fun K9 hK9 => ?_)
      refine Wc.keep [(2, _), (4, _)] (.cons rfl (.cons rfl (.nil))) ?_
      refine Wc.region ?_
      refine Wl.val rfl rfl rfl (Gives.ldW rfl (by kernel_rfl) rfl hb2 (by kernel_rfl)) ?_
      refine Wl.acts rfl rfl (Does.stL 8 rfl rfl rfl hb4 (by kernel_rfl) rfl rfl rfl) ?_
      rintro _ w6_1 ⟨hbn, hF6_1⟩
      replace hb2 := hb2.fr hF6_1 (by first | assumption | exact Ne.symm (by assumption))
      replace hD := hD.fr (hF6_1.mono (fun k h => h.2.1))
      replace hE := Ext.over hE hF6_1 hg4
      replace hb4 := hbn
      clear hbn
      refine Wl.val rfl rfl rfl (Gives.assign rfl rfl) ?_
      refine Wl.nil ?_
      refine Wx.thenN (hK9 _ _ ?_)
      refine Wc.ret ?_
      refine Wx.ret [_, _] ⟨⟨_, rfl, res_blk hb4 Try.underlying28 rfl (by kernel_rfl)⟩, ⟨rfl, trivial⟩⟩ ?_
      have he : extendE' x m = 0 := by unfold extendE'; rw [if_neg (by omega), if_neg (by omega)]
      exact IxR.mk (x := { x with wr := true, data := sha256S (x.data ++ l) }) rfl (extend_0 hlm he) he.symm ⟨(hx.1.ext hE).mono (fun _ _ => trivial), (hx.2.1.ext hE).mono (fun _ _ => trivial), hD.mono (fun _ _ => trivial)⟩ hE
end Go.Proofs.Ytdekjkcnfebfnaa
