/- Commands: small functions of the statements; rows of the call's own written at one place. -/
import Derived.Test.YtaekpiejdgahfaaDoorCmdI
import Derived.Test.YtaekpiejdgahfaaDoorCmdD4
import Derived.Test.YtaekpiejdgahfaaDoorCmdA
import Derived.Test.YtaekpiejdgahfaaDoorDraw
import Derived.Test.YtaekpiejdgahfaaDoorRef1
namespace Go.Proofs.YtaekpiejdgahfaaDoor
set_option linter.all false
open Go.RowKit
theorem intsC_calls {P P' : Nat → Prop} (w : World) (A B : Option Addr) (n c m d : Nat) (l r : List Int) (ha : IV w P A n c l) (hb : IV w P' B m d r) :
    Calls Tryd.prog 45 #[.slice A n c, .slice B m d] w fun e w' => e = .returned (.bool (decide (l = r))) ∧ Quiet w w' := by
  have hl := ha.len
  have hr := hb.len
  have hle := ha.le
  refine calls_enter Tryd.func45 rfl Tryd.ntmps45 rfl ?_
  refine Wc.seq (fun K1 hK1 => ?_)
  refine Wc.keep [(0, _), (1, _)] (.cons rfl (.cons rfl (.nil))) ?_
  refine Wc.region ?_
  refine Wl.val rfl rfl rfl (Gives.assign rfl rfl) ?_
  refine Wl.nil ?_
  refine Wx.thenN (hK1 _ _ ?_)
  refine Wc.seq (fun K2 hK2 => ?_)
  refine Wc.seq (fun K3 hK3 => ?_)
  refine Wc.keep [(0, _), (1, _)] (.cons rfl (.cons rfl (.nil))) ?_
  refine Wc.region ?_
  refine Wl.val rfl rfl rfl (Gives.move rfl rfl) ?_
  refine Wl.val rfl rfl rfl (Gives.lenS rfl Tryd.underlying29 rfl) ?_
  refine Wl.val rfl rfl rfl (Gives.move rfl rfl) ?_
  refine Wl.val rfl rfl rfl (Gives.lenS rfl Tryd.underlying29 rfl) ?_
  refine Wl.val rfl rfl rfl (Gives.neq rfl rfl rfl) ?_
  refine Wl.nil ?_
  refine Wx.thenN (hK3 _ _ ?_)
  refine Wc.cond _ rfl (fun h10 => ?_) (fun h10 => ?_)
  · (first | replace h10 := of_decide_eq_true h10 | replace h10 := nd_true h10 | skip)
    refine Wc.seq (fun K4 hK4 => ?_)
    refine Wc.keep [] (.nil) ?_
    refine Wc.region ?_
    refine Wl.val rfl rfl rfl (Gives.assign rfl rfl) ?_
    refine Wl.nil ?_
    refine Wx.thenN (hK4 _ _ ?_)
    refine Wc.ret ?_
    refine Wx.thenR ?_
    refine Wx.ret [_] ⟨rfl, trivial⟩ ?_
    exact ⟨rb (decide_eq_false (fun h => h10 (by rw [← hl, ← hr, h]))).symm, Quiet.refl _⟩
  · (first | replace h10 := of_decide_eq_false h10 | replace h10 := nd_false h10 | skip)
    refine Wc.skip ?_
    refine Wx.thenN (hK2 _ _ ?_)
    refine Wc.seq (fun K5 hK5 => ?_)
    refine Wc.seq (fun K6 hK6 => ?_)
    refine Wc.keep [(0, _), (1, _)] (.cons rfl (.cons rfl (.nil))) ?_
    refine Wc.region ?_
    refine Wl.val rfl rfl rfl (Gives.assign rfl rfl) ?_
    refine Wl.nil ?_
    refine Wx.thenN (hK6 _ _ ?_)
    refine Wc.block ?_
    refine Wc.keep [(0, _), (1, _), (5, _)] (.cons rfl (.cons rfl (.cons rfl (.nil)))) ?_
    refine Wc.loopC (ι := Nat) [(0, _), (1, _)] (fun i => [(5, .int .i64 (i : Int))]) (fun i wr => i ≤ n ∧ l.take i = r.take i ∧ Quiet w wr) (fun i => n - i) (0) (.cons (by first | exact rfl | exact look_int rfl (by omega) | exact look_slice rfl (by omega)) (.cons rfl (.cons rfl (.nil)))) (⟨Nat.zero_le _, by simp, Quiet.refl w⟩) ?_
    intro i wr hJ KL1 hKL1
    obtain ⟨hi, hB, hQ⟩ := hJ
    refine Wc.seq (fun K7 hK7 => ?_)
    refine Wc.seq (fun K8 hK8 => ?_)
    refine Wc.keep [(0, _), (1, _), (5, _)] (.cons rfl (.cons rfl (.cons rfl (.nil)))) ?_
    refine Wc.region ?_
    refine Wl.val rfl rfl rfl (Gives.move rfl rfl) ?_
    refine Wl.val rfl rfl rfl (Gives.move rfl rfl) ?_
    refine Wl.val rfl rfl rfl (Gives.lenS rfl Tryd.underlying29 rfl) ?_
    refine Wl.val rfl rfl rfl (Gives.lss rfl rfl rfl) ?_
    refine Wl.nil ?_
    refine Wx.thenN (hK8 _ _ ?_)
    refine Wc.cond _ rfl (fun h14 => ?_) (fun h14 => ?_)
    · (first | replace h14 := of_decide_eq_true h14 | replace h14 := nd_true h14 | skip)
      refine Wc.skip ?_
      refine Wx.thenN (hK7 _ _ ?_)
      refine Wc.seq (fun K9 hK9 => ?_)
      refine Wc.block ?_
      refine Wc.seq (fun K10 hK10 => ?_)
      refine Wc.keep [(0, _), (1, _), (5, _)] (.cons rfl (.cons rfl (.cons rfl (.nil)))) ?_
      obtain ⟨xb, xo, rfl, hbw, z, hz, hc⟩ := ha.at_ (show i < n by omega)
      obtain ⟨yb, yo, rfl, hbw', z', hz', hc'⟩ := hb.at_ (show i < m by omega)
      refine Wc.regionD (fun _ => true) Eq (.read 0 (.read 1 (.read 2 (.read 3 (.read 4 (.read 5 (.read 6 (.read 7 .tail)))))))) 8 (by kernel_rfl) (by kernel_rfl) (by kernel_rfl) (fun _ => rfl) (fun _ _ _ h k => h.trans k) Quiet ⟨1, rfl⟩ ?_
      intro w6 hR6
      have hx6 := (hQ.trans hR6).ext
      have hc6 := (World.cell?_of_block (w := w) (a := ⟨xb, xo + i, none⟩) (hx6.below.block xb hbw)).trans hc
      have hc6' := (World.cell?_of_block (w := w) (a := ⟨yb, yo + i, none⟩) (hx6.below.block yb hbw')).trans hc'
      refine RunE.readE rfl rfl rfl rfl (Gives.move rfl rfl) ?_
      refine RunE.readE rfl rfl rfl rfl (Gives.move rfl rfl) ?_
      refine RunE.readE rfl rfl rfl rfl (Gives.ixS (i := _) rfl Tryd.underlying29 (by kernel_rfl) rfl rfl rfl (by omega)) ?_
      refine RunE.readE rfl rfl rfl rfl (Gives.ldC rfl (by kernel_rfl) rfl hc6) ?_
      refine RunE.readE rfl rfl rfl rfl (Gives.move rfl rfl) ?_
      refine RunE.readE rfl rfl rfl rfl (Gives.move rfl rfl) ?_
      refine RunE.readE rfl rfl rfl rfl (Gives.ixS (i := _) rfl Tryd.underlying29 (by kernel_rfl) rfl rfl rfl (by omega)) ?_
      refine RunE.readE rfl rfl rfl rfl (Gives.ldC rfl (by kernel_rfl) rfl hc6') ?_
      refine RunE.tail rfl ?_
      refine Wl.val rfl rfl rfl (Gives.neq rfl rfl rfl) ?_
      refine Wl.nil ?_
      refine Wx.thenN (hK10 _ _ ?_)
      refine Wc.cond _ rfl (fun h25 => ?_) (fun h25 => ?_)
      · (first | replace h25 := of_decide_eq_true h25 | replace h25 := nd_true h25 | skip)
        refine Wc.seq (fun K11 hK11 => ?_)
        refine Wc.keep [] (.nil) ?_
        refine Wc.region ?_
        refine Wl.val rfl rfl rfl (Gives.assign rfl rfl) ?_
        refine Wl.nil ?_
        refine Wx.thenN (hK11 _ _ ?_)
        refine Wc.ret ?_
        refine Wx.blockR ?_
        refine Wx.thenR ?_
        refine Wx.thenR ?_
        refine Wx.blockR ?_
        refine Wx.thenR ?_
        refine Wx.ret [_] ⟨rfl, trivial⟩ ?_
        refine ⟨rb (decide_eq_false (fun h => h25 ?_)).symm, hQ.trans hR6⟩
        rw [h, hz'] at hz
        exact (Option.some.inj hz).symm
      · (first | replace h25 := of_decide_eq_false h25 | replace h25 := nd_false h25 | skip)
        refine Wc.skip ?_
        refine Wx.blockN ?_
        refine Wx.thenN (hK9 _ _ ?_)
        refine Wc.keep [(0, _), (1, _), (5, _)] (.cons rfl (.cons rfl (.cons rfl (.nil)))) ?_
        refine Wc.region ?_
        refine Wl.val rfl rfl rfl (Gives.move rfl rfl) ?_
        refine Wl.val rfl rfl rfl (Gives.add rfl rfl rfl (by first | exact IntWalk.i64_in _ (by omega) | exact u64_in _ (by omega) | exact u32_in _ (by omega) | exact u8_in _ (by omega) | exact rfl)) ?_
        refine Wl.val rfl rfl rfl (Gives.assign rfl rfl) ?_
        refine Wl.nil ?_
        refine Wx.thenN ?_
        refine hKL1 (i + 1) _ _ (.cons (by first | exact rfl | exact look_int rfl (by omega) | exact look_slice rfl (by omega)) (.cons rfl (.cons rfl (.nil)))) ⟨by omega, ?_, hQ.trans hR6⟩ (by omega)
        obtain ⟨p1, q1⟩ := List.getElem?_eq_some_iff.1 hz
        obtain ⟨p2, q2⟩ := List.getElem?_eq_some_iff.1 hz'
        rw [List.take_succ_eq_append_getElem p1, List.take_succ_eq_append_getElem p2, hB, q1, q2, h25]
    · (first | replace h14 := of_decide_eq_false h14 | replace h14 := nd_false h14 | skip)
      refine Wc.exit ?_
      refine Wx.thenE ?_
      refine Wx.thenE ?_
      refine Wx.hit ?_
      refine Wx.thenN (hK5 _ _ ?_)
      refine Wc.seq (fun K12 hK12 => ?_)
      refine Wc.keep [] (.nil) ?_
      refine Wc.region ?_
      refine Wl.val rfl rfl rfl (Gives.assign rfl rfl) ?_
      refine Wl.nil ?_
      refine Wx.thenN (hK12 _ _ ?_)
      refine Wc.ret ?_
      refine Wx.ret [_] ⟨rfl, trivial⟩ ?_
      refine ⟨rb (decide_eq_true ?_).symm, hQ⟩
      obtain rfl : n = i := by omega
      rwa [List.take_of_length_le (by omega), List.take_of_length_le (by omega)] at hB
set_option maxHeartbeats 1000000 in
set_option maxRecDepth 10000 in
theorem sameQ_calls {P P' : Nat → Prop} (w : World) (q : Req) (r r' : RA) (hq : ReqV w P q r) (hq' : ReqV w P' q r') :
    Calls Tryd.prog 22 #[.agg #[.int .i64 q.code, .slice r.hA r.hn r.hc, .slice r.aA r.an r.ac, .slice r.iA r.iN r.ic, .slice r.bA r.bn r.bc], .agg #[.int .i64 q.code, .slice r'.hA r'.hn r'.hc, .slice r'.aA r'.an r'.ac, .slice r'.iA r'.iN r'.ic, .slice r'.bA r'.bn r'.bc]] w fun e w' => e = .returned (.bool true) ∧ Ext w w' := by
  obtain ⟨hA, hn, hc, aA, an, ac, iA, iN, ic, bA, bn, bc⟩ := r
  obtain ⟨hA', hn', hc', aA', an', ac', iA', iN', ic', bA', bn', bc'⟩ := r'
  have hhs : IV w P hA hn hc q.hs := hq.hs
  have hus : AV w P aA an ac q.us := hq.us
  have his : IV w P iA iN ic q.is := hq.is
  have hbs : BL w P bA bn bc q.bs := hq.bs
  have hhs' : IV w P' hA' hn' hc' q.hs := hq'.hs
  have hus' : AV w P' aA' an' ac' q.us := hq'.us
  have his' : IV w P' iA' iN' ic' q.is := hq'.is
  have hbs' : BL w P' bA' bn' bc' q.bs := hq'.bs
  have hla := hus.len
  have hla' := hus'.len
  have hle := hus.le
  clear hq hq'
  obtain rfl : an = an' := by omega
  show Calls Tryd.prog _ #[.agg #[.int .i64 q.code, .slice hA hn hc, .slice aA an ac, .slice iA iN ic, .slice bA bn bc], .agg #[.int .i64 q.code, .slice hA' hn' hc', .slice aA' an ac', .slice iA' iN' ic', .slice bA' bn' bc']] w _
  refine calls_enter Tryd.func22 rfl Tryd.ntmps22 rfl ?_
  have hE : Ext w w := Ext.refl w
  refine Wc.seq (fun K1 hK1 => ?_)
  refine Wc.keep [(0, _), (1, _)] (.cons rfl (.cons rfl (.nil))) ?_
  refine Wc.region ?_
  refine Wl.does rfl rfl rfl (Does.boxA rfl rfl) ?_
  rintro _ w0_0 ⟨b2, rfl, hs2, hb2, hx0_0⟩
  have hg2 : w.heap.size ≤ b2 := Nat.le_trans hE.size hs2
  replace hE := hE.trans hx0_0
  refine Wl.does rfl rfl rfl (Does.boxA rfl rfl) ?_
  rintro _ w0_1 ⟨b3, rfl, hs3, hb3, hx0_1⟩
  have hn2_3 : b2 ≠ b3 := hb2.ne hs3
  have hg3 : w.heap.size ≤ b3 := Nat.le_trans hE.size hs3
  replace hb2 := hb2.ext hx0_1
  replace hE := hE.trans hx0_1
  refine Wl.val rfl rfl rfl (Gives.assign rfl rfl) ?_
  refine Wl.nil ?_
  refine Wx.thenN (hK1 _ _ ?_)
  refine Wc.seq (fun K2 hK2 => ?_)
  refine Wc.seq (fun K3 hK3 => ?_)
  refine Wc.keep [(2, _), (3, _)] (.cons rfl (.cons rfl (.nil))) ?_
  refine Wc.region ?_
  refine Wl.val rfl rfl rfl (Gives.fieldAt 0 rfl Tryd.underlying33 rfl (by kernel_rfl) rfl rfl) ?_
  refine Wl.val rfl rfl rfl (Gives.ldK rfl (by kernel_rfl) rfl hb2 rfl) ?_
  refine Wl.val rfl rfl rfl (Gives.fieldAt 0 rfl Tryd.underlying33 rfl (by kernel_rfl) rfl rfl) ?_
  refine Wl.val rfl rfl rfl (Gives.ldK rfl (by kernel_rfl) rfl hb3 rfl) ?_
  refine Wl.val rfl rfl rfl (Gives.neq rfl rfl rfl) ?_
  refine Wl.val rfl rfl rfl (Gives.move rfl rfl) ?_
  refine Wl.guardT rfl rfl rfl (by simp) ?_
  refine Wl.val rfl rfl rfl (Gives.fieldAt 1 rfl Tryd.underlying33 rfl (by kernel_rfl) rfl rfl) ?_
  refine Wl.val rfl rfl rfl (Gives.ldK rfl (by kernel_rfl) rfl hb2 rfl) ?_
  refine Wl.val rfl rfl rfl (Gives.fieldAt 1 rfl Tryd.underlying33 rfl (by kernel_rfl) rfl rfl) ?_
  refine Wl.val rfl rfl rfl (Gives.ldK rfl (by kernel_rfl) rfl hb3 rfl) ?_
  refine Wl.call rfl rfl rfl rfl Tryd.func45 rfl (by kernel_rfl) rfl (intsC_calls _ _ _ _ _ _ _ _ _ (hhs.ext hE) (hhs'.ext hE)) ?_
  rintro x1 w11 ⟨rfl, hQ1⟩
  refine ⟨_, rfl, ?_⟩
  have hx1 := hQ1.ext
  replace hb2 := hb2.ext hx1
  replace hb3 := hb3.ext hx1
  replace hE := hE.trans hx1
  refine Wl.val rfl rfl rfl (Gives.not rfl rfl) ?_
  refine Wl.val rfl rfl rfl (Gives.pickF rfl rfl rfl rfl) ?_
  refine Wl.val rfl rfl rfl (Gives.move rfl rfl) ?_
  refine Wl.guardT rfl rfl rfl (by simp) ?_
  refine Wl.val rfl rfl rfl (Gives.fieldAt 3 rfl Tryd.underlying33 rfl (by kernel_rfl) rfl rfl) ?_
  refine Wl.val rfl rfl rfl (Gives.ldK rfl (by kernel_rfl) rfl hb2 rfl) ?_
  refine Wl.val rfl rfl rfl (Gives.fieldAt 3 rfl Tryd.underlying33 rfl (by kernel_rfl) rfl rfl) ?_
  refine Wl.val rfl rfl rfl (Gives.ldK rfl (by kernel_rfl) rfl hb3 rfl) ?_
  refine Wl.call rfl rfl rfl rfl Tryd.func45 rfl (by kernel_rfl) rfl (intsC_calls _ _ _ _ _ _ _ _ _ (his.ext hE) (his'.ext hE)) ?_
  rintro x2 w12 ⟨rfl, hQ2⟩
  refine ⟨_, rfl, ?_⟩
  have hx2 := hQ2.ext
  replace hb2 := hb2.ext hx2
  replace hb3 := hb3.ext hx2
  replace hE := hE.trans hx2
  refine Wl.val rfl rfl rfl (Gives.not rfl rfl) ?_
  refine Wl.val rfl rfl rfl (Gives.pickF rfl rfl rfl rfl) ?_
  refine Wl.val rfl rfl rfl (Gives.move rfl rfl) ?_
  refine Wl.guardT rfl rfl rfl (by simp) ?_
  refine Wl.val rfl rfl rfl (Gives.fieldAt 4 rfl Tryd.underlying33 rfl (by kernel_rfl) rfl rfl) ?_
  refine Wl.val rfl rfl rfl (Gives.ldK rfl (by kernel_rfl) rfl hb2 rfl) ?_
  refine Wl.val rfl rfl rfl (Gives.fieldAt 4 rfl Tryd.underlying33 rfl (by kernel_rfl) rfl rfl) ?_
  refine Wl.val rfl rfl rfl (Gives.ldK rfl (by kernel_rfl) rfl hb3 rfl) ?_
  refine Wl.call rfl rfl rfl rfl Tryd.func46 rfl (by kernel_rfl) rfl (lists_calls _ _ _ _ _ _ _ _ _ (hbs.ext hE) (hbs'.ext hE)) ?_
  rintro x3 w13 ⟨rfl, hQ3⟩
  refine ⟨_, rfl, ?_⟩
  have hx3 := hQ3.ext
  replace hb2 := hb2.ext hx3
  replace hb3 := hb3.ext hx3
  replace hE := hE.trans hx3
  refine Wl.val rfl rfl rfl (Gives.not rfl rfl) ?_
  refine Wl.val rfl rfl rfl (Gives.pickF rfl rfl rfl rfl) ?_
  refine Wl.val rfl rfl rfl (Gives.move rfl rfl) ?_
  refine Wl.guardT rfl rfl rfl (by simp) ?_
  refine Wl.val rfl rfl rfl (Gives.fieldAt 2 rfl Tryd.underlying33 rfl (by kernel_rfl) rfl rfl) ?_
  refine Wl.val rfl rfl rfl (Gives.ldK rfl (by kernel_rfl) rfl hb2 rfl) ?_
  refine Wl.val rfl rfl rfl (Gives.lenS rfl Tryd.underlying30 rfl) ?_
  refine Wl.val rfl rfl rfl (Gives.fieldAt 2 rfl Tryd.underlying33 rfl (by kernel_rfl) rfl rfl) ?_
  refine Wl.val rfl rfl rfl (Gives.ldK rfl (by kernel_rfl) rfl hb3 rfl) ?_
  refine Wl.val rfl rfl rfl (Gives.lenS rfl Tryd.underlying30 rfl) ?_
  refine Wl.val rfl rfl rfl (Gives.neq rfl rfl rfl) ?_
  refine Wl.val rfl rfl rfl (Gives.pickF rfl rfl rfl rfl) ?_
  refine Wl.nil ?_
  refine Wx.thenN (hK3 _ _ ?_)
  refine Wc.condF rfl (by simp) ?_
  refine Wc.skip ?_
  refine Wx.thenN (hK2 _ _ ?_)
  refine Wc.seq (fun K4 hK4 => ?_)
  refine Wc.seq (fun K5 hK5 => ?_)
  refine Wc.keep [(2, _), (3, _)] (.cons rfl (.cons rfl (.nil))) ?_
  refine Wc.region ?_
  refine Wl.val rfl rfl rfl (Gives.assign rfl rfl) ?_
  refine Wl.nil ?_
  refine Wx.thenN (hK5 _ _ ?_)
  refine Wc.block ?_
  refine Wc.keep [(2, _), (3, _), (5, _)] (.cons rfl (.cons rfl (.cons rfl (.nil)))) ?_
  refine Wc.loopC (ι := Nat) [(2, _), (3, _)] (fun i => [(5, .int .i64 (i : Int))]) (fun i wr => i ≤ an ∧ Blk wr b2 33 #[.int .i64 q.code, .slice hA hn hc, .slice aA an ac, .slice iA iN ic, .slice bA bn bc] ∧ Blk wr b3 33 #[.int .i64 q.code, .slice hA' hn' hc', .slice aA' an ac', .slice iA' iN' ic', .slice bA' bn' bc'] ∧ Ext w wr) (fun i => an - i) (0) (.cons (by first | exact rfl | exact look_int rfl (by omega) | exact look_slice rfl (by omega)) (.cons rfl (.cons rfl (.nil)))) (⟨Nat.zero_le _, hb2, hb3, hE⟩) ?_
  intro i wr hJ KL1 hKL1
  clear hb2 hb3 hE
  obtain ⟨hi, hb2, hb3, hE⟩ := hJ
  refine Wc.seq (fun K6 hK6 => ?_)
  refine Wc.seq (fun K7 hK7 => ?_)
  refine Wc.keep [(2, _), (3, _), (5, _)] (.cons rfl (.cons rfl (.cons rfl (.nil)))) ?_
  refine Wc.region ?_
  refine Wl.val rfl rfl rfl (Gives.move rfl rfl) ?_
  refine Wl.val rfl rfl rfl (Gives.fieldAt 2 rfl Tryd.underlying33 rfl (by kernel_rfl) rfl rfl) ?_
  refine Wl.val rfl rfl rfl (Gives.ldK rfl (by kernel_rfl) rfl hb2 rfl) ?_
  refine Wl.val rfl rfl rfl (Gives.lenS rfl Tryd.underlying30 rfl) ?_
  refine Wl.val rfl rfl rfl (Gives.lss rfl rfl rfl) ?_
  refine Wl.nil ?_
  refine Wx.thenN (hK7 _ _ ?_)
  refine Wc.cond _ rfl (fun h50 => ?_) (fun h50 => ?_)
  · (first | replace h50 := of_decide_eq_true h50 | replace h50 := nd_true h50 | skip)
    refine Wc.skip ?_
    refine Wx.thenN (hK6 _ _ ?_)
    refine Wc.seq (fun K8 hK8 => ?_)
    refine Wc.block ?_
    refine Wc.seq (fun K9 hK9 => ?_)
    refine Wc.keep [(2, _), (3, _), (5, _)] (.cons rfl (.cons rfl (.cons rfl (.nil)))) ?_
    obtain ⟨xb, xo, rfl, hbw, a, N, nn, nc, V, vn, vc, ha, hrg, hN0, hV0⟩ := hus.at_ (show i < an by omega)
    obtain ⟨yb, yo, rfl, hbw', a', N', nn', nc', V', vn', vc', ha', hrg', hN0', hV0'⟩ := hus'.at_ (show i < an by omega)
    obtain rfl : a = a' := by rw [ha] at ha'; exact Option.some.inj ha'
    refine Wc.regionB (fun q => [1, 4, 6, 9].contains q) [] (.read 0 (.read 1 (.read 2 (.read 3 (.read 4 (.read 5 (.read 6 (.read 7 (.read 8 (.read 9 (.call false 10 (.call false 11 (.call false 12 .tail .none) .none) (.call false 11 (.call false 10 (.call false 12 .tail .none) .none) .none)))))))))))) 13 (by kernel_rfl) (by kernel_rfl) (by kernel_rfl) ?_
    intro w6 hR6
    replace hb2 := hb2.ext hR6.ext
    replace hb3 := hb3.ext hR6.ext
    replace hE := hE.trans hR6.ext
    have hO6_2 : Old w6.heap.size [] b2 := ⟨hb2.lt, trivial⟩
    have hO6_3 : Old w6.heap.size [] b3 := ⟨hb3.lt, trivial⟩
    have hX := Ext.refl w6
    refine RunE.read rfl rfl rfl rfl (fun wS _ => (Gives.fieldAt 2 rfl Tryd.underlying33 rfl (by kernel_rfl) rfl rfl)) ?_
    refine RunE.readM rfl rfl rfl rfl rfl (fun wS hS => (Gives.ldK rfl (by kernel_rfl) rfl ((hb2.ext hX).fr hS hO6_2) rfl)) ?_
    refine RunE.read rfl rfl rfl rfl (fun wS _ => (Gives.move rfl rfl)) ?_
    refine RunE.read rfl rfl rfl rfl (fun wS _ => (Gives.ixSZ (i := _) (sz := 3) rfl Tryd.underlying30 (by kernel_rfl) rfl rfl rfl (by omega))) ?_
    refine RunE.readM rfl rfl rfl rfl rfl (fun wS hS => (Gives.ldM rfl (by kernel_rfl) rfl (rng_go hrg hbw hE hX hS) (by kernel_rfl))) ?_
    refine RunE.read rfl rfl rfl rfl (fun wS _ => (Gives.fieldAt 2 rfl Tryd.underlying33 rfl (by kernel_rfl) rfl rfl)) ?_
    refine RunE.readM rfl rfl rfl rfl rfl (fun wS hS => (Gives.ldK rfl (by kernel_rfl) rfl ((hb3.ext hX).fr hS hO6_3) rfl)) ?_
    refine RunE.read rfl rfl rfl rfl (fun wS _ => (Gives.move rfl rfl)) ?_
    refine RunE.read rfl rfl rfl rfl (fun wS _ => (Gives.ixSZ (i := _) (sz := 3) rfl Tryd.underlying30 (by kernel_rfl) rfl rfl rfl (by omega))) ?_
    refine RunE.readM rfl rfl rfl rfl rfl (fun wS hS => (Gives.ldM rfl (by kernel_rfl) rfl (rng_go hrg' hbw' hE hX hS) (by kernel_rfl))) ?_
    refine RunE.turn rfl rfl rfl rfl (Does.alB (.agg #[(.int .i64 0), (.slice none 0 0), (.slice none 0 0)]) rfl (by kernel_rfl) rfl) ?_ ?_
    · rintro _ w6_10 ⟨b6, rfl, hs6, hb6, hx6_10⟩
      refine ⟨hx6_10.fr, ?_⟩
      have hn2_6 : b2 ≠ b6 := (hb2.ext hX).ne hs6
      have hn3_6 : b3 ≠ b6 := (hb3.ext hX).ne hs6
      have hg6 : w.heap.size ≤ b6 := Nat.le_trans (hE.trans hX).size hs6
      have hN6 := Nat.le_trans hX.size hs6
      replace hX := hX.trans hx6_10
      refine RunE.turn rfl rfl rfl rfl (Does.alB (.agg #[(.int .i64 0), (.slice none 0 0), (.slice none 0 0)]) rfl (by kernel_rfl) rfl) ?_ RunE.none
      rintro _ w6_11 ⟨b7, rfl, hs7, hb7, hx6_11⟩
      refine ⟨hx6_11.fr, ?_⟩
      have hn2_7 : b2 ≠ b7 := (hb2.ext hX).ne hs7
      have hn3_7 : b3 ≠ b7 := (hb3.ext hX).ne hs7
      have hn6_7 : b6 ≠ b7 := hb6.ne hs7
      have hg7 : w.heap.size ≤ b7 := Nat.le_trans (hE.trans hX).size hs7
      have hN7 := Nat.le_trans hX.size hs7
      replace hb6 := hb6.ext hx6_11
      replace hX := hX.trans hx6_11
      replace hb2 := hb2.ext hX
      replace hb3 := hb3.ext hX
      replace hE := hE.trans hX
      refine RunE.turnN rfl rfl rfl (Does.stL 3 rfl rfl rfl hb6 (by kernel_rfl) rfl rfl rfl) ?_ RunE.none
      rintro _ w6_12 ⟨hbn, hF6_12⟩
      refine ⟨new_old hF6_12 hN6, ?_⟩
      replace hb2 := hb2.fr hF6_12 (by first | assumption | exact Ne.symm (by assumption))
      replace hb3 := hb3.fr hF6_12 (by first | assumption | exact Ne.symm (by assumption))
      replace hb7 := hb7.fr hF6_12 (by first | assumption | exact Ne.symm (by assumption))
      replace hE := Ext.over hE hF6_12 hg6
      replace hb6 := hbn
      clear hbn
      replace hX := Ext.refl w6_12
      refine RunE.tail rfl ?_
      replace hb2 := hb2.ext hX
      replace hb3 := hb3.ext hX
      replace hb6 := hb6.ext hX
      replace hb7 := hb7.ext hX
      replace hE := hE.trans hX
      refine Wl.acts rfl rfl (Does.stL 3 rfl rfl rfl hb7 (by kernel_rfl) rfl rfl rfl) ?_
      rintro _ w6_13 ⟨hbn, hF6_13⟩
      replace hb2 := hb2.fr hF6_13 (by first | assumption | exact Ne.symm (by assumption))
      replace hb3 := hb3.fr hF6_13 (by first | assumption | exact Ne.symm (by assumption))
      replace hb6 := hb6.fr hF6_13 (by first | assumption | exact Ne.symm (by assumption))
      replace hE := Ext.over hE hF6_13 hg7
      replace hb7 := hbn
      clear hbn
      refine Wl.nil ?_
      refine Wx.thenN (hK9 _ _ ?_)
      refine Wc.seq (fun K10 hK10 => ?_)
      refine Wc.keep [(2, _), (3, _), (5, _), (6, _), (7, _)] (.cons rfl (.cons rfl (.cons rfl (.cons rfl (.cons rfl (.nil)))))) ?_
      refine Wc.region ?_
      refine Wl.val rfl rfl rfl (Gives.fieldAt 0 rfl Tryd.underlying38 rfl (by kernel_rfl) rfl rfl) ?_
      refine Wl.val rfl rfl rfl (Gives.ldK rfl (by kernel_rfl) rfl hb6 rfl) ?_
      refine Wl.val rfl rfl rfl (Gives.fieldAt 0 rfl Tryd.underlying38 rfl (by kernel_rfl) rfl rfl) ?_
      refine Wl.val rfl rfl rfl (Gives.ldK rfl (by kernel_rfl) rfl hb7 rfl) ?_
      refine Wl.val rfl rfl rfl (Gives.neq rfl rfl rfl) ?_
      refine Wl.val rfl rfl rfl (Gives.move rfl rfl) ?_
      refine Wl.guardT rfl rfl rfl (by simp) ?_
      refine Wl.val rfl rfl rfl (Gives.fieldAt 1 rfl Tryd.underlying38 rfl (by kernel_rfl) rfl rfl) ?_
      refine Wl.val rfl rfl rfl (Gives.ldK rfl (by kernel_rfl) rfl hb6 rfl) ?_
      refine Wl.val rfl rfl rfl (Gives.fieldAt 1 rfl Tryd.underlying38 rfl (by kernel_rfl) rfl rfl) ?_
      refine Wl.val rfl rfl rfl (Gives.ldK rfl (by kernel_rfl) rfl hb7 rfl) ?_
      refine Wl.call rfl rfl rfl rfl Tryd.func20 rfl (by kernel_rfl) rfl (same_calls _ _ _ _ _ _ _ _ _ (hN0.ext hE) (hN0'.ext hE)) ?_
      rintro x4 w14 ⟨rfl, hQ4⟩
      refine ⟨_, rfl, ?_⟩
      have hx4 := hQ4.ext
      replace hb2 := hb2.ext hx4
      replace hb3 := hb3.ext hx4
      replace hb6 := hb6.ext hx4
      replace hb7 := hb7.ext hx4
      replace hE := hE.trans hx4
      refine Wl.val rfl rfl rfl (Gives.not rfl rfl) ?_
      refine Wl.val rfl rfl rfl (Gives.pickF rfl rfl rfl rfl) ?_
      refine Wl.val rfl rfl rfl (Gives.move rfl rfl) ?_
      refine Wl.guardT rfl rfl rfl (by simp) ?_
      refine Wl.val rfl rfl rfl (Gives.fieldAt 2 rfl Tryd.underlying38 rfl (by kernel_rfl) rfl rfl) ?_
      refine Wl.val rfl rfl rfl (Gives.ldK rfl (by kernel_rfl) rfl hb6 rfl) ?_
      refine Wl.val rfl rfl rfl (Gives.fieldAt 2 rfl Tryd.underlying38 rfl (by kernel_rfl) rfl rfl) ?_
      refine Wl.val rfl rfl rfl (Gives.ldK rfl (by kernel_rfl) rfl hb7 rfl) ?_
      refine Wl.call rfl rfl rfl rfl Tryd.func20 rfl (by kernel_rfl) rfl (same_calls _ _ _ _ _ _ _ _ _ (hV0.ext hE) (hV0'.ext hE)) ?_
      rintro x5 w15 ⟨rfl, hQ5⟩
      refine ⟨_, rfl, ?_⟩
      have hx5 := hQ5.ext
      replace hb2 := hb2.ext hx5
      replace hb3 := hb3.ext hx5
      replace hb6 := hb6.ext hx5
      replace hb7 := hb7.ext hx5
      replace hE := hE.trans hx5
      refine Wl.val rfl rfl rfl (Gives.not rfl rfl) ?_
      refine Wl.val rfl rfl rfl (Gives.pickF rfl rfl rfl rfl) ?_
      refine Wl.nil ?_
      refine Wx.thenN (hK10 _ _ ?_)
      refine Wc.condF rfl (by simp) ?_
      refine Wc.skip ?_
      refine Wx.blockN ?_
      refine Wx.thenN (hK8 _ _ ?_)
      refine Wc.keep [(2, _), (3, _), (5, _)] (.cons rfl (.cons rfl (.cons rfl (.nil)))) ?_
      refine Wc.region ?_
      refine Wl.val rfl rfl rfl (Gives.move rfl rfl) ?_
      refine Wl.val rfl rfl rfl (Gives.add rfl rfl rfl (by first | exact IntWalk.i64_in _ (by omega) | exact u64_in _ (by omega) | exact u32_in _ (by omega) | exact u8_in _ (by omega) | exact rfl)) ?_
      refine Wl.val rfl rfl rfl (Gives.assign rfl rfl) ?_
      refine Wl.nil ?_
      refine Wx.thenN ?_
      refine hKL1 (i + 1) _ _ (.cons (by first | exact rfl | exact look_int rfl (by omega) | exact look_slice rfl (by omega)) (.cons rfl (.cons rfl (.nil)))) ⟨by omega, hb2, hb3, hE⟩ (by omega)
    refine RunE.turn rfl rfl rfl rfl (Does.alB (.agg #[(.int .i64 0), (.slice none 0 0), (.slice none 0 0)]) rfl (by kernel_rfl) rfl) ?_ RunE.none
    rintro _ w6_11 ⟨b7, rfl, hs7, hb7, hx6_11⟩
    refine ⟨hx6_11.fr, ?_⟩
    have hn2_7 : b2 ≠ b7 := (hb2.ext hX).ne hs7
    have hn3_7 : b3 ≠ b7 := (hb3.ext hX).ne hs7
    have hg7 : w.heap.size ≤ b7 := Nat.le_trans (hE.trans hX).size hs7
    have hN7 := Nat.le_trans hX.size hs7
    replace hX := hX.trans hx6_11
    refine RunE.turn rfl rfl rfl rfl (Does.alB (.agg #[(.int .i64 0), (.slice none 0 0), (.slice none 0 0)]) rfl (by kernel_rfl) rfl) ?_ RunE.none
    rintro _ w6_10 ⟨b6, rfl, hs6, hb6, hx6_10⟩
    refine ⟨hx6_10.fr, ?_⟩
    have hn2_6 : b2 ≠ b6 := (hb2.ext hX).ne hs6
    have hn3_6 : b3 ≠ b6 := (hb3.ext hX).ne hs6
    have hn7_6 : b7 ≠ b6 := hb7.ne hs6
    have hg6 : w.heap.size ≤ b6 := Nat.le_trans (hE.trans hX).size hs6
    have hN6 := Nat.le_trans hX.size hs6
    replace hb7 := hb7.ext hx6_10
    replace hX := hX.trans hx6_10
    replace hb2 := hb2.ext hX
    replace hb3 := hb3.ext hX
    replace hE := hE.trans hX
    refine RunE.turnN rfl rfl rfl (Does.stL 3 rfl rfl rfl hb6 (by kernel_rfl) rfl rfl rfl) ?_ RunE.none
    rintro _ w6_12 ⟨hbn, hF6_12⟩
    refine ⟨new_old hF6_12 hN6, ?_⟩
    replace hb2 := hb2.fr hF6_12 (by first | assumption | exact Ne.symm (by assumption))
    replace hb3 := hb3.fr hF6_12 (by first | assumption | exact Ne.symm (by assumption))
    replace hb7 := hb7.fr hF6_12 (by first | assumption | exact Ne.symm (by assumption))
    replace hE := Ext.over hE hF6_12 hg6
    replace hb6 := hbn
    clear hbn
    replace hX := Ext.refl w6_12
    refine RunE.tail rfl ?_
    replace hb2 := hb2.ext hX
    replace hb3 := hb3.ext hX
    replace hb6 := hb6.ext hX
    replace hb7 := hb7.ext hX
    replace hE := hE.trans hX
    refine Wl.acts rfl rfl (Does.stL 3 rfl rfl rfl hb7 (by kernel_rfl) rfl rfl rfl) ?_
    rintro _ w6_13 ⟨hbn, hF6_13⟩
    replace hb2 := hb2.fr hF6_13 (by first | assumption | exact Ne.symm (by assumption))
    replace hb3 := hb3.fr hF6_13 (by first | assumption | exact Ne.symm (by assumption))
    replace hb6 := hb6.fr hF6_13 (by first | assumption | exact Ne.symm (by assumption))
    replace hE := Ext.over hE hF6_13 hg7
    replace hb7 := hbn
    clear hbn
    refine Wl.nil ?_
    refine Wx.thenN (hK9 _ _ ?_)
    refine Wc.seq (fun K11 hK11 => ?_)
    refine Wc.keep [(2, _), (3, _), (5, _), (6, _), (7, _)] (.cons rfl (.cons rfl (.cons rfl (.cons rfl (.cons rfl (.nil)))))) ?_
    refine Wc.region ?_
    refine Wl.val rfl rfl rfl (Gives.fieldAt 0 rfl Tryd.underlying38 rfl (by kernel_rfl) rfl rfl) ?_
    refine Wl.val rfl rfl rfl (Gives.ldK rfl (by kernel_rfl) rfl hb6 rfl) ?_
    refine Wl.val rfl rfl rfl (Gives.fieldAt 0 rfl Tryd.underlying38 rfl (by kernel_rfl) rfl rfl) ?_
    refine Wl.val rfl rfl rfl (Gives.ldK rfl (by kernel_rfl) rfl hb7 rfl) ?_
    refine Wl.val rfl rfl rfl (Gives.neq rfl rfl rfl) ?_
    refine Wl.val rfl rfl rfl (Gives.move rfl rfl) ?_
    refine Wl.guardT rfl rfl rfl (by simp) ?_
    refine Wl.val rfl rfl rfl (Gives.fieldAt 1 rfl Tryd.underlying38 rfl (by kernel_rfl) rfl rfl) ?_
    refine Wl.val rfl rfl rfl (Gives.ldK rfl (by kernel_rfl) rfl hb6 rfl) ?_
    refine Wl.val rfl rfl rfl (Gives.fieldAt 1 rfl Tryd.underlying38 rfl (by kernel_rfl) rfl rfl) ?_
    refine Wl.val rfl rfl rfl (Gives.ldK rfl (by kernel_rfl) rfl hb7 rfl) ?_
    refine Wl.call rfl rfl rfl rfl Tryd.func20 rfl (by kernel_rfl) rfl (same_calls _ _ _ _ _ _ _ _ _ (hN0.ext hE) (hN0'.ext hE)) ?_
    rintro x4 w14 ⟨rfl, hQ4⟩
    refine ⟨_, rfl, ?_⟩
    have hx4 := hQ4.ext
    replace hb2 := hb2.ext hx4
    replace hb3 := hb3.ext hx4
    replace hb6 := hb6.ext hx4
    replace hb7 := hb7.ext hx4
    replace hE := hE.trans hx4
    refine Wl.val rfl rfl rfl (Gives.not rfl rfl) ?_
    refine Wl.val rfl rfl rfl (Gives.pickF rfl rfl rfl rfl) ?_
    refine Wl.val rfl rfl rfl (Gives.move rfl rfl) ?_
    refine Wl.guardT rfl rfl rfl (by simp) ?_
    refine Wl.val rfl rfl rfl (Gives.fieldAt 2 rfl Tryd.underlying38 rfl (by kernel_rfl) rfl rfl) ?_
    refine Wl.val rfl rfl rfl (Gives.ldK rfl (by kernel_rfl) rfl hb6 rfl) ?_
    refine Wl.val rfl rfl rfl (Gives.fieldAt 2 rfl Tryd.underlying38 rfl (by kernel_rfl) rfl rfl) ?_
    refine Wl.val rfl rfl rfl (Gives.ldK rfl (by kernel_rfl) rfl hb7 rfl) ?_
    refine Wl.call rfl rfl rfl rfl Tryd.func20 rfl (by kernel_rfl) rfl (same_calls _ _ _ _ _ _ _ _ _ (hV0.ext hE) (hV0'.ext hE)) ?_
    rintro x5 w15 ⟨rfl, hQ5⟩
    refine ⟨_, rfl, ?_⟩
    have hx5 := hQ5.ext
    replace hb2 := hb2.ext hx5
    replace hb3 := hb3.ext hx5
    replace hb6 := hb6.ext hx5
    replace hb7 := hb7.ext hx5
    replace hE := hE.trans hx5
    refine Wl.val rfl rfl rfl (Gives.not rfl rfl) ?_
    refine Wl.val rfl rfl rfl (Gives.pickF rfl rfl rfl rfl) ?_
    refine Wl.nil ?_
    refine Wx.thenN (hK11 _ _ ?_)
    refine Wc.condF rfl (by simp) ?_
    refine Wc.skip ?_
    refine Wx.blockN ?_
    refine Wx.thenN (hK8 _ _ ?_)
    refine Wc.keep [(2, _), (3, _), (5, _)] (.cons rfl (.cons rfl (.cons rfl (.nil)))) ?_
    refine Wc.region ?_
    refine Wl.val rfl rfl rfl (Gives.move rfl rfl) ?_
    refine Wl.val rfl rfl rfl (Gives.add rfl rfl rfl (by first | exact IntWalk.i64_in _ (by omega) | exact u64_in _ (by omega) | exact u32_in _ (by omega) | exact u8_in _ (by omega) | exact rfl)) ?_
    refine Wl.val rfl rfl rfl (Gives.assign rfl rfl) ?_
    refine Wl.nil ?_
    refine Wx.thenN ?_
    refine hKL1 (i + 1) _ _ (.cons (by first | exact rfl | exact look_int rfl (by omega) | exact look_slice rfl (by omega)) (.cons rfl (.cons rfl (.nil)))) ⟨by omega, hb2, hb3, hE⟩ (by omega)
  · (first | replace h50 := of_decide_eq_false h50 | replace h50 := nd_false h50 | skip)
    refine Wc.exit ?_
    refine Wx.thenE ?_
    refine Wx.thenE ?_
    refine Wx.hit ?_
    refine Wx.thenN (hK4 _ _ ?_)
    refine Wc.seq (fun K12 hK12 => ?_)
    refine Wc.keep [] (.nil) ?_
    refine Wc.region ?_
    refine Wl.val rfl rfl rfl (Gives.assign rfl rfl) ?_
    refine Wl.nil ?_
    refine Wx.thenN (hK12 _ _ ?_)
    refine Wc.ret ?_
    refine Wx.ret [_] ⟨rfl, trivial⟩ ?_
    exact ⟨rfl, hE⟩
set_option maxHeartbeats 1000000 in
set_option maxRecDepth 10000 in
theorem few_calls {P : Nat → Prop} (w : World) (q : Req) (r : RA) (hq : ReqV w P q r) :
    Calls Tryd.prog 13 #[.agg #[.int .i64 q.code, .slice r.hA r.hn r.hc, .slice r.aA r.an r.ac, .slice r.iA r.iN r.ic, .slice r.bA r.bn r.bc]] w fun e w' => ∃ b, e = .returned (.bool b) ∧ (b = true → FewQ q) ∧ Ext w w' := by
  obtain ⟨hA, hn, hc, aA, an, ac, iA, iN, ic, bA, bn, bc⟩ := r
  have hhs : IV w P hA hn hc q.hs := hq.hs
  have hus : AV w P aA an ac q.us := hq.us
  have his : IV w P iA iN ic q.is := hq.is
  have hbs : BL w P bA bn bc q.bs := hq.bs
  have hlh := hhs.len
  have hla := hus.len
  have hli := his.len
  have hlb := hbs.len
  clear hq
  show Calls Tryd.prog _ #[.agg #[.int .i64 q.code, .slice hA hn hc, .slice aA an ac, .slice iA iN ic, .slice bA bn bc]] w _
  refine calls_enter Tryd.func13 rfl Tryd.ntmps13 rfl ?_
  have hE : Ext w w := Ext.refl w
  refine Wc.seq (fun K1 hK1 => ?_)
  refine Wc.keep [(0, _)] (.cons rfl (.nil)) ?_
  refine Wc.region ?_
  refine Wl.does rfl rfl rfl (Does.boxA rfl rfl) ?_
  rintro _ w0_0 ⟨b1, rfl, hs1, hb1, hx0_0⟩
  have hg1 : w.heap.size ≤ b1 := Nat.le_trans hE.size hs1
  replace hE := hE.trans hx0_0
  refine Wl.val rfl rfl rfl (Gives.assign rfl rfl) ?_
  refine Wl.nil ?_
  refine Wx.thenN (hK1 _ _ ?_)
  refine Wc.seq (fun K2 hK2 => ?_)
  refine Wc.seq (fun K3 hK3 => ?_)
  refine Wc.keep [(1, _)] (.cons rfl (.nil)) ?_
  refine Wc.region ?_
  refine Wl.val rfl rfl rfl (Gives.fieldAt 1 rfl Tryd.underlying33 rfl (by kernel_rfl) rfl rfl) ?_
  refine Wl.val rfl rfl rfl (Gives.ldK rfl (by kernel_rfl) rfl hb1 rfl) ?_
  refine Wl.val rfl rfl rfl (Gives.lenS rfl Tryd.underlying29 rfl) ?_
  refine Wl.val rfl rfl rfl (Gives.gtr rfl rfl rfl) ?_
  refine Wl.val rfl rfl rfl (Gives.move rfl rfl) ?_
  refine Wl.guard rfl rfl rfl (fun h10 => ?_) (fun h10 => ?_)
  · (first | replace h10 := of_decide_eq_false h10 | replace h10 := nd_false h10 | skip)
    refine Wl.val rfl rfl rfl (Gives.fieldAt 2 rfl Tryd.underlying33 rfl (by kernel_rfl) rfl rfl) ?_
    refine Wl.val rfl rfl rfl (Gives.ldK rfl (by kernel_rfl) rfl hb1 rfl) ?_
    refine Wl.val rfl rfl rfl (Gives.lenS rfl Tryd.underlying30 rfl) ?_
    refine Wl.val rfl rfl rfl (Gives.gtr rfl rfl rfl) ?_
    refine Wl.val rfl rfl rfl (Gives.pickF rfl rfl rfl rfl) ?_
    refine Wl.val rfl rfl rfl (Gives.move rfl rfl) ?_
    refine Wl.guard rfl rfl rfl (fun h16 => ?_) (fun h16 => ?_)
    · (first | replace h16 := of_decide_eq_false h16 | replace h16 := nd_false h16 | skip)
      refine Wl.val rfl rfl rfl (Gives.fieldAt 3 rfl Tryd.underlying33 rfl (by kernel_rfl) rfl rfl) ?_
      refine Wl.val rfl rfl rfl (Gives.ldK rfl (by kernel_rfl) rfl hb1 rfl) ?_
      refine Wl.val rfl rfl rfl (Gives.lenS rfl Tryd.underlying29 rfl) ?_
      refine Wl.val rfl rfl rfl (Gives.gtr rfl rfl rfl) ?_
      refine Wl.val rfl rfl rfl (Gives.pickF rfl rfl rfl rfl) ?_
      refine Wl.val rfl rfl rfl (Gives.move rfl rfl) ?_
      refine Wl.guard rfl rfl rfl (fun h22 => ?_) (fun h22 => ?_)
      · (first | replace h22 := of_decide_eq_false h22 | replace h22 := nd_false h22 | skip)
        refine Wl.val rfl rfl rfl (Gives.fieldAt 4 rfl Tryd.underlying33 rfl (by kernel_rfl) rfl rfl) ?_
        refine Wl.val rfl rfl rfl (Gives.ldK rfl (by kernel_rfl) rfl hb1 rfl) ?_
        refine Wl.val rfl rfl rfl (Gives.lenS rfl Tryd.underlying31 rfl) ?_
        refine Wl.val rfl rfl rfl (Gives.gtr rfl rfl rfl) ?_
        refine Wl.val rfl rfl rfl (Gives.pickF rfl rfl rfl rfl) ?_
        refine Wl.nil ?_
        refine Wx.thenN (hK3 _ _ ?_)
        refine Wc.cond _ rfl (fun h27 => ?_) (fun h27 => ?_)
        · (first | replace h27 := of_decide_eq_true h27 | replace h27 := nd_true h27 | skip)
          refine Wc.seq (fun K4 hK4 => ?_)
          refine Wc.keep [] (.nil) ?_
          refine Wc.region ?_
          refine Wl.val rfl rfl rfl (Gives.assign rfl rfl) ?_
          refine Wl.nil ?_
          refine Wx.thenN (hK4 _ _ ?_)
          refine Wc.ret ?_
          refine Wx.thenR ?_
          refine Wx.ret [_] ⟨rfl, trivial⟩ ?_
          exact ⟨false, rfl, (fun h => by cases h), hE⟩
        · (first | replace h27 := of_decide_eq_false h27 | replace h27 := nd_false h27 | skip)
          refine Wc.skip ?_
          refine Wx.thenN (hK2 _ _ ?_)
          refine Wc.seq (fun K5 hK5 => ?_)
          refine Wc.keep [(1, _)] (.cons rfl (.nil)) ?_
          refine Wc.region ?_
          refine Wl.val rfl rfl rfl (Gives.assign rfl rfl) ?_
          refine Wl.nil ?_
          refine Wx.thenN (hK5 _ _ ?_)
          refine Wc.seq (fun K6 hK6 => ?_)
          refine Wc.seq (fun K7 hK7 => ?_)
          refine Wc.keep [(1, _), (3, _)] (.cons rfl (.cons rfl (.nil))) ?_
          refine Wc.region ?_
          refine Wl.val rfl rfl rfl (Gives.assign rfl rfl) ?_
          refine Wl.nil ?_
          refine Wx.thenN (hK7 _ _ ?_)
          refine Wc.block ?_
          refine Wc.keep [(1, _), (3, _), (4, _)] (.cons rfl (.cons rfl (.cons rfl (.nil)))) ?_
          refine Wc.loopC (ι := Nat × Int) [(1, _)] (fun | (i, z) => [(4, .int .i64 (i : Int)), (3, .int .i64 z)]) (fun | (i, _), wr => i ≤ bn ∧ Blk wr b1 33 #[.int .i64 q.code, .slice hA hn hc, .slice aA an ac, .slice iA iN ic, .slice bA bn bc] ∧ Ext w wr) (fun | (i, _) => bn - i) ((0, 0)) (.cons (by first | exact rfl | exact look_int rfl (by omega) | exact look_slice rfl (by omega)) (.cons (by first | exact rfl | exact look_int rfl (by omega) | exact look_slice rfl (by omega)) (.cons rfl (.nil)))) (⟨Nat.zero_le _, hb1, hE⟩) ?_
          intro ⟨i, z⟩ wr hJ KL1 hKL1
          clear hb1 hE
          obtain ⟨hi, hb1, hE⟩ := hJ
          refine Wc.seq (fun K8 hK8 => ?_)
          refine Wc.seq (fun K9 hK9 => ?_)
          refine Wc.keep [(1, _), (3, _), (4, _)] (.cons rfl (.cons rfl (.cons rfl (.nil)))) ?_
          refine Wc.region ?_
          refine Wl.val rfl rfl rfl (Gives.move rfl rfl) ?_
          refine Wl.val rfl rfl rfl (Gives.fieldAt 4 rfl Tryd.underlying33 rfl (by kernel_rfl) rfl rfl) ?_
          refine Wl.val rfl rfl rfl (Gives.ldK rfl (by kernel_rfl) rfl hb1 rfl) ?_
          refine Wl.val rfl rfl rfl (Gives.lenS rfl Tryd.underlying31 rfl) ?_
          refine Wl.val rfl rfl rfl (Gives.lss rfl rfl rfl) ?_
          refine Wl.nil ?_
          refine Wx.thenN (hK9 _ _ ?_)
          refine Wc.cond _ rfl (fun h32 => ?_) (fun h32 => ?_)
          · (first | replace h32 := of_decide_eq_true h32 | replace h32 := nd_true h32 | skip)
            refine Wc.skip ?_
            refine Wx.thenN (hK8 _ _ ?_)
            refine Wc.seq (fun K10 hK10 => ?_)
            refine Wc.block ?_
            refine Wc.keep [(1, _), (3, _), (4, _)] (.cons rfl (.cons rfl (.cons rfl (.nil)))) ?_
            obtain ⟨xb, xo, rfl, hbw, x, zA, zn, zc, hz, hcell, hZ⟩ := (hbs.ext hE).at' (show i < bn by omega)
            refine Wc.region ?_
            refine Wl.val rfl rfl rfl (Gives.move rfl rfl) ?_
            refine Wl.val rfl rfl rfl (Gives.fieldAt 4 rfl Tryd.underlying33 rfl (by kernel_rfl) rfl rfl) ?_
            refine Wl.val rfl rfl rfl (Gives.ldK rfl (by kernel_rfl) rfl hb1 rfl) ?_
            refine Wl.val rfl rfl rfl (Gives.move rfl rfl) ?_
            refine Wl.val rfl rfl rfl (Gives.ixS (i := _) rfl Tryd.underlying31 (by kernel_rfl) rfl rfl rfl (by omega)) ?_
            refine Wl.val rfl rfl rfl (Gives.ldC rfl (by kernel_rfl) rfl hcell) ?_
            refine Wl.val rfl rfl rfl (Gives.lenS rfl Tryd.underlying36 rfl) ?_
            refine Wl.val rfl rfl rfl (Gives.add rfl rfl rfl rfl) ?_
            refine Wl.val rfl rfl rfl (Gives.assign rfl rfl) ?_
            refine Wl.nil ?_
            refine Wx.blockN ?_
            refine Wx.thenN (hK10 _ _ ?_)
            refine Wc.keep [(1, _), (3, _), (4, _)] (.cons rfl (.cons rfl (.cons rfl (.nil)))) ?_
            refine Wc.region ?_
            refine Wl.val rfl rfl rfl (Gives.move rfl rfl) ?_
            refine Wl.val rfl rfl rfl (Gives.add rfl rfl rfl (by first | exact IntWalk.i64_in _ (by omega) | exact u64_in _ (by omega) | exact u32_in _ (by omega) | exact u8_in _ (by omega) | exact rfl)) ?_
            refine Wl.val rfl rfl rfl (Gives.assign rfl rfl) ?_
            refine Wl.nil ?_
            refine Wx.thenN ?_
            refine hKL1 (i + 1, _) _ _ (.cons (by first | exact rfl | exact look_int rfl (by omega) | exact look_slice rfl (by omega)) (.cons (by first | exact rfl | exact look_int rfl (by omega) | exact look_slice rfl (by omega)) (.cons rfl (.nil)))) ⟨by omega, hb1, hE⟩ (by show bn - (i + 1) < bn - i; omega)
          · (first | replace h32 := of_decide_eq_false h32 | replace h32 := nd_false h32 | skip)
            refine Wc.exit ?_
            refine Wx.thenE ?_
            refine Wx.thenE ?_
            refine Wx.hit ?_
            refine Wx.thenN (hK6 _ _ ?_)
            refine Wc.seq (fun K11 hK11 => ?_)
            refine Wc.seq (fun K12 hK12 => ?_)
            refine Wc.keep [(1, _), (3, _)] (.cons rfl (.cons rfl (.nil))) ?_
            refine Wc.region ?_
            refine Wl.val rfl rfl rfl (Gives.assign rfl rfl) ?_
            refine Wl.nil ?_
            refine Wx.thenN (hK12 _ _ ?_)
            refine Wc.block ?_
            refine Wc.keep [(1, _), (3, _), (5, _)] (.cons rfl (.cons rfl (.cons rfl (.nil)))) ?_
            refine Wc.loopC (ι := Nat × Int) [(1, _)] (fun | (i, z) => [(5, .int .i64 (i : Int)), (3, .int .i64 z)]) (fun | (i, _), wr => i ≤ an ∧ Blk wr b1 33 #[.int .i64 q.code, .slice hA hn hc, .slice aA an ac, .slice iA iN ic, .slice bA bn bc] ∧ Ext w wr) (fun | (i, _) => an - i) ((0, z)) (.cons (by first | exact rfl | exact look_int rfl (by omega) | exact look_slice rfl (by omega)) (.cons (by first | exact rfl | exact look_int rfl (by omega) | exact look_slice rfl (by omega)) (.cons rfl (.nil)))) (⟨Nat.zero_le _, hb1, hE⟩) ?_
            intro ⟨j, z⟩ wr hJ KL2 hKL2
            clear hb1 hE
            obtain ⟨hj, hb1, hE⟩ := hJ
            refine Wc.seq (fun K13 hK13 => ?_)
            refine Wc.seq (fun K14 hK14 => ?_)
            refine Wc.keep [(1, _), (3, _), (5, _)] (.cons rfl (.cons rfl (.cons rfl (.nil)))) ?_
            refine Wc.region ?_
            refine Wl.val rfl rfl rfl (Gives.move rfl rfl) ?_
            refine Wl.val rfl rfl rfl (Gives.fieldAt 2 rfl Tryd.underlying33 rfl (by kernel_rfl) rfl rfl) ?_
            refine Wl.val rfl rfl rfl (Gives.ldK rfl (by kernel_rfl) rfl hb1 rfl) ?_
            refine Wl.val rfl rfl rfl (Gives.lenS rfl Tryd.underlying30 rfl) ?_
            refine Wl.val rfl rfl rfl (Gives.lss rfl rfl rfl) ?_
            refine Wl.nil ?_
            refine Wx.thenN (hK14 _ _ ?_)
            refine Wc.cond _ rfl (fun h47 => ?_) (fun h47 => ?_)
            · (first | replace h47 := of_decide_eq_true h47 | replace h47 := nd_true h47 | skip)
              refine Wc.skip ?_
              refine Wx.thenN (hK13 _ _ ?_)
              refine Wc.seq (fun K15 hK15 => ?_)
              refine Wc.block ?_
              refine Wc.keep [(1, _), (3, _), (5, _)] (.cons rfl (.cons rfl (.cons rfl (.nil)))) ?_
              obtain ⟨xb, xo, rfl, hbw, a, N, nn, nc, V, vn, vc, ha, hrg, hN0, hV0⟩ := hus.at_ (show j < an by omega)
              refine Wc.regionD (fun _ => true) Eq (.read 0 (.read 1 (.read 2 (.read 3 (.read 4 (.read 5 (.read 6 (.read 7 (.read 8 (.read 9 (.read 10 (.read 11 (.read 12 (.read 13 (.read 14 (.read 15 .tail)))))))))))))))) 16 (by kernel_rfl) (by kernel_rfl) (by kernel_rfl) (fun _ => rfl) (fun _ _ _ h k => h.trans k) Quiet ⟨1, rfl⟩ ?_
              intro w11 hR11
              replace hb1 := hb1.ext hR11.ext
              replace hE := hE.trans hR11.ext
              have hrg2 := rng_ext hrg hbw hE
              refine RunE.readE rfl rfl rfl rfl (Gives.move rfl rfl) ?_
              refine RunE.readE rfl rfl rfl rfl (Gives.fieldAt 2 rfl Tryd.underlying33 rfl (by kernel_rfl) rfl rfl) ?_
              refine RunE.readE rfl rfl rfl rfl (Gives.ldK rfl (by kernel_rfl) rfl hb1 rfl) ?_
              refine RunE.readE rfl rfl rfl rfl (Gives.move rfl rfl) ?_
              refine RunE.readE rfl rfl rfl rfl (Gives.ixSZ (i := _) (sz := 3) rfl Tryd.underlying30 (by kernel_rfl) rfl rfl rfl (by omega)) ?_
              refine RunE.readE rfl rfl rfl rfl (Gives.fieldAt 1 rfl Tryd.underlying38 rfl (by kernel_rfl) rfl rfl) ?_
              refine RunE.readE rfl rfl rfl rfl (Gives.ldC rfl (by kernel_rfl) rfl (hrg2 1 _ rfl)) ?_
              refine RunE.readE rfl rfl rfl rfl (Gives.lenS rfl Tryd.underlying36 rfl) ?_
              refine RunE.readE rfl rfl rfl rfl (Gives.fieldAt 2 rfl Tryd.underlying33 rfl (by kernel_rfl) rfl rfl) ?_
              refine RunE.readE rfl rfl rfl rfl (Gives.ldK rfl (by kernel_rfl) rfl hb1 rfl) ?_
              refine RunE.readE rfl rfl rfl rfl (Gives.move rfl rfl) ?_
              refine RunE.readE rfl rfl rfl rfl (Gives.ixSZ (i := _) (sz := 3) rfl Tryd.underlying30 (by kernel_rfl) rfl rfl rfl (by omega)) ?_
              refine RunE.readE rfl rfl rfl rfl (Gives.fieldAt 2 rfl Tryd.underlying38 rfl (by kernel_rfl) rfl rfl) ?_
              refine RunE.readE rfl rfl rfl rfl (Gives.ldC rfl (by kernel_rfl) rfl (hrg2 2 _ rfl)) ?_
              refine RunE.readE rfl rfl rfl rfl (Gives.lenS rfl Tryd.underlying36 rfl) ?_
              refine RunE.readE rfl rfl rfl rfl (Gives.add rfl rfl rfl rfl) ?_
              refine RunE.tail rfl ?_
              refine Wl.val rfl rfl rfl (Gives.add rfl rfl rfl rfl) ?_
              refine Wl.val rfl rfl rfl (Gives.assign rfl rfl) ?_
              refine Wl.nil ?_
              refine Wx.blockN ?_
              refine Wx.thenN (hK15 _ _ ?_)
              refine Wc.keep [(1, _), (3, _), (5, _)] (.cons rfl (.cons rfl (.cons rfl (.nil)))) ?_
              refine Wc.region ?_
              refine Wl.val rfl rfl rfl (Gives.move rfl rfl) ?_
              refine Wl.val rfl rfl rfl (Gives.add rfl rfl rfl (by first | exact IntWalk.i64_in _ (by omega) | exact u64_in _ (by omega) | exact u32_in _ (by omega) | exact u8_in _ (by omega) | exact rfl)) ?_
              refine Wl.val rfl rfl rfl (Gives.assign rfl rfl) ?_
              refine Wl.nil ?_
              refine Wx.thenN ?_
              refine hKL2 (j + 1, _) _ _ (.cons (by first | exact rfl | exact look_int rfl (by omega) | exact look_slice rfl (by omega)) (.cons (by first | exact rfl | exact look_int rfl (by omega) | exact look_slice rfl (by omega)) (.cons rfl (.nil)))) ⟨by omega, hb1, hE⟩ (by show an - (j + 1) < an - j; omega)
            · (first | replace h47 := of_decide_eq_false h47 | replace h47 := nd_false h47 | skip)
              refine Wc.exit ?_
              refine Wx.thenE ?_
              refine Wx.thenE ?_
              refine Wx.hit ?_
              refine Wx.thenN (hK11 _ _ ?_)
              refine Wc.seq (fun K16 hK16 => ?_)
              refine Wc.keep [(3, _)] (.cons rfl (.nil)) ?_
              refine Wc.region ?_
              refine Wl.val rfl rfl rfl (Gives.move rfl rfl) ?_
              refine Wl.val rfl rfl rfl (Gives.lss rfl rfl rfl) ?_
              refine Wl.val rfl rfl rfl (Gives.assign rfl rfl) ?_
              refine Wl.nil ?_
              refine Wx.thenN (hK16 _ _ ?_)
              refine Wc.ret ?_
              refine Wx.ret [_] ⟨rfl, trivial⟩ ?_
              exact ⟨_, rfl, (fun _ => ⟨by omega, by omega, by omega, by omega⟩), hE⟩
      · (first | replace h22 := of_decide_eq_true h22 | replace h22 := nd_true h22 | skip)
        refine Wl.pass rfl rfl rfl ?_
        refine Wl.pass rfl rfl rfl ?_
        refine Wl.pass rfl rfl rfl ?_
        refine Wl.pass rfl rfl rfl ?_
        refine Wl.val rfl rfl rfl (Gives.pickT rfl rfl rfl rfl) ?_
        refine Wl.nil ?_
        refine Wx.thenN (hK3 _ _ ?_)
        refine Wc.condT rfl rfl ?_
        refine Wc.seq (fun K17 hK17 => ?_)
        refine Wc.keep [] (.nil) ?_
        refine Wc.region ?_
        refine Wl.val rfl rfl rfl (Gives.assign rfl rfl) ?_
        refine Wl.nil ?_
        refine Wx.thenN (hK17 _ _ ?_)
        refine Wc.ret ?_
        refine Wx.thenR ?_
        refine Wx.ret [_] ⟨rfl, trivial⟩ ?_
        exact ⟨false, rfl, (fun h => by cases h), hE⟩
    · (first | replace h16 := of_decide_eq_true h16 | replace h16 := nd_true h16 | skip)
      refine Wl.pass rfl rfl rfl ?_
      refine Wl.pass rfl rfl rfl ?_
      refine Wl.pass rfl rfl rfl ?_
      refine Wl.pass rfl rfl rfl ?_
      refine Wl.val rfl rfl rfl (Gives.pickT rfl rfl rfl rfl) ?_
      refine Wl.val rfl rfl rfl (Gives.move rfl rfl) ?_
      refine Wl.guardF rfl rfl rfl rfl ?_
      refine Wl.pass rfl rfl rfl ?_
      refine Wl.pass rfl rfl rfl ?_
      refine Wl.pass rfl rfl rfl ?_
      refine Wl.pass rfl rfl rfl ?_
      refine Wl.val rfl rfl rfl (Gives.pickT rfl rfl rfl rfl) ?_
      refine Wl.nil ?_
      refine Wx.thenN (hK3 _ _ ?_)
      refine Wc.condT rfl rfl ?_
      refine Wc.seq (fun K18 hK18 => ?_)
      refine Wc.keep [] (.nil) ?_
      refine Wc.region ?_
      refine Wl.val rfl rfl rfl (Gives.assign rfl rfl) ?_
      refine Wl.nil ?_
      refine Wx.thenN (hK18 _ _ ?_)
      refine Wc.ret ?_
      refine Wx.thenR ?_
      refine Wx.ret [_] ⟨rfl, trivial⟩ ?_
      exact ⟨false, rfl, (fun h => by cases h), hE⟩
  · (first | replace h10 := of_decide_eq_true h10 | replace h10 := nd_true h10 | skip)
    refine Wl.pass rfl rfl rfl ?_
    refine Wl.pass rfl rfl rfl ?_
    refine Wl.pass rfl rfl rfl ?_
    refine Wl.pass rfl rfl rfl ?_
    refine Wl.val rfl rfl rfl (Gives.pickT rfl rfl rfl rfl) ?_
    refine Wl.val rfl rfl rfl (Gives.move rfl rfl) ?_
    refine Wl.guardF rfl rfl rfl rfl ?_
    refine Wl.pass rfl rfl rfl ?_
    refine Wl.pass rfl rfl rfl ?_
    refine Wl.pass rfl rfl rfl ?_
    refine Wl.pass rfl rfl rfl ?_
    refine Wl.val rfl rfl rfl (Gives.pickT rfl rfl rfl rfl) ?_
    refine Wl.val rfl rfl rfl (Gives.move rfl rfl) ?_
    refine Wl.guardF rfl rfl rfl rfl ?_
    refine Wl.pass rfl rfl rfl ?_
    refine Wl.pass rfl rfl rfl ?_
    refine Wl.pass rfl rfl rfl ?_
    refine Wl.pass rfl rfl rfl ?_
    refine Wl.val rfl rfl rfl (Gives.pickT rfl rfl rfl rfl) ?_
    refine Wl.nil ?_
    refine Wx.thenN (hK3 _ _ ?_)
    refine Wc.condT rfl rfl ?_
    refine Wc.seq (fun K19 hK19 => ?_)
    refine Wc.keep [] (.nil) ?_
    refine Wc.region ?_
    refine Wl.val rfl rfl rfl (Gives.assign rfl rfl) ?_
    refine Wl.nil ?_
    refine Wx.thenN (hK19 _ _ ?_)
    refine Wc.ret ?_
    refine Wx.thenR ?_
    refine Wx.ret [_] ⟨rfl, trivial⟩ ?_
    exact ⟨false, rfl, (fun h => by cases h), hE⟩
end Go.Proofs.YtaekpiejdgahfaaDoor
