/- Responses: how they lie in memory; writing, comparing. -/
import Derived.Test.YtaekpiejdgahfaaDoorCmdRS
import Derived.Test.YtaekpiejdgahfaaDoorCmdF
import Derived.Test.YtaekpiejdgahfaaDoorOwnW
import Derived.Test.YtaekpiejdgahfaaDoorVc6
namespace Go.Proofs.YtaekpiejdgahfaaDoor
set_option linter.all false
open Go.RowKit
structure RB where
  iA : Option Addr
  iN : Nat
  ic : Nat
  bA : Option Addr
  bn : Nat
  bc : Nat
  nA : Option Addr
  nn : Nat
  nc : Nat
def RB.nil : RB := ⟨none, 0, 0, none, 0, 0, none, 0, 0⟩
structure RspV (w : World) (P : Nat → Prop) (x : Rsp) (r : RB) : Prop where
  is : IV w P r.iA r.iN r.ic x.is
  bs : BL w P r.bA r.bn r.bc x.bs
  ns : BL w P r.nA r.nn r.nc x.ns
theorem RspV.fr {w w' : World} {P : Nat → Prop} {x : Rsp} {r : RB} (h : RspV w P x r) (e : Fr P w w') : RspV w' P x r := ⟨h.is.fr e, h.bs.fr e, h.ns.fr e⟩
theorem RspV.ext {w w' : World} {P : Nat → Prop} {x : Rsp} {r : RB} (h : RspV w P x r) (e : Ext w w') : RspV w' P x r := h.fr e.fr
theorem RspV.mono {w : World} {P P' : Nat → Prop} {x : Rsp} {r : RB} (h : RspV w P x r) (hp : ∀ k, P k → P' k) : RspV w P' x r := ⟨h.is.mono hp, h.bs.mono hp, h.ns.mono hp⟩
theorem RspV.zero (w : World) (P : Nat → Prop) : RspV w P zeroR RB.nil := ⟨IV.nil_ w P, BL.nil_ w P, BL.nil_ w P⟩
section
variable {P : Program} {n : Nat} {e : Env} {w : World} {o : Oper} {x y : Operand} {t el : TypeId} {S : Nat → Prop} {A : Option Addr} {m c : Nat} {l r : List UInt8}
/-- bytes onto a row of the call's own; what lies elsewhere stays -/
theorem Does.appO' {base : Nat} {B : Option Addr} {p sc : Nat} (ho : o.op = .call { callee := .builtin .append, args := #[x, y], argTypes := #[t, t] }) (ht : P.underlying t = some (.slice el)) (hinf : (P.info? el).map (fun i => (i.zero, i.size, i.bytes)) = some (some (.int .u8 0), 1, 1))
    (hx : ev e x = some (.slice B p sc)) (hy : ev e y = some (.slice A m c)) (hown : OB w base el B p sc l) (hr : BV w S A m c r) (hbytes : p + m ≤ 140737488355328) (hb : base ≤ w.heap.size) :
    Does P n o e w (fun v w' => ∃ B' sc', v = .slice B' (p + m) sc' ∧ OB w' base el B' (p + m) sc' (l ++ r) ∧ Below base w w' ∧ Fr (NOwn w (fun _ => True) (.slice B p sc)) w w' ∧ ∀ k, NOwn w (fun _ => True) (.slice B p sc) k → NOwn w' (fun _ => True) (.slice B' (p + m) sc') k) := by
  refine (Does.appX ho ht hinf rfl (by decide) hx hy hown hr (u8s_one r) (by omega) (by decide) hb).mono ?_
  rintro v w' ⟨B', sc', rfl, h1, h2, h3, h4⟩
  exact ⟨B', sc', rfl, by unfold OB; rw [← u8s_append]; exact h1, h2, h3, h4⟩
end
theorem infoLL : (Tryd.prog.info? 31).map (fun i => (i.zero, i.size)) = some (some (.slice none 0 0), 1) := by kernel_rfl
set_option maxRecDepth 10000 in
theorem sameR_calls {P P' : Nat → Prop} (w : World) (x : Rsp) (r r' : RB) (hx : RspV w P x r) (hx' : RspV w P' x r') :
    Calls Tryd.prog 28 #[.agg #[.int .i64 x.err, .slice r.iA r.iN r.ic, .slice r.bA r.bn r.bc, .slice r.nA r.nn r.nc], .agg #[.int .i64 x.err, .slice r'.iA r'.iN r'.ic, .slice r'.bA r'.bn r'.bc, .slice r'.nA r'.nn r'.nc]] w fun e w' => e = .returned (.bool true) ∧ Ext w w' := by
  refine calls_enter Tryd.func28 rfl Tryd.ntmps28 rfl ?_
  have hE : Ext w w := Ext.refl w
  refine Wc.seq (fun K1 hK1 => ?_)
  refine Wc.keep [(0, _), (1, _)] (.cons rfl (.cons rfl (.nil))) ?_
  refine Wc.region ?_
  refine Wl.does rfl rfl rfl (Does.boxA rfl rfl) ?_
  rintro _ w0_0 ⟨b2, rfl, hs2, hb2, hx0_0⟩
  have hg2 : w.heap.size ≤ b2 := Nat.le_trans hE.size hs2
  replace hE := hE.trans hx0_0
  refine Wl.does rfl rfl rfl (Does.boxA rfl rfl) ?_
  rintro _ w0_1 ⟨b3, rfl, hs3, hb3, hx0_1⟩
  have hn2_3 : b2 ≠ b3 := hb2.ne hs3
  have hg3 : w.heap.size ≤ b3 := Nat.le_trans hE.size hs3
  replace hb2 := hb2.ext hx0_1
  replace hE := hE.trans hx0_1
  refine Wl.val rfl rfl rfl (Gives.assign rfl rfl) ?_
  refine Wl.nil ?_
  refine Wx.thenN (hK1 _ _ ?_)
  refine Wc.seq (fun K2 hK2 => ?_)
  refine Wc.keep [(2, _), (3, _)] (.cons rfl (.cons rfl (.nil))) ?_
  refine Wc.region ?_
  refine Wl.val rfl rfl rfl (Gives.fieldAt 0 rfl Tryd.underlying54 rfl (by kernel_rfl) rfl rfl) ?_
  refine Wl.val rfl rfl rfl (Gives.ldK rfl (by kernel_rfl) rfl hb2 rfl) ?_
  refine Wl.val rfl rfl rfl (Gives.fieldAt 0 rfl Tryd.underlying54 rfl (by kernel_rfl) rfl rfl) ?_
  refine Wl.val rfl rfl rfl (Gives.ldK rfl (by kernel_rfl) rfl hb3 rfl) ?_
  refine Wl.val rfl rfl rfl (Gives.eql rfl rfl rfl) ?_
  refine Wl.val rfl rfl rfl (Gives.move rfl rfl) ?_
  refine Wl.guardT rfl rfl rfl (by simp) ?_
  refine Wl.val rfl rfl rfl (Gives.fieldAt 1 rfl Tryd.underlying54 rfl (by kernel_rfl) rfl rfl) ?_
  refine Wl.val rfl rfl rfl (Gives.ldK rfl (by kernel_rfl) rfl hb2 rfl) ?_
  refine Wl.val rfl rfl rfl (Gives.fieldAt 1 rfl Tryd.underlying54 rfl (by kernel_rfl) rfl rfl) ?_
  refine Wl.val rfl rfl rfl (Gives.ldK rfl (by kernel_rfl) rfl hb3 rfl) ?_
  refine Wl.call rfl rfl rfl rfl Tryd.func45 rfl (by kernel_rfl) rfl (intsC_calls _ _ _ _ _ _ _ _ _ (hx.is.ext hE) (hx'.is.ext hE)) ?_
  rintro x1 w11 ⟨rfl, hQ1⟩
  refine ⟨_, rfl, ?_⟩
  have hx1 := hQ1.ext
  replace hb2 := hb2.ext hx1
  replace hb3 := hb3.ext hx1
  replace hE := hE.trans hx1
  refine Wl.val rfl rfl rfl (Gives.pickT rfl rfl rfl rfl) ?_
  refine Wl.val rfl rfl rfl (Gives.move rfl rfl) ?_
  refine Wl.guardT rfl rfl rfl (by simp) ?_
  refine Wl.val rfl rfl rfl (Gives.fieldAt 2 rfl Tryd.underlying54 rfl (by kernel_rfl) rfl rfl) ?_
  refine Wl.val rfl rfl rfl (Gives.ldK rfl (by kernel_rfl) rfl hb2 rfl) ?_
  refine Wl.val rfl rfl rfl (Gives.fieldAt 2 rfl Tryd.underlying54 rfl (by kernel_rfl) rfl rfl) ?_
  refine Wl.val rfl rfl rfl (Gives.ldK rfl (by kernel_rfl) rfl hb3 rfl) ?_
  refine Wl.call rfl rfl rfl rfl Tryd.func46 rfl (by kernel_rfl) rfl (lists_calls _ _ _ _ _ _ _ _ _ (hx.bs.ext hE) (hx'.bs.ext hE)) ?_
  rintro x2 w12 ⟨rfl, hQ2⟩
  refine ⟨_, rfl, ?_⟩
  have hx2 := hQ2.ext
  replace hb2 := hb2.ext hx2
  replace hb3 := hb3.ext hx2
  replace hE := hE.trans hx2
  refine Wl.val rfl rfl rfl (Gives.pickT rfl rfl rfl rfl) ?_
  refine Wl.val rfl rfl rfl (Gives.move rfl rfl) ?_
  refine Wl.guardT rfl rfl rfl (by simp) ?_
  refine Wl.val rfl rfl rfl (Gives.fieldAt 3 rfl Tryd.underlying54 rfl (by kernel_rfl) rfl rfl) ?_
  refine Wl.val rfl rfl rfl (Gives.ldK rfl (by kernel_rfl) rfl hb2 rfl) ?_
  refine Wl.val rfl rfl rfl (Gives.fieldAt 3 rfl Tryd.underlying54 rfl (by kernel_rfl) rfl rfl) ?_
  refine Wl.val rfl rfl rfl (Gives.ldK rfl (by kernel_rfl) rfl hb3 rfl) ?_
  refine Wl.call rfl rfl rfl rfl Tryd.func46 rfl (by kernel_rfl) rfl (lists_calls _ _ _ _ _ _ _ _ _ (hx.ns.ext hE) (hx'.ns.ext hE)) ?_
  rintro x3 w13 ⟨rfl, hQ3⟩
  refine ⟨_, rfl, ?_⟩
  have hx3 := hQ3.ext
  replace hb2 := hb2.ext hx3
  replace hb3 := hb3.ext hx3
  replace hE := hE.trans hx3
  refine Wl.val rfl rfl rfl (Gives.pickT rfl rfl rfl rfl) ?_
  refine Wl.val rfl rfl rfl (Gives.assign rfl rfl) ?_
  refine Wl.nil ?_
  refine Wx.thenN (hK2 _ _ ?_)
  refine Wc.ret ?_
  refine Wx.ret [_] ⟨rfl, trivial⟩ ?_
  exact ⟨rb (by simp), hE⟩
theorem fold2 {α : Type} (f : List UInt8 → α → List UInt8) (b : List UInt8) (l : List α) (i : Nat) (x : α) (h : l[i]? = some x) : (l.take (i + 1)).foldl f b = f ((l.take i).foldl f b) x := fold_take f b l i x h
set_option maxHeartbeats 1000000 in
set_option maxRecDepth 10000 in
theorem encRespP_calls {P : Nat → Prop} (w : World) (x : Rsp) (r : RB) (hx : RspV w P x r) (hsm : SmallR x) :
    Calls Tryd.prog 29 #[.agg #[.int .i64 x.err, .slice r.iA r.iN r.ic, .slice r.bA r.bn r.bc, .slice r.nA r.nn r.nc]] w fun e w' => ∃ S m c, e = .returned (.slice S m c) ∧ OB w' w.heap.size 5 S m c (respS x) ∧ Ext w w' := by
  obtain ⟨iA, iN, ic, bA, bn, bc, nA, nn, nc⟩ := r
  have his : IV w P iA iN ic x.is := hx.is
  have hbs : BL w P bA bn bc x.bs := hx.bs
  have hns : BL w P nA nn nc x.ns := hx.ns
  have hli := his.len
  have hlb := hbs.len
  have hln := hns.len
  clear hx
  obtain ⟨hs1, hs2, hs3, hs4, hs5⟩ := hsm
  show Calls Tryd.prog _ #[.agg #[.int .i64 x.err, .slice iA iN ic, .slice bA bn bc, .slice nA nn nc]] w _
  refine calls_enter Tryd.func29 rfl Tryd.ntmps29 rfl ?_
  have hE : Ext w w := Ext.refl w
  refine Wc.seq (fun K1 hK1 => ?_)
  refine Wc.keep [(0, _)] (.cons rfl (.nil)) ?_
  refine Wc.region ?_
  refine Wl.does rfl rfl rfl (Does.boxA rfl rfl) ?_
  rintro _ w0_0 ⟨b1, rfl, hs1, hb1, hx0_0⟩
  have hg1 : w.heap.size ≤ b1 := Nat.le_trans hE.size hs1
  replace hE := hE.trans hx0_0
  refine Wl.val rfl rfl rfl (Gives.assign rfl rfl) ?_
  refine Wl.nil ?_
  refine Wx.thenN (hK1 _ _ ?_)
  refine Wc.seq (fun K2 hK2 => ?_)
  refine Wc.keep [(1, _)] (.cons rfl (.nil)) ?_
  refine Wc.region ?_
  refine Wl.val rfl rfl rfl (Gives.fieldAt 0 rfl Tryd.underlying54 rfl (by kernel_rfl) rfl rfl) ?_
  refine Wl.val rfl rfl rfl (Gives.ldK rfl (by kernel_rfl) rfl hb1 rfl) ?_
  refine Wl.val rfl rfl rfl (Gives.conv rfl Tryd.underlying40 Tryd.underlying5 rfl (byteOf_int _)) ?_
  refine Wl.does rfl rfl rfl (Does.lit rfl Tryd.underlying36 infoB2 rfl rfl rfl rfl rfl) ?_
  rintro _ w1 ⟨g1, rfl, hs1', hk1, hx1⟩
  have hM1 : MB w1 g1 5 [byteOf x.err] := mb1 (byteOf x.err) hk1 rfl
  have hO := MB.ob hM1 (base := b1 + 1) (Nat.le_trans hb1.lt hs1') (n := 1) (c := 1) rfl (Nat.le_refl _) rfl (by omega)
  replace hb1 := hb1.ext hx1
  replace hE := hE.trans hx1
  refine Wl.val rfl rfl rfl (Gives.assign rfl rfl) ?_
  refine Wl.nil ?_
  refine Wx.thenN (hK2 _ _ ?_)
  refine Wc.seq (fun K3 hK3 => ?_)
  refine Wc.seq (fun K4 hK4 => ?_)
  refine Wc.keep [(1, _), (3, _)] (.cons rfl (.cons rfl (.nil))) ?_
  refine Wc.region ?_
  refine Wl.val rfl rfl rfl (Gives.fieldAt 0 rfl Tryd.underlying54 rfl (by kernel_rfl) rfl rfl) ?_
  refine Wl.val rfl rfl rfl (Gives.ldK rfl (by kernel_rfl) rfl hb1 rfl) ?_
  refine Wl.val rfl rfl rfl (Gives.neq rfl rfl rfl) ?_
  refine Wl.nil ?_
  refine Wx.thenN (hK4 _ _ ?_)
  refine Wc.cond _ rfl (fun h16 => ?_) (fun h16 => ?_)
  · (first | replace h16 := of_decide_eq_true h16 | replace h16 := nd_true h16 | skip)
    refine Wc.seq (fun K5 hK5 => ?_)
    refine Wc.keep [(3, _)] (.cons rfl (.nil)) ?_
    refine Wc.region ?_
    refine Wl.val rfl rfl rfl (Gives.move rfl rfl) ?_
    refine Wl.val rfl rfl rfl (Gives.assign rfl rfl) ?_
    refine Wl.nil ?_
    refine Wx.thenN (hK5 _ _ ?_)
    refine Wc.ret ?_
    refine Wx.thenR ?_
    refine Wx.ret [_] ⟨rfl, trivial⟩ ?_
    exact ⟨_, _, _, rfl, by unfold respS; rw [if_neg h16]; exact hO.mono (Nat.le_succ_of_le hg1), hE⟩
  · (first | replace h16 := of_decide_eq_false h16 | replace h16 := nd_false h16 | skip)
    refine Wc.skip ?_
    refine Wx.thenN (hK3 _ _ ?_)
    refine Wc.seq (fun K6 hK6 => ?_)
    refine Wc.keep [(1, _), (3, _)] (.cons rfl (.cons rfl (.nil))) ?_
    refine Wc.region ?_
    refine Wl.val rfl rfl rfl (Gives.move rfl rfl) ?_
    refine Wl.val rfl rfl rfl (Gives.fieldAt 1 rfl Tryd.underlying54 rfl (by kernel_rfl) rfl rfl) ?_
    refine Wl.val rfl rfl rfl (Gives.ldK rfl (by kernel_rfl) rfl hb1 rfl) ?_
    refine Wl.val rfl rfl rfl (Gives.lenS rfl Tryd.underlying29 rfl) ?_
    refine Wl.val rfl rfl rfl (Gives.conv rfl Tryd.underlying3 Tryd.underlying5 rfl (byteOf_int _)) ?_
    refine Wl.does rfl rfl rfl (Does.lit rfl Tryd.underlying36 infoB2 rfl rfl rfl rfl rfl) ?_
    rintro _ w45 ⟨g45, rfl, hs45, hk45, hx45⟩
    have hO2 := hO.ext hx45
    replace hb1 := hb1.ext hx45
    replace hE := hE.trans hx45
    refine Wl.does rfl rfl rfl (Does.appO rfl Tryd.underlying36 infoB rfl rfl hO2 ((mb1 (byteOf (iN : Int)) hk45 rfl).bv (P := fun _ => True) trivial rfl (Nat.le_refl _) (by omega)) (by omega) hb1.lt) ?_
    rintro _ w46 ⟨S4, c4, rfl, hO4, hB4⟩
    replace hE := Ext.step hE hB4 (Nat.le_succ_of_le hg1)
    replace hb1 := Blk.bel hb1 hB4 (Nat.lt_succ_self _)
    have hB0 : [byteOf x.err] ++ [byteOf (iN : Int)] = [byteOf x.err] ++ [byteOf x.is.length] := by rw [hli]
    rw [hB0] at hO4
    generalize hBq : [byteOf x.err] ++ [byteOf (x.is.length : Int)] = B0 at *
    refine Wl.val rfl rfl rfl (Gives.assign rfl rfl) ?_
    refine Wl.nil ?_
    refine Wx.thenN (hK6 _ _ ?_)
    refine Wc.seq (fun K7 hK7 => ?_)
    refine Wc.seq (fun K8 hK8 => ?_)
    refine Wc.keep [(1, _), (3, _)] (.cons rfl (.cons rfl (.nil))) ?_
    refine Wc.region ?_
    refine Wl.val rfl rfl rfl (Gives.fieldAt 1 rfl Tryd.underlying54 rfl (by kernel_rfl) rfl rfl) ?_
    refine Wl.val rfl rfl rfl (Gives.ldK rfl (by kernel_rfl) rfl hb1 rfl) ?_
    refine Wl.val rfl rfl rfl (Gives.lenS rfl Tryd.underlying29 rfl) ?_
    refine Wl.val rfl rfl rfl (Gives.move rfl rfl) ?_
    refine Wl.nil ?_
    refine Wx.thenN (hK8 _ _ ?_)
    refine Wc.block ?_
    refine Wc.keep [(1, _), (3, _), (26, _), (27, _), (28, _)] (.cons rfl (.cons rfl (.cons rfl (.cons rfl (.cons rfl (.nil)))))) ?_
    refine Wc.loopC (ι := Nat × Option Addr × Nat × Nat) [(1, _), (26, _), (27, _)] (fun | (i, S, m, c) => [(28, .int .i64 (i : Int)), (3, .slice S m c)]) (fun | (i, S, m, c), wr => i ≤ iN ∧ m ≤ 2 + 8 * i ∧ OB wr (b1 + 1) 5 S m c (intsS B0 (x.is.take i)) ∧ Blk wr b1 54 #[.int .i64 x.err, .slice iA iN ic, .slice bA bn bc, .slice nA nn nc] ∧ Ext w wr) (fun | (i, _, _, _) => iN - i) ((0, S4, 1 + 1, c4)) (.cons (by first | exact rfl | exact look_int rfl (by omega) | exact look_slice rfl (by omega)) (.cons (by first | exact rfl | exact look_int rfl (by omega) | exact look_slice rfl (by omega)) (.cons rfl (.cons rfl (.cons rfl (.nil)))))) (⟨Nat.zero_le _, by omega, hO4, hb1, hE⟩) ?_
    intro ⟨i, S, m, c⟩ wr hJ KL1 hKL1
    clear hb1 hE hO4
    obtain ⟨hi, hm, hO, hb1, hE⟩ := hJ
    refine Wc.seq (fun K9 hK9 => ?_)
    refine Wc.keep [(1, _), (3, _), (26, _), (27, _), (28, _)] (.cons rfl (.cons rfl (.cons rfl (.cons rfl (.cons rfl (.nil)))))) ?_
    refine Wc.region ?_
    refine Wl.val rfl rfl rfl (Gives.lss rfl rfl rfl) ?_
    refine Wl.nil ?_
    refine Wx.thenN (hK9 _ _ ?_)
    refine Wc.seq (fun K10 hK10 => ?_)
    refine Wc.cond _ rfl (fun h29 => ?_) (fun h29 => ?_)
    · (first | replace h29 := of_decide_eq_true h29 | replace h29 := nd_true h29 | skip)
      refine Wc.skip ?_
      refine Wx.thenN (hK10 _ _ ?_)
      refine Wc.seq (fun K11 hK11 => ?_)
      refine Wc.block ?_
      refine Wc.seq (fun K12 hK12 => ?_)
      refine Wc.keep [(1, _), (3, _), (26, _), (27, _), (28, _)] (.cons rfl (.cons rfl (.cons rfl (.cons rfl (.cons rfl (.nil)))))) ?_
      obtain ⟨xb, xo, rfl, hbw, z, hz, hcell⟩ := (his.ext hE).at_ (show i < iN by omega)
      refine Wc.region ?_
      refine Wl.val rfl rfl rfl (Gives.ixS (i := _) rfl Tryd.underlying29 (by kernel_rfl) rfl rfl rfl (by omega)) ?_
      refine Wl.val rfl rfl rfl (Gives.ldC rfl (by kernel_rfl) rfl hcell) ?_
      refine Wl.val rfl rfl rfl (Gives.assign rfl rfl) ?_
      refine Wl.nil ?_
      refine Wx.thenN (hK12 _ _ ?_)
      refine Wc.keep [(1, _), (3, _), (5, _), (26, _), (27, _), (28, _)] (.cons rfl (.cons rfl (.cons rfl (.cons rfl (.cons rfl (.cons rfl (.nil))))))) ?_
      refine Wc.region ?_
      refine Wl.val rfl rfl rfl (Gives.move rfl rfl) ?_
      refine Wl.val rfl rfl rfl (Gives.move rfl rfl) ?_
      refine Wl.call rfl rfl rfl rfl Tryd.func54 rfl (by kernel_rfl) rfl (uint_calls (P := fun _ => True) _ S m c _ (hO.bv (fun _ _ => trivial)) (by omega) 8 z) ?_
      rintro x1 w15 ⟨S1, m1, c1, rfl, hO1, hx1⟩
      refine ⟨_, rfl, ?_⟩
      replace hO1 := hO1.mono hb1.lt
      have hl0 := hO.len
      have hl1 := hO1.len
      have hl2 := uintS_len (intsS B0 (x.is.take i)) 8 z
      replace hb1 := hb1.ext hx1
      replace hE := hE.trans hx1
      refine Wl.val rfl rfl rfl (Gives.assign rfl rfl) ?_
      refine Wl.nil ?_
      refine Wx.blockN ?_
      refine Wx.thenN (hK11 _ _ ?_)
      refine Wc.keep [(1, _), (3, _), (26, _), (27, _), (28, _)] (.cons rfl (.cons rfl (.cons rfl (.cons rfl (.cons rfl (.nil)))))) ?_
      refine Wc.region ?_
      refine Wl.val rfl rfl rfl (Gives.add rfl rfl rfl (by first | exact IntWalk.i64_in _ (by omega) | exact u64_in _ (by omega) | exact u32_in _ (by omega) | exact u8_in _ (by omega) | exact rfl)) ?_
      refine Wl.val rfl rfl rfl (Gives.move rfl rfl) ?_
      refine Wl.nil ?_
      refine Wx.thenN ?_
      refine hKL1 (i + 1, S1, m1, c1) _ _ (.cons (by first | exact rfl | exact look_int rfl (by omega) | exact look_slice rfl (by omega)) (.cons (by first | exact rfl | exact look_int rfl (by omega) | exact look_slice rfl (by omega)) (.cons rfl (.cons rfl (.cons rfl (.nil)))))) ⟨by omega, by omega, by unfold intsS at hO1 ⊢; rw [fold_take _ _ _ _ _ hz]; exact hO1, hb1, hE⟩ (by show iN - (i + 1) < iN - i; omega)
    · (first | replace h29 := of_decide_eq_false h29 | replace h29 := nd_false h29 | skip)
      refine Wc.exit ?_
      refine Wx.thenE ?_
      refine Wx.thenE ?_
      refine Wx.hit ?_
      refine Wx.thenN (hK7 _ _ ?_)
      refine Wc.seq (fun K13 hK13 => ?_)
      refine Wc.seq (fun K14 hK14 => ?_)
      refine Wc.keep [(1, _), (3, _)] (.cons rfl (.cons rfl (.nil))) ?_
      obtain rfl : iN = i := by omega
      unfold intsS at hO
      rw [fold_all _ _ _ _ hli] at hO
      have hOI : OB wr (b1 + 1) 5 S m c (respI x) := by unfold respI intsS; rw [hBq]; exact hO
      clear hO
      refine Wc.region ?_
      refine Wl.val rfl rfl rfl (Gives.fieldAt 2 rfl Tryd.underlying54 rfl (by kernel_rfl) rfl rfl) ?_
      refine Wl.val rfl rfl rfl (Gives.ldK rfl (by kernel_rfl) rfl hb1 rfl) ?_
      refine Wl.val rfl rfl rfl (Gives.fieldAt 3 rfl Tryd.underlying54 rfl (by kernel_rfl) rfl rfl) ?_
      refine Wl.val rfl rfl rfl (Gives.ldK rfl (by kernel_rfl) rfl hb1 rfl) ?_
      refine Wl.does rfl rfl rfl (Does.lit rfl Tryd.underlying89 infoLL rfl rfl rfl rfl rfl) ?_
      rintro _ w104 ⟨b40, rfl, hs40, hb40, hx104⟩
      have hne0 : Value.ownBlock (.slice S m c) ≠ some b40 := fun he => by have := (own_lt hOI b40 he).2; omega
      have hO2 := hOI.ext hx104
      have hn1_40 : b1 ≠ b40 := hb1.ne hs40
      replace hb1 := hb1.ext hx104
      replace hE := hE.trans hx104
      refine Wl.val rfl rfl rfl (Gives.lenS rfl Tryd.underlying89 rfl) ?_
      refine Wl.val rfl rfl rfl (Gives.move rfl rfl) ?_
      refine Wl.nil ?_
      refine Wx.thenN (hK14 _ _ ?_)
      refine Wc.block ?_
      refine Wc.keep [(3, _), (40, _), (41, _), (42, _)] (.cons rfl (.cons rfl (.cons rfl (.cons rfl (.nil))))) ?_
      refine Wc.loopC (ι := Nat × Option Addr × Nat × Nat) [(40, _), (41, _)] (fun | (j, S, m, c) => [(42, .int .i64 (j : Int)), (3, .slice S m c)]) (fun | (j, S, m, c), wr => j ≤ 2 ∧ m ≤ 8002 + 65543001 * j ∧ OB wr (b1 + 1) 5 S m c (([x.bs, x.ns].take j).foldl listS (respI x)) ∧ Value.ownBlock (.slice S m c) ≠ some b40 ∧ Blk wr b1 54 #[.int .i64 x.err, .slice iA iN ic, .slice bA bn bc, .slice nA nn nc] ∧ Blk wr b40 31 #[.slice bA bn bc, .slice nA nn nc] ∧ Ext w wr) (fun | (j, _, _, _) => 2 - j) ((0, S, m, c)) (.cons (by first | exact rfl | exact look_int rfl (by omega) | exact look_slice rfl (by omega)) (.cons (by first | exact rfl | exact look_int rfl (by omega) | exact look_slice rfl (by omega)) (.cons rfl (.cons rfl (.nil))))) (⟨by omega, by omega, hO2, hne0, hb1, hb40, hE⟩) ?_
      intro ⟨j, S, m, c⟩ wr2 hJ KL2 hKL2
      clear hb1 hE hb40
      obtain ⟨hj, hm2, hO, hne, hb1, hb40, hE⟩ := hJ
      refine Wc.seq (fun K15 hK15 => ?_)
      refine Wc.keep [(3, _), (40, _), (41, _), (42, _)] (.cons rfl (.cons rfl (.cons rfl (.cons rfl (.nil))))) ?_
      refine Wc.region ?_
      refine Wl.val rfl rfl rfl (Gives.lss rfl rfl rfl) ?_
      refine Wl.nil ?_
      refine Wx.thenN (hK15 _ _ ?_)
      refine Wc.seq (fun K16 hK16 => ?_)
      refine Wc.cond _ rfl (fun h43 => ?_) (fun h43 => ?_)
      · (first | replace h43 := of_decide_eq_true h43 | replace h43 := nd_true h43 | skip)
        refine Wc.skip ?_
        refine Wx.thenN (hK16 _ _ ?_)
        refine Wc.seq (fun K17 hK17 => ?_)
        refine Wc.block ?_
        refine Wc.seq (fun K18 hK18 => ?_)
        refine Wc.keep [(3, _), (40, _), (41, _), (42, _)] (.cons rfl (.cons rfl (.cons rfl (.cons rfl (.nil))))) ?_
        obtain ⟨ls, lA, ln, lc, hls, hcell, hLL, hlc, hlw⟩ : ∃ ls A n c, [x.bs, x.ns][j]? = some ls ∧ wr2.cell? ⟨b40, 0 + j, none⟩ = some (.slice A n c) ∧ BL w P A n c ls ∧ ls.length ≤ 1000 ∧ ∀ l ∈ ls, l.length ≤ 100000 := by
          rcases (show j = 0 ∨ j = 1 by omega) with rfl | rfl
          · exact ⟨x.bs, bA, bn, bc, rfl, (hb40.cell _).trans rfl, hbs, hs2, hs4⟩
          · exact ⟨x.ns, nA, nn, nc, rfl, (hb40.cell _).trans rfl, hns, hs3, hs5⟩
        have hlll := hLL.len
        refine Wc.region ?_
        refine Wl.val rfl rfl rfl (Gives.ixS (i := _) rfl Tryd.underlying89 (by kernel_rfl) rfl rfl rfl (by omega)) ?_
        refine Wl.val rfl rfl rfl (Gives.ldC rfl (by kernel_rfl) rfl hcell) ?_
        refine Wl.val rfl rfl rfl (Gives.assign rfl rfl) ?_
        refine Wl.nil ?_
        refine Wx.thenN (hK18 _ _ ?_)
        refine Wc.seq (fun K19 hK19 => ?_)
        refine Wc.keep [(3, _), (7, _), (40, _), (41, _), (42, _)] (.cons rfl (.cons rfl (.cons rfl (.cons rfl (.cons rfl (.nil)))))) ?_
        refine Wc.region ?_
        refine Wl.val rfl rfl rfl (Gives.move rfl rfl) ?_
        refine Wl.val rfl rfl rfl (Gives.move rfl rfl) ?_
        refine Wl.val rfl rfl rfl (Gives.lenS rfl Tryd.underlying31 rfl) ?_
        refine Wl.val rfl rfl rfl (Gives.conv rfl Tryd.underlying3 Tryd.underlying5 rfl (byteOf_int _)) ?_
        refine Wl.does rfl rfl rfl (Does.lit rfl Tryd.underlying36 infoB2 rfl rfl rfl rfl rfl) ?_
        rintro _ w134 ⟨g134, rfl, hs134, hk134, hx134⟩
        have hO2 := hO.ext hx134
        have h40lt : b40 < wr2.heap.size := hb40.lt
        replace hb1 := hb1.ext hx134
        replace hb40 := hb40.ext hx134
        replace hE := hE.trans hx134
        refine Wl.does rfl rfl rfl (Does.appO' rfl Tryd.underlying36 infoB rfl rfl hO2 ((mb1 (byteOf (ln : Int)) hk134 rfl).bv (P := fun _ => True) trivial rfl (Nat.le_refl _) (by omega)) (by omega) hb1.lt) ?_
        rintro _ w135 ⟨S5, c5, rfl, hO5, hB5, hF5, hN5⟩
        replace hE := Ext.step hE hB5 (Nat.le_succ_of_le hg1)
        replace hb1 := Blk.bel hb1 hB5 (Nat.lt_succ_self _)
        have hno := hN5 b40 ⟨trivial, hb40.lt, hne⟩
        have hne5 := hno.2.2
        replace hb40 := hb40.fr hF5 ⟨trivial, hb40.lt, hne⟩
        have hB1 : ([x.bs, x.ns].take j).foldl listS (respI x) ++ [byteOf (ln : Int)] = ([x.bs, x.ns].take j).foldl listS (respI x) ++ [byteOf ls.length] := by rw [hlll]
        rw [hB1] at hO5
        generalize hBr : ([x.bs, x.ns].take j).foldl listS (respI x) ++ [byteOf (ls.length : Int)] = B5 at *
        refine Wl.val rfl rfl rfl (Gives.assign rfl rfl) ?_
        refine Wl.nil ?_
        refine Wx.thenN (hK19 _ _ ?_)
        refine Wc.seq (fun K20 hK20 => ?_)
        refine Wc.keep [(3, _), (7, _), (40, _), (41, _), (42, _)] (.cons rfl (.cons rfl (.cons rfl (.cons rfl (.cons rfl (.nil)))))) ?_
        refine Wc.region ?_
        refine Wl.val rfl rfl rfl (Gives.move rfl rfl) ?_
        refine Wl.val rfl rfl rfl (Gives.lenS rfl Tryd.underlying31 rfl) ?_
        refine Wl.val rfl rfl rfl (Gives.move rfl rfl) ?_
        refine Wl.nil ?_
        refine Wx.thenN (hK20 _ _ ?_)
        refine Wc.block ?_
        refine Wc.keep [(3, _), (40, _), (41, _), (42, _), (52, _), (53, _), (54, _)] (.cons rfl (.cons rfl (.cons rfl (.cons rfl (.cons rfl (.cons rfl (.cons rfl (.nil)))))))) ?_
        refine Wc.loopC (ι := Nat × Option Addr × Nat × Nat) [(40, _), (41, _), (42, _), (52, _), (53, _)] (fun | (i, S, m, c) => [(54, .int .i64 (i : Int)), (3, .slice S m c)]) (fun | (i, S, m', c), wr => i ≤ ln ∧ m' ≤ m + 1 + 65543 * i ∧ OB wr (b1 + 1) 5 S m' c (blobsS B5 (ls.take i)) ∧ Value.ownBlock (.slice S m' c) ≠ some b40 ∧ Blk wr b1 54 #[.int .i64 x.err, .slice iA iN ic, .slice bA bn bc, .slice nA nn nc] ∧ Blk wr b40 31 #[.slice bA bn bc, .slice nA nn nc] ∧ Ext w wr) (fun | (i, _, _, _) => ln - i) ((0, S5, m + 1, c5)) (.cons (by first | exact rfl | exact look_int rfl (by omega) | exact look_slice rfl (by omega)) (.cons (by first | exact rfl | exact look_int rfl (by omega) | exact look_slice rfl (by omega)) (.cons rfl (.cons rfl (.cons rfl (.cons rfl (.cons rfl (.nil)))))))) (⟨Nat.zero_le _, by omega, hO5, hne5, hb1, hb40, hE⟩) ?_
        intro ⟨i, S, m', c⟩ wr3 hJ KL3 hKL3
        clear hb1 hE hb40
        obtain ⟨hi3, hm3, hO, hne, hb1, hb40, hE⟩ := hJ
        refine Wc.seq (fun K21 hK21 => ?_)
        refine Wc.keep [(3, _), (40, _), (41, _), (42, _), (52, _), (53, _), (54, _)] (.cons rfl (.cons rfl (.cons rfl (.cons rfl (.cons rfl (.cons rfl (.cons rfl (.nil)))))))) ?_
        refine Wc.region ?_
        refine Wl.val rfl rfl rfl (Gives.lss rfl rfl rfl) ?_
        refine Wl.nil ?_
        refine Wx.thenN (hK21 _ _ ?_)
        refine Wc.seq (fun K22 hK22 => ?_)
        refine Wc.cond _ rfl (fun h55 => ?_) (fun h55 => ?_)
        · (first | replace h55 := of_decide_eq_true h55 | replace h55 := nd_true h55 | skip)
          refine Wc.skip ?_
          refine Wx.thenN (hK22 _ _ ?_)
          refine Wc.seq (fun K23 hK23 => ?_)
          refine Wc.block ?_
          refine Wc.seq (fun K24 hK24 => ?_)
          refine Wc.keep [(3, _), (40, _), (41, _), (42, _), (52, _), (53, _), (54, _)] (.cons rfl (.cons rfl (.cons rfl (.cons rfl (.cons rfl (.cons rfl (.cons rfl (.nil)))))))) ?_
          obtain ⟨xb, xo, rfl, hbw, z, zA, zn, zc, hz, hcell3, hZ⟩ := (hLL.ext hE).at' (show i < ln by omega)
          have hzn := hZ.len
          have hzw := hlw z (List.mem_of_getElem? hz)
          refine Wc.region ?_
          refine Wl.val rfl rfl rfl (Gives.ixS (i := _) rfl Tryd.underlying31 (by kernel_rfl) rfl rfl rfl (by omega)) ?_
          refine Wl.val rfl rfl rfl (Gives.ldC rfl (by kernel_rfl) rfl hcell3) ?_
          refine Wl.val rfl rfl rfl (Gives.assign rfl rfl) ?_
          refine Wl.nil ?_
          refine Wx.thenN (hK24 _ _ ?_)
          refine Wc.keep [(3, _), (9, _), (40, _), (41, _), (42, _), (52, _), (53, _), (54, _)] (.cons rfl (.cons rfl (.cons rfl (.cons rfl (.cons rfl (.cons rfl (.cons rfl (.cons rfl (.nil))))))))) ?_
          refine Wc.region ?_
          refine Wl.val rfl rfl rfl (Gives.move rfl rfl) ?_
          refine Wl.val rfl rfl rfl (Gives.move rfl rfl) ?_
          refine Wl.call rfl rfl rfl rfl Tryd.func55 rfl (by kernel_rfl) rfl (blob_calls (P := fun _ => True) _ S m' c _ (hO.bv (fun _ _ => trivial)) (by omega) zA zn zc z hZ (by omega)) ?_
          rintro x1 w21 ⟨S1, m1, c1, rfl, hO1, hx1⟩
          refine ⟨_, rfl, ?_⟩
          have hlt40 : b40 < wr3.heap.size := hb40.lt
          have hne1 : Value.ownBlock (.slice S1 m1 c1) ≠ some b40 := fun he => by have := (own_lt hO1 b40 he).1; omega
          replace hO1 := hO1.mono hb1.lt
          have hl0 := hO.len
          have hl1 := hO1.len
          have hl2 := blobS_len (blobsS B5 (ls.take i)) z
          replace hb1 := hb1.ext hx1
          replace hb40 := hb40.ext hx1
          replace hE := hE.trans hx1
          refine Wl.val rfl rfl rfl (Gives.assign rfl rfl) ?_
          refine Wl.nil ?_
          refine Wx.blockN ?_
          refine Wx.thenN (hK23 _ _ ?_)
          refine Wc.keep [(3, _), (40, _), (41, _), (42, _), (52, _), (53, _), (54, _)] (.cons rfl (.cons rfl (.cons rfl (.cons rfl (.cons rfl (.cons rfl (.cons rfl (.nil)))))))) ?_
          refine Wc.region ?_
          refine Wl.val rfl rfl rfl (Gives.add rfl rfl rfl (by first | exact IntWalk.i64_in _ (by omega) | exact u64_in _ (by omega) | exact u32_in _ (by omega) | exact u8_in _ (by omega) | exact rfl)) ?_
          refine Wl.val rfl rfl rfl (Gives.move rfl rfl) ?_
          refine Wl.nil ?_
          refine Wx.thenN ?_
          refine hKL3 (i + 1, S1, m1, c1) _ _ (.cons (by first | exact rfl | exact look_int rfl (by omega) | exact look_slice rfl (by omega)) (.cons (by first | exact rfl | exact look_int rfl (by omega) | exact look_slice rfl (by omega)) (.cons rfl (.cons rfl (.cons rfl (.cons rfl (.cons rfl (.nil)))))))) ⟨by omega, by omega, by unfold blobsS at hO1 ⊢; rw [fold_take _ _ _ _ _ hz]; exact hO1, hne1, hb1, hb40, hE⟩ (by show ln - (i + 1) < ln - i; omega)
        · (first | replace h55 := of_decide_eq_false h55 | replace h55 := nd_false h55 | skip)
          refine Wc.exit ?_
          refine Wx.thenE ?_
          refine Wx.thenE ?_
          refine Wx.hit ?_
          refine Wx.blockN ?_
          refine Wx.thenN (hK17 _ _ ?_)
          refine Wc.keep [(3, _), (40, _), (41, _), (42, _)] (.cons rfl (.cons rfl (.cons rfl (.cons rfl (.nil))))) ?_
          obtain rfl : ln = i := by omega
          unfold blobsS at hO
          rw [fold_all _ _ _ _ hlll] at hO
          have hO6 : OB wr3 (b1 + 1) 5 S m' c (([x.bs, x.ns].take (j + 1)).foldl listS (respI x)) := by
            rw [fold_take listS (respI x) [x.bs, x.ns] j ls hls]
            unfold listS blobsS
            unfold listS blobsS at hBr
            rw [hBr]; exact hO
          refine Wc.region ?_
          refine Wl.val rfl rfl rfl (Gives.add rfl rfl rfl (by first | exact IntWalk.i64_in _ (by omega) | exact u64_in _ (by omega) | exact u32_in _ (by omega) | exact u8_in _ (by omega) | exact rfl)) ?_
          refine Wl.val rfl rfl rfl (Gives.move rfl rfl) ?_
          refine Wl.nil ?_
          refine Wx.thenN ?_
          refine hKL2 (j + 1, S, m', c) _ _ (.cons (by first | exact rfl | exact look_int rfl (by omega) | exact look_slice rfl (by omega)) (.cons (by first | exact rfl | exact look_int rfl (by omega) | exact look_slice rfl (by omega)) (.cons rfl (.cons rfl (.nil))))) ⟨by omega, by omega, hO6, hne, hb1, hb40, hE⟩ (by show 2 - (j + 1) < 2 - j; omega)
      · (first | replace h43 := of_decide_eq_false h43 | replace h43 := nd_false h43 | skip)
        refine Wc.exit ?_
        refine Wx.thenE ?_
        refine Wx.thenE ?_
        refine Wx.hit ?_
        refine Wx.thenN (hK13 _ _ ?_)
        refine Wc.seq (fun K25 hK25 => ?_)
        refine Wc.keep [(3, _)] (.cons rfl (.nil)) ?_
        obtain rfl : j = 2 := by omega
        have hO8 := hO.mono (Nat.le_succ_of_le hg1)
        refine Wc.region ?_
        refine Wl.val rfl rfl rfl (Gives.move rfl rfl) ?_
        refine Wl.val rfl rfl rfl (Gives.assign rfl rfl) ?_
        refine Wl.nil ?_
        refine Wx.thenN (hK25 _ _ ?_)
        refine Wc.ret ?_
        refine Wx.ret [_] ⟨rfl, trivial⟩ ?_
        exact ⟨_, _, _, rfl, by unfold respS; rw [if_pos h16]; exact hO8, hE⟩
end Go.Proofs.YtaekpiejdgahfaaDoor
