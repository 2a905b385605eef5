/- Commands: Check and Encode of the program. -/
import Derived.Test.YtaekpiejdgahfaaDoorCmdP3
namespace Go.Proofs.YtaekpiejdgahfaaDoor
set_option linter.all false
open Go.RowKit
theorem errI {k : IntKind} {a b : Int} (h : a = b) : Ending.returned (resV [.int k a]) = .returned (.int k b) := by rw [h]; rfl
theorem check6 {q : Req} {s : Shp} (hs : shapeS q.code = s) (h : (!s.ok) = true) : 6 = checkS q := by unfold checkS; rw [hs, if_pos (by simpa using h)]
theorem check1 {q : Req} {s : Shp} (hs : shapeS q.code = s) (h : (!s.ok) = false) (h2 : argOk q s = false) : 1 = checkS q := by unfold checkS; rw [hs, if_neg (by simpa using h), if_pos h2]
theorem check4 {q : Req} {s : Shp} (hs : shapeS q.code = s) (h : (!s.ok) = false) (h2 : argOk q s = true) (h3 : longS q = true) : 4 = checkS q := by unfold checkS; rw [hs, if_neg (by simpa using h), if_neg (by simp [h2]), if_pos h3]
theorem check0 {q : Req} {s : Shp} (hs : shapeS q.code = s) (h : (!s.ok) = false) (h2 : argOk q s = true) (h3 : longS q = false) : 0 = checkS q := by unfold checkS; rw [hs, if_neg (by simpa using h), if_neg (by simp [h2]), if_neg (by simp [h3])]
set_option maxHeartbeats 1000000 in
set_option maxRecDepth 10000 in
theorem checkP_calls {P : Nat → Prop} (w : World) (hT : Tabs w) (q : Req) (r : RA) (hq : ReqV w P q r) (hsm : FewQ q) :
    Calls Tryd.prog 18 #[.agg #[.int .i64 q.code, .slice r.hA r.hn r.hc, .slice r.aA r.an r.ac, .slice r.iA r.iN r.ic, .slice r.bA r.bn r.bc]] w fun e w' => e = .returned (.int .i64 (checkS q)) ∧ Ext w w' := by
  have hq0 := hq
  have hsm0 := hsm
  obtain ⟨hA, hn, hc, aA, an, ac, iA, iN, ic, bA, bn, bc⟩ := r
  have hhs : IV w P hA hn hc q.hs := hq.hs
  have hus : AV w P aA an ac q.us := hq.us
  have his : IV w P iA iN ic q.is := hq.is
  have hbs : BL w P bA bn bc q.bs := hq.bs
  have hlh := hhs.len
  have hla := hus.len
  have hli := his.len
  have hlb := hbs.len
  obtain ⟨hs1, hs2, hs3, hs4⟩ := hsm
  clear hq
  show Calls Tryd.prog _ #[.agg #[.int .i64 q.code, .slice hA hn hc, .slice aA an ac, .slice iA iN ic, .slice bA bn bc]] w _
  have hbd := shape_bounds q.code
  refine calls_enter Tryd.func18 rfl Tryd.ntmps18 rfl ?_
  have hE : Ext w w := Ext.refl w
  refine Wc.seq (fun K1 hK1 => ?_)
  refine Wc.keep [(0, _)] (.cons rfl (.nil)) ?_
  refine Wc.region ?_
  refine Wl.does rfl rfl rfl (Does.boxA rfl rfl) ?_
  rintro _ w0_0 ⟨b1, rfl, hs1, hb1, hx0_0⟩
  have hg1 : w.heap.size ≤ b1 := Nat.le_trans hE.size hs1
  replace hE := hE.trans hx0_0
  refine Wl.val rfl rfl rfl (Gives.assign rfl rfl) ?_
  refine Wl.nil ?_
  refine Wx.thenN (hK1 _ _ ?_)
  refine Wc.seq (fun K2 hK2 => ?_)
  refine Wc.keep [(1, _)] (.cons rfl (.nil)) ?_
  refine Wc.region ?_
  refine Wl.val rfl rfl rfl (Gives.fieldAt 0 rfl Tryd.underlying33 rfl (by kernel_rfl) rfl rfl) ?_
  refine Wl.val rfl rfl rfl (Gives.ldK rfl (by kernel_rfl) rfl hb1 rfl) ?_
  refine Wl.call rfl rfl rfl rfl Tryd.func11 rfl (by kernel_rfl) rfl (shapeP_calls _ (hT.ext hE) q.code) ?_
  rintro x1 w11 ⟨rfl, hx1⟩
  refine ⟨_, rfl, ?_⟩
  generalize hsq : shapeS q.code = s at *
  replace hb1 := hb1.ext hx1
  replace hE := hE.trans hx1
  refine Wl.val rfl rfl rfl (Gives.move rfl rfl) ?_
  refine Wl.val rfl rfl rfl (Gives.extract rfl rfl rfl) ?_
  refine Wl.val rfl rfl rfl (Gives.extract rfl rfl rfl) ?_
  refine Wl.val rfl rfl rfl (Gives.extract rfl rfl rfl) ?_
  refine Wl.val rfl rfl rfl (Gives.extract rfl rfl rfl) ?_
  refine Wl.val rfl rfl rfl (Gives.extract rfl rfl rfl) ?_
  refine Wl.val rfl rfl rfl (Gives.assign rfl rfl) ?_
  refine Wl.val rfl rfl rfl (Gives.assign rfl rfl) ?_
  refine Wl.val rfl rfl rfl (Gives.assign rfl rfl) ?_
  refine Wl.val rfl rfl rfl (Gives.assign rfl rfl) ?_
  refine Wl.val rfl rfl rfl (Gives.assign rfl rfl) ?_
  refine Wl.nil ?_
  refine Wx.thenN (hK2 _ _ ?_)
  refine Wc.seq (fun K3 hK3 => ?_)
  refine Wc.seq (fun K4 hK4 => ?_)
  refine Wc.keep [(1, _), (3, _), (4, _), (5, _), (6, _), (7, _)] (.cons rfl (.cons rfl (.cons rfl (.cons rfl (.cons rfl (.cons rfl (.nil))))))) ?_
  refine Wc.region ?_
  refine Wl.val rfl rfl rfl (Gives.move rfl rfl) ?_
  refine Wl.val rfl rfl rfl (Gives.not rfl rfl) ?_
  refine Wl.nil ?_
  refine Wx.thenN (hK4 _ _ ?_)
  refine Wc.cond _ rfl (fun h29 => ?_) (fun h29 => ?_)
  · (first | replace h29 := of_decide_eq_true h29 | replace h29 := nd_true h29 | skip)
    refine Wc.seq (fun K5 hK5 => ?_)
    refine Wc.keep [] (.nil) ?_
    refine Wc.region ?_
    refine Wl.val rfl rfl rfl (Gives.assign rfl rfl) ?_
    refine Wl.nil ?_
    refine Wx.thenN (hK5 _ _ ?_)
    refine Wc.ret ?_
    refine Wx.thenR ?_
    refine Wx.ret [_] ⟨rfl, trivial⟩ ?_
    exact ⟨errI (check6 hsq h29), hE⟩
  · (first | replace h29 := of_decide_eq_false h29 | replace h29 := nd_false h29 | skip)
    refine Wc.skip ?_
    refine Wx.thenN (hK3 _ _ ?_)
    refine Wc.joinC (ι := Bool) [(1, _)] (fun f0 => [(8, .bool f0)]) (fun f0 wJ => f0 = argF q s ∧ Blk wJ b1 33 #[.int .i64 q.code, .slice hA hn hc, .slice aA an ac, .slice iA iN ic, .slice bA bn bc] ∧ Ext w wJ) ?_ ?_ (.cons rfl (.nil))
    · intro K6 hJ6
      refine Wc.keep [(1, _), (3, _), (4, _), (5, _), (6, _)] (.cons rfl (.cons rfl (.cons rfl (.cons rfl (.cons rfl (.nil)))))) ?_
      refine Wc.region ?_
      refine Wl.val rfl rfl rfl (Gives.fieldAt 1 rfl Tryd.underlying33 rfl (by kernel_rfl) rfl rfl) ?_
      refine Wl.val rfl rfl rfl (Gives.ldK rfl (by kernel_rfl) rfl hb1 rfl) ?_
      refine Wl.val rfl rfl rfl (Gives.lenS rfl Tryd.underlying29 rfl) ?_
      refine Wl.val rfl rfl rfl (Gives.move rfl rfl) ?_
      refine Wl.val rfl rfl rfl (Gives.eql rfl rfl rfl) ?_
      refine Wl.val rfl rfl rfl (Gives.move rfl rfl) ?_
      refine Wl.guard rfl rfl rfl (fun h35 => ?_) (fun h35 => ?_)
      · (first | replace h35 := of_decide_eq_true h35 | replace h35 := nd_true h35 | skip)
        refine Wl.val rfl rfl rfl (Gives.fieldAt 2 rfl Tryd.underlying33 rfl (by kernel_rfl) rfl rfl) ?_
        refine Wl.val rfl rfl rfl (Gives.ldK rfl (by kernel_rfl) rfl hb1 rfl) ?_
        refine Wl.val rfl rfl rfl (Gives.lenS rfl Tryd.underlying30 rfl) ?_
        refine Wl.val rfl rfl rfl (Gives.move rfl rfl) ?_
        refine Wl.val rfl rfl rfl (Gives.eql rfl rfl rfl) ?_
        refine Wl.val rfl rfl rfl (Gives.pickT rfl rfl rfl rfl) ?_
        refine Wl.val rfl rfl rfl (Gives.move rfl rfl) ?_
        refine Wl.guard rfl rfl rfl (fun h42 => ?_) (fun h42 => ?_)
        · (first | replace h42 := of_decide_eq_true h42 | replace h42 := nd_true h42 | skip)
          refine Wl.val rfl rfl rfl (Gives.fieldAt 3 rfl Tryd.underlying33 rfl (by kernel_rfl) rfl rfl) ?_
          refine Wl.val rfl rfl rfl (Gives.ldK rfl (by kernel_rfl) rfl hb1 rfl) ?_
          refine Wl.val rfl rfl rfl (Gives.lenS rfl Tryd.underlying29 rfl) ?_
          refine Wl.val rfl rfl rfl (Gives.move rfl rfl) ?_
          refine Wl.val rfl rfl rfl (Gives.eql rfl rfl rfl) ?_
          refine Wl.val rfl rfl rfl (Gives.pickT rfl rfl rfl rfl) ?_
          refine Wl.val rfl rfl rfl (Gives.move rfl rfl) ?_
          refine Wl.guard rfl rfl rfl (fun h49 => ?_) (fun h49 => ?_)
          · (first | replace h49 := of_decide_eq_true h49 | replace h49 := nd_true h49 | skip)
            refine Wl.val rfl rfl rfl (Gives.fieldAt 4 rfl Tryd.underlying33 rfl (by kernel_rfl) rfl rfl) ?_
            refine Wl.val rfl rfl rfl (Gives.ldK rfl (by kernel_rfl) rfl hb1 rfl) ?_
            refine Wl.val rfl rfl rfl (Gives.lenS rfl Tryd.underlying31 rfl) ?_
            refine Wl.val rfl rfl rfl (Gives.move rfl rfl) ?_
            refine Wl.val rfl rfl rfl (Gives.call rfl Tryd.func34 rfl (by kernel_rfl) rfl (counted_calls _ _ _ (by omega) (by omega))) ?_
            refine Wl.val rfl rfl rfl (Gives.pickT rfl rfl rfl rfl) ?_
            refine Wl.val rfl rfl rfl (Gives.assign rfl rfl) ?_
            refine Wl.nil ?_
            refine Wx.thenN ?_
            refine hJ6 (fitsS s.b bn) _ _ (.cons (by first | exact rfl | exact look_int rfl (by omega) | exact look_slice rfl (by omega)) (.cons rfl (.nil))) ⟨by unfold argF; rw [hlh, hla, hli, hlb]; simp [h35, h42, h49], hb1, hE⟩
          · (first | replace h49 := of_decide_eq_false h49 | replace h49 := nd_false h49 | skip)
            refine Wl.pass rfl rfl rfl ?_
            refine Wl.pass rfl rfl rfl ?_
            refine Wl.pass rfl rfl rfl ?_
            refine Wl.pass rfl rfl rfl ?_
            refine Wl.pass rfl rfl rfl ?_
            refine Wl.val rfl rfl rfl (Gives.pickF rfl rfl rfl rfl) ?_
            refine Wl.val rfl rfl rfl (Gives.assign rfl rfl) ?_
            refine Wl.nil ?_
            refine Wx.thenN ?_
            refine hJ6 false _ _ (.cons (by first | exact rfl | exact look_int rfl (by omega) | exact look_slice rfl (by omega)) (.cons rfl (.nil))) ⟨by unfold argF; rw [hlh, hla, hli, hlb]; simp [h35, h42, h49], hb1, hE⟩
        · (first | replace h42 := of_decide_eq_false h42 | replace h42 := nd_false h42 | skip)
          refine Wl.pass rfl rfl rfl ?_
          refine Wl.pass rfl rfl rfl ?_
          refine Wl.pass rfl rfl rfl ?_
          refine Wl.pass rfl rfl rfl ?_
          refine Wl.pass rfl rfl rfl ?_
          refine Wl.val rfl rfl rfl (Gives.pickF rfl rfl rfl rfl) ?_
          refine Wl.val rfl rfl rfl (Gives.move rfl rfl) ?_
          refine Wl.guardF rfl rfl rfl rfl ?_
          refine Wl.pass rfl rfl rfl ?_
          refine Wl.pass rfl rfl rfl ?_
          refine Wl.pass rfl rfl rfl ?_
          refine Wl.pass rfl rfl rfl ?_
          refine Wl.pass rfl rfl rfl ?_
          refine Wl.val rfl rfl rfl (Gives.pickF rfl rfl rfl rfl) ?_
          refine Wl.val rfl rfl rfl (Gives.assign rfl rfl) ?_
          refine Wl.nil ?_
          refine Wx.thenN ?_
          refine hJ6 false _ _ (.cons (by first | exact rfl | exact look_int rfl (by omega) | exact look_slice rfl (by omega)) (.cons rfl (.nil))) ⟨by unfold argF; rw [hlh, hla, hli, hlb]; simp [h35, h42], hb1, hE⟩
      · (first | replace h35 := of_decide_eq_false h35 | replace h35 := nd_false h35 | skip)
        refine Wl.pass rfl rfl rfl ?_
        refine Wl.pass rfl rfl rfl ?_
        refine Wl.pass rfl rfl rfl ?_
        refine Wl.pass rfl rfl rfl ?_
        refine Wl.pass rfl rfl rfl ?_
        refine Wl.val rfl rfl rfl (Gives.pickF rfl rfl rfl rfl) ?_
        refine Wl.val rfl rfl rfl (Gives.move rfl rfl) ?_
        refine Wl.guardF rfl rfl rfl rfl ?_
        refine Wl.pass rfl rfl rfl ?_
        refine Wl.pass rfl rfl rfl ?_
        refine Wl.pass rfl rfl rfl ?_
        refine Wl.pass rfl rfl rfl ?_
        refine Wl.pass rfl rfl rfl ?_
        refine Wl.val rfl rfl rfl (Gives.pickF rfl rfl rfl rfl) ?_
        refine Wl.val rfl rfl rfl (Gives.move rfl rfl) ?_
        refine Wl.guardF rfl rfl rfl rfl ?_
        refine Wl.pass rfl rfl rfl ?_
        refine Wl.pass rfl rfl rfl ?_
        refine Wl.pass rfl rfl rfl ?_
        refine Wl.pass rfl rfl rfl ?_
        refine Wl.pass rfl rfl rfl ?_
        refine Wl.val rfl rfl rfl (Gives.pickF rfl rfl rfl rfl) ?_
        refine Wl.val rfl rfl rfl (Gives.assign rfl rfl) ?_
        refine Wl.nil ?_
        refine Wx.thenN ?_
        refine hJ6 false _ _ (.cons (by first | exact rfl | exact look_int rfl (by omega) | exact look_slice rfl (by omega)) (.cons rfl (.nil))) ⟨by unfold argF; rw [hlh, hla, hli, hlb]; simp [h35], hb1, hE⟩
    intro f0 wJ hJ
    clear hb1 hE
    obtain ⟨hB0, hb1, hE⟩ := hJ
    refine Wc.seq (fun K7 hK7 => ?_)
    refine Wc.seq (fun K8 hK8 => ?_)
    refine Wc.keep [(1, _), (8, _)] (.cons rfl (.cons rfl (.nil))) ?_
    refine Wc.region ?_
    refine Wl.val rfl rfl rfl (Gives.fieldAt 1 rfl Tryd.underlying33 rfl (by kernel_rfl) rfl rfl) ?_
    refine Wl.val rfl rfl rfl (Gives.ldK rfl (by kernel_rfl) rfl hb1 rfl) ?_
    refine Wl.val rfl rfl rfl (Gives.lenS rfl Tryd.underlying29 rfl) ?_
    refine Wl.val rfl rfl rfl (Gives.move rfl rfl) ?_
    refine Wl.nil ?_
    refine Wx.thenN (hK8 _ _ ?_)
    refine Wc.block ?_
    refine Wc.keep [(1, _), (8, _), (57, _), (58, _), (59, _)] (.cons rfl (.cons rfl (.cons rfl (.cons rfl (.cons rfl (.nil)))))) ?_
    refine Wc.loopC (ι := Nat × Bool) [(1, _), (57, _), (58, _)] (fun | (i, B) => [(59, .int .i64 (i : Int)), (8, .bool B)]) (fun | (i, B), wr => i ≤ hn ∧ B = (f0 && (q.hs.take i).all wordS) ∧ Blk wr b1 33 #[.int .i64 q.code, .slice hA hn hc, .slice aA an ac, .slice iA iN ic, .slice bA bn bc] ∧ Ext w wr) (fun | (i, _) => hn - i) ((0, f0)) (.cons (by first | exact rfl | exact look_int rfl (by omega) | exact look_slice rfl (by omega)) (.cons (by first | exact rfl | exact look_int rfl (by omega) | exact look_slice rfl (by omega)) (.cons rfl (.cons rfl (.cons rfl (.nil)))))) (⟨Nat.zero_le _, by simp, hb1, hE⟩) ?_
    intro ⟨i, B⟩ wr hJ KL1 hKL1
    clear hb1 hE
    obtain ⟨hi, hB, hb1, hE⟩ := hJ
    refine Wc.seq (fun K9 hK9 => ?_)
    refine Wc.keep [(1, _), (8, _), (57, _), (58, _), (59, _)] (.cons rfl (.cons rfl (.cons rfl (.cons rfl (.cons rfl (.nil)))))) ?_
    refine Wc.region ?_
    refine Wl.val rfl rfl rfl (Gives.lss rfl rfl rfl) ?_
    refine Wl.nil ?_
    refine Wx.thenN (hK9 _ _ ?_)
    refine Wc.seq (fun K10 hK10 => ?_)
    refine Wc.cond _ rfl (fun h60 => ?_) (fun h60 => ?_)
    · (first | replace h60 := of_decide_eq_true h60 | replace h60 := nd_true h60 | skip)
      refine Wc.skip ?_
      refine Wx.thenN (hK10 _ _ ?_)
      refine Wc.seq (fun K11 hK11 => ?_)
      refine Wc.block ?_
      refine Wc.seq (fun K12 hK12 => ?_)
      refine Wc.keep [(1, _), (8, _), (57, _), (58, _), (59, _)] (.cons rfl (.cons rfl (.cons rfl (.cons rfl (.cons rfl (.nil)))))) ?_
      obtain ⟨xb, xo, rfl, hbw, z, hz, hcell⟩ := (hhs.ext hE).at_ (show i < hn by omega)
      refine Wc.region ?_
      refine Wl.val rfl rfl rfl (Gives.ixS (i := _) rfl Tryd.underlying29 (by kernel_rfl) rfl rfl rfl (by omega)) ?_
      refine Wl.val rfl rfl rfl (Gives.ldC rfl (by kernel_rfl) rfl hcell) ?_
      refine Wl.val rfl rfl rfl (Gives.assign rfl rfl) ?_
      refine Wl.nil ?_
      refine Wx.thenN (hK12 _ _ ?_)
      refine Wc.keep [(1, _), (8, _), (10, _), (57, _), (58, _), (59, _)] (.cons rfl (.cons rfl (.cons rfl (.cons rfl (.cons rfl (.cons rfl (.nil))))))) ?_
      refine Wc.region ?_
      refine Wl.val rfl rfl rfl (Gives.move rfl rfl) ?_
      refine Wl.val rfl rfl rfl (Gives.move rfl rfl) ?_
      refine Wl.guard rfl rfl rfl (fun h64 => ?_) (fun h64 => ?_)
      · (first | replace h64 := of_decide_eq_true h64 | replace h64 := nd_true h64 | skip)
        refine Wl.val rfl rfl rfl (Gives.move rfl rfl) ?_
        refine Wl.val rfl rfl rfl (Gives.call rfl Tryd.func35 rfl (by kernel_rfl) rfl (word_calls _ _)) ?_
        refine Wl.val rfl rfl rfl (Gives.pickT rfl rfl rfl rfl) ?_
        refine Wl.val rfl rfl rfl (Gives.assign rfl rfl) ?_
        refine Wl.nil ?_
        refine Wx.blockN ?_
        refine Wx.thenN (hK11 _ _ ?_)
        refine Wc.keep [(1, _), (8, _), (57, _), (58, _), (59, _)] (.cons rfl (.cons rfl (.cons rfl (.cons rfl (.cons rfl (.nil)))))) ?_
        refine Wc.region ?_
        refine Wl.val rfl rfl rfl (Gives.add rfl rfl rfl (by first | exact IntWalk.i64_in _ (by omega) | exact u64_in _ (by omega) | exact u32_in _ (by omega) | exact u8_in _ (by omega) | exact rfl)) ?_
        refine Wl.val rfl rfl rfl (Gives.move rfl rfl) ?_
        refine Wl.nil ?_
        refine Wx.thenN ?_
        refine hKL1 (i + 1, wordS z) _ _ (.cons (by first | exact rfl | exact look_int rfl (by omega) | exact look_slice rfl (by omega)) (.cons (by first | exact rfl | exact look_int rfl (by omega) | exact look_slice rfl (by omega)) (.cons rfl (.cons rfl (.cons rfl (.nil)))))) ⟨by omega, by rw [all_take _ _ _ _ hz, ← Bool.and_assoc, ← hB, h64]; rfl, hb1, hE⟩ (by show hn - (i + 1) < hn - i; omega)
      · (first | replace h64 := of_decide_eq_false h64 | replace h64 := nd_false h64 | skip)
        refine Wl.pass rfl rfl rfl ?_
        refine Wl.pass rfl rfl rfl ?_
        refine Wl.val rfl rfl rfl (Gives.pickF rfl rfl rfl rfl) ?_
        refine Wl.val rfl rfl rfl (Gives.assign rfl rfl) ?_
        refine Wl.nil ?_
        refine Wx.blockN ?_
        refine Wx.thenN (hK11 _ _ ?_)
        refine Wc.keep [(1, _), (8, _), (57, _), (58, _), (59, _)] (.cons rfl (.cons rfl (.cons rfl (.cons rfl (.cons rfl (.nil)))))) ?_
        refine Wc.region ?_
        refine Wl.val rfl rfl rfl (Gives.add rfl rfl rfl (by first | exact IntWalk.i64_in _ (by omega) | exact u64_in _ (by omega) | exact u32_in _ (by omega) | exact u8_in _ (by omega) | exact rfl)) ?_
        refine Wl.val rfl rfl rfl (Gives.move rfl rfl) ?_
        refine Wl.nil ?_
        refine Wx.thenN ?_
        refine hKL1 (i + 1, false) _ _ (.cons (by first | exact rfl | exact look_int rfl (by omega) | exact look_slice rfl (by omega)) (.cons (by first | exact rfl | exact look_int rfl (by omega) | exact look_slice rfl (by omega)) (.cons rfl (.cons rfl (.cons rfl (.nil)))))) ⟨by omega, by rw [all_take _ _ _ _ hz, ← Bool.and_assoc, ← hB, h64]; rfl, hb1, hE⟩ (by show hn - (i + 1) < hn - i; omega)
    · (first | replace h60 := of_decide_eq_false h60 | replace h60 := nd_false h60 | skip)
      refine Wc.exit ?_
      refine Wx.thenE ?_
      refine Wx.thenE ?_
      refine Wx.hit ?_
      refine Wx.thenN (hK7 _ _ ?_)
      refine Wc.seq (fun K13 hK13 => ?_)
      refine Wc.seq (fun K14 hK14 => ?_)
      refine Wc.keep [(1, _), (8, _)] (.cons rfl (.cons rfl (.nil))) ?_
      obtain rfl : hn = i := by omega
      rw [all_all _ _ _ hlh] at hB
      generalize hBB1 : B = f1 at *
      clear hBB1
      have hB1 := hB
      clear hB
      refine Wc.region ?_
      refine Wl.val rfl rfl rfl (Gives.fieldAt 2 rfl Tryd.underlying33 rfl (by kernel_rfl) rfl rfl) ?_
      refine Wl.val rfl rfl rfl (Gives.ldK rfl (by kernel_rfl) rfl hb1 rfl) ?_
      refine Wl.val rfl rfl rfl (Gives.lenS rfl Tryd.underlying30 rfl) ?_
      refine Wl.val rfl rfl rfl (Gives.move rfl rfl) ?_
      refine Wl.nil ?_
      refine Wx.thenN (hK14 _ _ ?_)
      refine Wc.block ?_
      refine Wc.keep [(1, _), (8, _), (70, _), (71, _), (72, _)] (.cons rfl (.cons rfl (.cons rfl (.cons rfl (.cons rfl (.nil)))))) ?_
      refine Wc.loopC (ι := Nat × Bool) [(1, _), (70, _), (71, _)] (fun | (i, B) => [(72, .int .i64 (i : Int)), (8, .bool B)]) (fun | (i, B), wr => i ≤ an ∧ B = (f1 && (q.us.take i).all authW) ∧ Blk wr b1 33 #[.int .i64 q.code, .slice hA hn hc, .slice aA an ac, .slice iA iN ic, .slice bA bn bc] ∧ Ext w wr) (fun | (i, _) => an - i) ((0, f1)) (.cons (by first | exact rfl | exact look_int rfl (by omega) | exact look_slice rfl (by omega)) (.cons (by first | exact rfl | exact look_int rfl (by omega) | exact look_slice rfl (by omega)) (.cons rfl (.cons rfl (.cons rfl (.nil)))))) (⟨Nat.zero_le _, by simp, hb1, hE⟩) ?_
      intro ⟨i, B⟩ wr hJ KL2 hKL2
      clear hb1 hE
      obtain ⟨hi, hB, hb1, hE⟩ := hJ
      refine Wc.seq (fun K15 hK15 => ?_)
      refine Wc.keep [(1, _), (8, _), (70, _), (71, _), (72, _)] (.cons rfl (.cons rfl (.cons rfl (.cons rfl (.cons rfl (.nil)))))) ?_
      refine Wc.region ?_
      refine Wl.val rfl rfl rfl (Gives.lss rfl rfl rfl) ?_
      refine Wl.nil ?_
      refine Wx.thenN (hK15 _ _ ?_)
      refine Wc.seq (fun K16 hK16 => ?_)
      refine Wc.cond _ rfl (fun h73 => ?_) (fun h73 => ?_)
      · (first | replace h73 := of_decide_eq_true h73 | replace h73 := nd_true h73 | skip)
        refine Wc.skip ?_
        refine Wx.thenN (hK16 _ _ ?_)
        refine Wc.seq (fun K17 hK17 => ?_)
        refine Wc.block ?_
        refine Wc.seq (fun K18 hK18 => ?_)
        refine Wc.keep [(1, _), (8, _), (70, _), (71, _), (72, _)] (.cons rfl (.cons rfl (.cons rfl (.cons rfl (.cons rfl (.nil)))))) ?_
        obtain ⟨xb, xo, rfl, hbw, a, N, nn, nc, V, vn, vc, ha, hrg, hN0, hV0⟩ := (hus.ext hE).at_ (show i < an by omega)
        refine Wc.region ?_
        refine Wl.val rfl rfl rfl (Gives.ixSZ (i := _) (sz := 3) rfl Tryd.underlying30 (by kernel_rfl) rfl rfl rfl (by omega)) ?_
        refine Wl.val rfl rfl rfl (Gives.ldM rfl (by kernel_rfl) rfl hrg (by kernel_rfl)) ?_
        refine Wl.does rfl rfl rfl (Does.alB (.agg #[(.int .i64 0), (.slice none 0 0), (.slice none 0 0)]) rfl (by kernel_rfl) rfl) ?_
        rintro _ w12_2 ⟨b12, rfl, hs12, hb12, hx12_2⟩
        have hn1_12 : b1 ≠ b12 := hb1.ne hs12
        have hg12 : w.heap.size ≤ b12 := Nat.le_trans hE.size hs12
        replace hb1 := hb1.ext hx12_2
        replace hE := hE.trans hx12_2
        refine Wl.acts rfl rfl (Does.stL 3 rfl rfl rfl hb12 (by kernel_rfl) rfl rfl rfl) ?_
        rintro _ w12_3 ⟨hbn, hF12_3⟩
        replace hb1 := hb1.fr hF12_3 (by first | assumption | exact Ne.symm (by assumption))
        replace hE := Ext.over hE hF12_3 hg12
        replace hb12 := hbn
        clear hbn
        refine Wl.nil ?_
        refine Wx.thenN (hK18 _ _ ?_)
        refine Wc.keep [(1, _), (8, _), (12, _), (70, _), (71, _), (72, _)] (.cons rfl (.cons rfl (.cons rfl (.cons rfl (.cons rfl (.cons rfl (.nil))))))) ?_
        refine Wc.region ?_
        refine Wl.val rfl rfl rfl (Gives.move rfl rfl) ?_
        refine Wl.val rfl rfl rfl (Gives.move rfl rfl) ?_
        refine Wl.guard rfl rfl rfl (fun h77 => ?_) (fun h77 => ?_)
        · (first | replace h77 := of_decide_eq_true h77 | replace h77 := nd_true h77 | skip)
          refine Wl.val rfl rfl rfl (Gives.fieldAt 0 rfl Tryd.underlying38 rfl (by kernel_rfl) rfl rfl) ?_
          refine Wl.val rfl rfl rfl (Gives.ldK rfl (by kernel_rfl) rfl hb12 rfl) ?_
          refine Wl.val rfl rfl rfl (Gives.call rfl Tryd.func35 rfl (by kernel_rfl) rfl (word_calls _ _)) ?_
          refine Wl.val rfl rfl rfl (Gives.pickT rfl rfl rfl rfl) ?_
          refine Wl.val rfl rfl rfl (Gives.assign rfl rfl) ?_
          refine Wl.nil ?_
          refine Wx.blockN ?_
          refine Wx.thenN (hK17 _ _ ?_)
          refine Wc.keep [(1, _), (8, _), (70, _), (71, _), (72, _)] (.cons rfl (.cons rfl (.cons rfl (.cons rfl (.cons rfl (.nil)))))) ?_
          refine Wc.region ?_
          refine Wl.val rfl rfl rfl (Gives.add rfl rfl rfl (by first | exact IntWalk.i64_in _ (by omega) | exact u64_in _ (by omega) | exact u32_in _ (by omega) | exact u8_in _ (by omega) | exact rfl)) ?_
          refine Wl.val rfl rfl rfl (Gives.move rfl rfl) ?_
          refine Wl.nil ?_
          refine Wx.thenN ?_
          refine hKL2 (i + 1, wordS a.ses) _ _ (.cons (by first | exact rfl | exact look_int rfl (by omega) | exact look_slice rfl (by omega)) (.cons (by first | exact rfl | exact look_int rfl (by omega) | exact look_slice rfl (by omega)) (.cons rfl (.cons rfl (.cons rfl (.nil)))))) ⟨by omega, by rw [all_take _ _ _ _ ha, ← Bool.and_assoc, ← hB, h77]; rfl, hb1, hE⟩ (by show an - (i + 1) < an - i; omega)
        · (first | replace h77 := of_decide_eq_false h77 | replace h77 := nd_false h77 | skip)
          refine Wl.pass rfl rfl rfl ?_
          refine Wl.pass rfl rfl rfl ?_
          refine Wl.pass rfl rfl rfl ?_
          refine Wl.val rfl rfl rfl (Gives.pickF rfl rfl rfl rfl) ?_
          refine Wl.val rfl rfl rfl (Gives.assign rfl rfl) ?_
          refine Wl.nil ?_
          refine Wx.blockN ?_
          refine Wx.thenN (hK17 _ _ ?_)
          refine Wc.keep [(1, _), (8, _), (70, _), (71, _), (72, _)] (.cons rfl (.cons rfl (.cons rfl (.cons rfl (.cons rfl (.nil)))))) ?_
          refine Wc.region ?_
          refine Wl.val rfl rfl rfl (Gives.add rfl rfl rfl (by first | exact IntWalk.i64_in _ (by omega) | exact u64_in _ (by omega) | exact u32_in _ (by omega) | exact u8_in _ (by omega) | exact rfl)) ?_
          refine Wl.val rfl rfl rfl (Gives.move rfl rfl) ?_
          refine Wl.nil ?_
          refine Wx.thenN ?_
          refine hKL2 (i + 1, false) _ _ (.cons (by first | exact rfl | exact look_int rfl (by omega) | exact look_slice rfl (by omega)) (.cons (by first | exact rfl | exact look_int rfl (by omega) | exact look_slice rfl (by omega)) (.cons rfl (.cons rfl (.cons rfl (.nil)))))) ⟨by omega, by rw [all_take _ _ _ _ ha, ← Bool.and_assoc, ← hB, h77]; rfl, hb1, hE⟩ (by show an - (i + 1) < an - i; omega)
      · (first | replace h73 := of_decide_eq_false h73 | replace h73 := nd_false h73 | skip)
        refine Wc.exit ?_
        refine Wx.thenE ?_
        refine Wx.thenE ?_
        refine Wx.hit ?_
        refine Wx.thenN (hK13 _ _ ?_)
        refine Wc.seq (fun K19 hK19 => ?_)
        refine Wc.seq (fun K20 hK20 => ?_)
        refine Wc.keep [(1, _), (8, _)] (.cons rfl (.cons rfl (.nil))) ?_
        obtain rfl : an = i := by omega
        rw [all_all _ _ _ hla] at hB
        generalize hBB2 : B = f2 at *
        clear hBB2
        have hB2 := hB
        clear hB
        refine Wc.region ?_
        refine Wl.val rfl rfl rfl (Gives.fieldAt 3 rfl Tryd.underlying33 rfl (by kernel_rfl) rfl rfl) ?_
        refine Wl.val rfl rfl rfl (Gives.ldK rfl (by kernel_rfl) rfl hb1 rfl) ?_
        refine Wl.val rfl rfl rfl (Gives.lenS rfl Tryd.underlying29 rfl) ?_
        refine Wl.val rfl rfl rfl (Gives.move rfl rfl) ?_
        refine Wl.nil ?_
        refine Wx.thenN (hK20 _ _ ?_)
        refine Wc.block ?_
        refine Wc.keep [(1, _), (8, _), (84, _), (85, _), (86, _)] (.cons rfl (.cons rfl (.cons rfl (.cons rfl (.cons rfl (.nil)))))) ?_
        refine Wc.loopC (ι := Nat × Bool) [(1, _), (84, _), (85, _)] (fun | (i, B) => [(86, .int .i64 (i : Int)), (8, .bool B)]) (fun | (i, B), wr => i ≤ iN ∧ B = (f2 && (q.is.take i).all timeS) ∧ Blk wr b1 33 #[.int .i64 q.code, .slice hA hn hc, .slice aA an ac, .slice iA iN ic, .slice bA bn bc] ∧ Ext w wr) (fun | (i, _) => iN - i) ((0, f2)) (.cons (by first | exact rfl | exact look_int rfl (by omega) | exact look_slice rfl (by omega)) (.cons (by first | exact rfl | exact look_int rfl (by omega) | exact look_slice rfl (by omega)) (.cons rfl (.cons rfl (.cons rfl (.nil)))))) (⟨Nat.zero_le _, by simp, hb1, hE⟩) ?_
        intro ⟨i, B⟩ wr hJ KL3 hKL3
        clear hb1 hE
        obtain ⟨hi, hB, hb1, hE⟩ := hJ
        refine Wc.seq (fun K21 hK21 => ?_)
        refine Wc.keep [(1, _), (8, _), (84, _), (85, _), (86, _)] (.cons rfl (.cons rfl (.cons rfl (.cons rfl (.cons rfl (.nil)))))) ?_
        refine Wc.region ?_
        refine Wl.val rfl rfl rfl (Gives.lss rfl rfl rfl) ?_
        refine Wl.nil ?_
        refine Wx.thenN (hK21 _ _ ?_)
        refine Wc.seq (fun K22 hK22 => ?_)
        refine Wc.cond _ rfl (fun h87 => ?_) (fun h87 => ?_)
        · (first | replace h87 := of_decide_eq_true h87 | replace h87 := nd_true h87 | skip)
          refine Wc.skip ?_
          refine Wx.thenN (hK22 _ _ ?_)
          refine Wc.seq (fun K23 hK23 => ?_)
          refine Wc.block ?_
          refine Wc.seq (fun K24 hK24 => ?_)
          refine Wc.keep [(1, _), (8, _), (84, _), (85, _), (86, _)] (.cons rfl (.cons rfl (.cons rfl (.cons rfl (.cons rfl (.nil)))))) ?_
          obtain ⟨xb, xo, rfl, hbw, z, hz, hcell⟩ := (his.ext hE).at_ (show i < iN by omega)
          refine Wc.region ?_
          refine Wl.val rfl rfl rfl (Gives.ixS (i := _) rfl Tryd.underlying29 (by kernel_rfl) rfl rfl rfl (by omega)) ?_
          refine Wl.val rfl rfl rfl (Gives.ldC rfl (by kernel_rfl) rfl hcell) ?_
          refine Wl.val rfl rfl rfl (Gives.assign rfl rfl) ?_
          refine Wl.nil ?_
          refine Wx.thenN (hK24 _ _ ?_)
          refine Wc.keep [(1, _), (8, _), (14, _), (84, _), (85, _), (86, _)] (.cons rfl (.cons rfl (.cons rfl (.cons rfl (.cons rfl (.cons rfl (.nil))))))) ?_
          refine Wc.region ?_
          refine Wl.val rfl rfl rfl (Gives.move rfl rfl) ?_
          refine Wl.val rfl rfl rfl (Gives.move rfl rfl) ?_
          refine Wl.guard rfl rfl rfl (fun h91 => ?_) (fun h91 => ?_)
          · (first | replace h91 := of_decide_eq_true h91 | replace h91 := nd_true h91 | skip)
            refine Wl.val rfl rfl rfl (Gives.move rfl rfl) ?_
            refine Wl.val rfl rfl rfl (Gives.geq rfl rfl rfl) ?_
            refine Wl.val rfl rfl rfl (Gives.pickT rfl rfl rfl rfl) ?_
            refine Wl.val rfl rfl rfl (Gives.move rfl rfl) ?_
            refine Wl.guard rfl rfl rfl (fun h95 => ?_) (fun h95 => ?_)
            · (first | replace h95 := of_decide_eq_true h95 | replace h95 := nd_true h95 | skip)
              refine Wl.val rfl rfl rfl (Gives.move rfl rfl) ?_
              refine Wl.val rfl rfl rfl (Gives.leq rfl rfl rfl) ?_
              refine Wl.val rfl rfl rfl (Gives.pickT rfl rfl rfl rfl) ?_
              refine Wl.val rfl rfl rfl (Gives.assign rfl rfl) ?_
              refine Wl.nil ?_
              refine Wx.blockN ?_
              refine Wx.thenN (hK23 _ _ ?_)
              refine Wc.keep [(1, _), (8, _), (84, _), (85, _), (86, _)] (.cons rfl (.cons rfl (.cons rfl (.cons rfl (.cons rfl (.nil)))))) ?_
              refine Wc.region ?_
              refine Wl.val rfl rfl rfl (Gives.add rfl rfl rfl (by first | exact IntWalk.i64_in _ (by omega) | exact u64_in _ (by omega) | exact u32_in _ (by omega) | exact u8_in _ (by omega) | exact rfl)) ?_
              refine Wl.val rfl rfl rfl (Gives.move rfl rfl) ?_
              refine Wl.nil ?_
              refine Wx.thenN ?_
              refine hKL3 (i + 1, decide (z ≤ 1099511627776)) _ _ (.cons (by first | exact rfl | exact look_int rfl (by omega) | exact look_slice rfl (by omega)) (.cons (by first | exact rfl | exact look_int rfl (by omega) | exact look_slice rfl (by omega)) (.cons rfl (.cons rfl (.cons rfl (.nil)))))) ⟨by omega, by rw [all_take _ _ _ _ hz, ← Bool.and_assoc, ← hB, h91]; unfold timeS; rw [decide_eq_true h95]; rfl, hb1, hE⟩ (by show iN - (i + 1) < iN - i; omega)
            · (first | replace h95 := of_decide_eq_false h95 | replace h95 := nd_false h95 | skip)
              refine Wl.pass rfl rfl rfl ?_
              refine Wl.pass rfl rfl rfl ?_
              refine Wl.val rfl rfl rfl (Gives.pickF rfl rfl rfl rfl) ?_
              refine Wl.val rfl rfl rfl (Gives.assign rfl rfl) ?_
              refine Wl.nil ?_
              refine Wx.blockN ?_
              refine Wx.thenN (hK23 _ _ ?_)
              refine Wc.keep [(1, _), (8, _), (84, _), (85, _), (86, _)] (.cons rfl (.cons rfl (.cons rfl (.cons rfl (.cons rfl (.nil)))))) ?_
              refine Wc.region ?_
              refine Wl.val rfl rfl rfl (Gives.add rfl rfl rfl (by first | exact IntWalk.i64_in _ (by omega) | exact u64_in _ (by omega) | exact u32_in _ (by omega) | exact u8_in _ (by omega) | exact rfl)) ?_
              refine Wl.val rfl rfl rfl (Gives.move rfl rfl) ?_
              refine Wl.nil ?_
              refine Wx.thenN ?_
              refine hKL3 (i + 1, false) _ _ (.cons (by first | exact rfl | exact look_int rfl (by omega) | exact look_slice rfl (by omega)) (.cons (by first | exact rfl | exact look_int rfl (by omega) | exact look_slice rfl (by omega)) (.cons rfl (.cons rfl (.cons rfl (.nil)))))) ⟨by omega, by rw [all_take _ _ _ _ hz, ← Bool.and_assoc, ← hB, h91]; unfold timeS; rw [decide_eq_false h95]; rfl, hb1, hE⟩ (by show iN - (i + 1) < iN - i; omega)
          · (first | replace h91 := of_decide_eq_false h91 | replace h91 := nd_false h91 | skip)
            refine Wl.pass rfl rfl rfl ?_
            refine Wl.pass rfl rfl rfl ?_
            refine Wl.val rfl rfl rfl (Gives.pickF rfl rfl rfl rfl) ?_
            refine Wl.val rfl rfl rfl (Gives.move rfl rfl) ?_
            refine Wl.guardF rfl rfl rfl rfl ?_
            refine Wl.pass rfl rfl rfl ?_
            refine Wl.pass rfl rfl rfl ?_
            refine Wl.val rfl rfl rfl (Gives.pickF rfl rfl rfl rfl) ?_
            refine Wl.val rfl rfl rfl (Gives.assign rfl rfl) ?_
            refine Wl.nil ?_
            refine Wx.blockN ?_
            refine Wx.thenN (hK23 _ _ ?_)
            refine Wc.keep [(1, _), (8, _), (84, _), (85, _), (86, _)] (.cons rfl (.cons rfl (.cons rfl (.cons rfl (.cons rfl (.nil)))))) ?_
            refine Wc.region ?_
            refine Wl.val rfl rfl rfl (Gives.add rfl rfl rfl (by first | exact IntWalk.i64_in _ (by omega) | exact u64_in _ (by omega) | exact u32_in _ (by omega) | exact u8_in _ (by omega) | exact rfl)) ?_
            refine Wl.val rfl rfl rfl (Gives.move rfl rfl) ?_
            refine Wl.nil ?_
            refine Wx.thenN ?_
            refine hKL3 (i + 1, false) _ _ (.cons (by first | exact rfl | exact look_int rfl (by omega) | exact look_slice rfl (by omega)) (.cons (by first | exact rfl | exact look_int rfl (by omega) | exact look_slice rfl (by omega)) (.cons rfl (.cons rfl (.cons rfl (.nil)))))) ⟨by omega, by rw [all_take _ _ _ _ hz, ← Bool.and_assoc, ← hB, h91]; rfl, hb1, hE⟩ (by show iN - (i + 1) < iN - i; omega)
        · (first | replace h87 := of_decide_eq_false h87 | replace h87 := nd_false h87 | skip)
          refine Wc.exit ?_
          refine Wx.thenE ?_
          refine Wx.thenE ?_
          refine Wx.hit ?_
          refine Wx.thenN (hK19 _ _ ?_)
          refine Wc.seq (fun K25 hK25 => ?_)
          refine Wc.seq (fun K26 hK26 => ?_)
          refine Wc.keep [(1, _), (8, _)] (.cons rfl (.cons rfl (.nil))) ?_
          obtain rfl : iN = i := by omega
          rw [all_all _ _ _ hli] at hB
          generalize hBB3 : B = f3 at *
          clear hBB3
          have hB3 := hB
          clear hB
          have hArg : f3 = argOk q s := by unfold argOk; rw [← hB0, ← hB1, ← hB2, ← hB3]
          refine Wc.region ?_
          refine Wl.val rfl rfl rfl (Gives.move rfl rfl) ?_
          refine Wl.val rfl rfl rfl (Gives.not rfl rfl) ?_
          refine Wl.nil ?_
          refine Wx.thenN (hK26 _ _ ?_)
          refine Wc.cond _ rfl (fun h101 => ?_) (fun h101 => ?_)
          · (first | replace h101 := of_decide_eq_true h101 | replace h101 := nd_true h101 | skip)
            refine Wc.seq (fun K27 hK27 => ?_)
            refine Wc.keep [] (.nil) ?_
            refine Wc.region ?_
            refine Wl.val rfl rfl rfl (Gives.assign rfl rfl) ?_
            refine Wl.nil ?_
            refine Wx.thenN (hK27 _ _ ?_)
            refine Wc.ret ?_
            refine Wx.thenR ?_
            refine Wx.ret [_] ⟨rfl, trivial⟩ ?_
            exact ⟨errI (check1 hsq h29 (by rw [← hArg]; simpa using h101)), hE⟩
          · (first | replace h101 := of_decide_eq_false h101 | replace h101 := nd_false h101 | skip)
            refine Wc.skip ?_
            refine Wx.thenN (hK25 _ _ ?_)
            refine Wc.seq (fun K28 hK28 => ?_)
            refine Wc.seq (fun K29 hK29 => ?_)
            refine Wc.keep [(1, _), (8, _)] (.cons rfl (.cons rfl (.nil))) ?_
            replace hArg : argOk q s = true := by rw [← hArg]; simpa using h101
            obtain rfl : f3 = true := by simpa using h101
            have hbb : true = true := rfl
            refine Wc.region ?_
            refine Wl.val rfl rfl rfl (Gives.fieldAt 2 rfl Tryd.underlying33 rfl (by kernel_rfl) rfl rfl) ?_
            refine Wl.val rfl rfl rfl (Gives.ldK rfl (by kernel_rfl) rfl hb1 rfl) ?_
            refine Wl.val rfl rfl rfl (Gives.lenS rfl Tryd.underlying30 rfl) ?_
            refine Wl.val rfl rfl rfl (Gives.move rfl rfl) ?_
            refine Wl.nil ?_
            refine Wx.thenN (hK29 _ _ ?_)
            refine Wc.block ?_
            refine Wc.keep [(1, _), (8, _), (103, _), (104, _), (105, _)] (.cons rfl (.cons rfl (.cons rfl (.cons rfl (.cons rfl (.nil)))))) ?_
            refine Wc.loopC (ι := Nat × Bool) [(1, _), (103, _), (104, _)] (fun | (i, B) => [(105, .int .i64 (i : Int)), (8, .bool B)]) (fun | (i, B), wr => i ≤ an ∧ B = (true && (q.us.take i).all authShort) ∧ Blk wr b1 33 #[.int .i64 q.code, .slice hA hn hc, .slice aA an ac, .slice iA iN ic, .slice bA bn bc] ∧ Ext w wr) (fun | (i, _) => an - i) ((0, true)) (.cons (by first | exact rfl | exact look_int rfl (by omega) | exact look_slice rfl (by omega)) (.cons (by first | exact rfl | exact look_int rfl (by omega) | exact look_slice rfl (by omega)) (.cons rfl (.cons rfl (.cons rfl (.nil)))))) (⟨Nat.zero_le _, by simp, hb1, hE⟩) ?_
            intro ⟨i, B⟩ wr hJ KL4 hKL4
            clear hb1 hE
            obtain ⟨hi, hB, hb1, hE⟩ := hJ
            refine Wc.seq (fun K30 hK30 => ?_)
            refine Wc.keep [(1, _), (8, _), (103, _), (104, _), (105, _)] (.cons rfl (.cons rfl (.cons rfl (.cons rfl (.cons rfl (.nil)))))) ?_
            refine Wc.region ?_
            refine Wl.val rfl rfl rfl (Gives.lss rfl rfl rfl) ?_
            refine Wl.nil ?_
            refine Wx.thenN (hK30 _ _ ?_)
            refine Wc.seq (fun K31 hK31 => ?_)
            refine Wc.cond _ rfl (fun h106 => ?_) (fun h106 => ?_)
            · (first | replace h106 := of_decide_eq_true h106 | replace h106 := nd_true h106 | skip)
              refine Wc.skip ?_
              refine Wx.thenN (hK31 _ _ ?_)
              refine Wc.seq (fun K32 hK32 => ?_)
              refine Wc.block ?_
              refine Wc.seq (fun K33 hK33 => ?_)
              refine Wc.keep [(1, _), (8, _), (103, _), (104, _), (105, _)] (.cons rfl (.cons rfl (.cons rfl (.cons rfl (.cons rfl (.nil)))))) ?_
              obtain ⟨xb, xo, rfl, hbw, a, N, nn, nc, V, vn, vc, ha, hrg, hN0, hV0⟩ := (hus.ext hE).at_ (show i < an by omega)
              have hnn := hN0.len
              have hvn := hV0.len
              refine Wc.region ?_
              refine Wl.val rfl rfl rfl (Gives.ixSZ (i := _) (sz := 3) rfl Tryd.underlying30 (by kernel_rfl) rfl rfl rfl (by omega)) ?_
              refine Wl.val rfl rfl rfl (Gives.ldM rfl (by kernel_rfl) rfl hrg (by kernel_rfl)) ?_
              refine Wl.does rfl rfl rfl (Does.alB (.agg #[(.int .i64 0), (.slice none 0 0), (.slice none 0 0)]) rfl (by kernel_rfl) rfl) ?_
              rintro _ w24_2 ⟨b16, rfl, hs16, hb16, hx24_2⟩
              have hn1_16 : b1 ≠ b16 := hb1.ne hs16
              have hg16 : w.heap.size ≤ b16 := Nat.le_trans hE.size hs16
              replace hb1 := hb1.ext hx24_2
              replace hE := hE.trans hx24_2
              refine Wl.acts rfl rfl (Does.stL 3 rfl rfl rfl hb16 (by kernel_rfl) rfl rfl rfl) ?_
              rintro _ w24_3 ⟨hbn, hF24_3⟩
              replace hb1 := hb1.fr hF24_3 (by first | assumption | exact Ne.symm (by assumption))
              replace hE := Ext.over hE hF24_3 hg16
              replace hb16 := hbn
              clear hbn
              refine Wl.nil ?_
              refine Wx.thenN (hK33 _ _ ?_)
              refine Wc.keep [(1, _), (8, _), (16, _), (103, _), (104, _), (105, _)] (.cons rfl (.cons rfl (.cons rfl (.cons rfl (.cons rfl (.cons rfl (.nil))))))) ?_
              refine Wc.region ?_
              refine Wl.val rfl rfl rfl (Gives.move rfl rfl) ?_
              refine Wl.val rfl rfl rfl (Gives.move rfl rfl) ?_
              refine Wl.guard rfl rfl rfl (fun h110 => ?_) (fun h110 => ?_)
              · (first | replace h110 := of_decide_eq_true h110 | replace h110 := nd_true h110 | skip)
                refine Wl.val rfl rfl rfl (Gives.fieldAt 1 rfl Tryd.underlying38 rfl (by kernel_rfl) rfl rfl) ?_
                refine Wl.val rfl rfl rfl (Gives.ldK rfl (by kernel_rfl) rfl hb16 rfl) ?_
                refine Wl.val rfl rfl rfl (Gives.lenS rfl Tryd.underlying36 rfl) ?_
                refine Wl.val rfl rfl rfl (Gives.leq rfl rfl rfl) ?_
                refine Wl.val rfl rfl rfl (Gives.pickT rfl rfl rfl rfl) ?_
                refine Wl.val rfl rfl rfl (Gives.move rfl rfl) ?_
                refine Wl.guard rfl rfl rfl (fun h116 => ?_) (fun h116 => ?_)
                · (first | replace h116 := of_decide_eq_true h116 | replace h116 := nd_true h116 | skip)
                  refine Wl.val rfl rfl rfl (Gives.fieldAt 2 rfl Tryd.underlying38 rfl (by kernel_rfl) rfl rfl) ?_
                  refine Wl.val rfl rfl rfl (Gives.ldK rfl (by kernel_rfl) rfl hb16 rfl) ?_
                  refine Wl.val rfl rfl rfl (Gives.lenS rfl Tryd.underlying36 rfl) ?_
                  refine Wl.val rfl rfl rfl (Gives.leq rfl rfl rfl) ?_
                  refine Wl.val rfl rfl rfl (Gives.pickT rfl rfl rfl rfl) ?_
                  refine Wl.val rfl rfl rfl (Gives.assign rfl rfl) ?_
                  refine Wl.nil ?_
                  refine Wx.blockN ?_
                  refine Wx.thenN (hK32 _ _ ?_)
                  refine Wc.keep [(1, _), (8, _), (103, _), (104, _), (105, _)] (.cons rfl (.cons rfl (.cons rfl (.cons rfl (.cons rfl (.nil)))))) ?_
                  refine Wc.region ?_
                  refine Wl.val rfl rfl rfl (Gives.add rfl rfl rfl (by first | exact IntWalk.i64_in _ (by omega) | exact u64_in _ (by omega) | exact u32_in _ (by omega) | exact u8_in _ (by omega) | exact rfl)) ?_
                  refine Wl.val rfl rfl rfl (Gives.move rfl rfl) ?_
                  refine Wl.nil ?_
                  refine Wx.thenN ?_
                  refine hKL4 (i + 1, decide ((vn : Int) ≤ 128)) _ _ (.cons (by first | exact rfl | exact look_int rfl (by omega) | exact look_slice rfl (by omega)) (.cons (by first | exact rfl | exact look_int rfl (by omega) | exact look_slice rfl (by omega)) (.cons rfl (.cons rfl (.cons rfl (.nil)))))) ⟨by omega, by rw [all_take _ _ _ _ ha, ← Bool.and_assoc, ← hB, h110]; unfold authShort; rw [hnn, hvn, decide_eq_true h116]; rfl, hb1, hE⟩ (by show an - (i + 1) < an - i; omega)
                · (first | replace h116 := of_decide_eq_false h116 | replace h116 := nd_false h116 | skip)
                  refine Wl.pass rfl rfl rfl ?_
                  refine Wl.pass rfl rfl rfl ?_
                  refine Wl.pass rfl rfl rfl ?_
                  refine Wl.pass rfl rfl rfl ?_
                  refine Wl.val rfl rfl rfl (Gives.pickF rfl rfl rfl rfl) ?_
                  refine Wl.val rfl rfl rfl (Gives.assign rfl rfl) ?_
                  refine Wl.nil ?_
                  refine Wx.blockN ?_
                  refine Wx.thenN (hK32 _ _ ?_)
                  refine Wc.keep [(1, _), (8, _), (103, _), (104, _), (105, _)] (.cons rfl (.cons rfl (.cons rfl (.cons rfl (.cons rfl (.nil)))))) ?_
                  refine Wc.region ?_
                  refine Wl.val rfl rfl rfl (Gives.add rfl rfl rfl (by first | exact IntWalk.i64_in _ (by omega) | exact u64_in _ (by omega) | exact u32_in _ (by omega) | exact u8_in _ (by omega) | exact rfl)) ?_
                  refine Wl.val rfl rfl rfl (Gives.move rfl rfl) ?_
                  refine Wl.nil ?_
                  refine Wx.thenN ?_
                  refine hKL4 (i + 1, false) _ _ (.cons (by first | exact rfl | exact look_int rfl (by omega) | exact look_slice rfl (by omega)) (.cons (by first | exact rfl | exact look_int rfl (by omega) | exact look_slice rfl (by omega)) (.cons rfl (.cons rfl (.cons rfl (.nil)))))) ⟨by omega, by rw [all_take _ _ _ _ ha, ← Bool.and_assoc, ← hB, h110]; unfold authShort; rw [hnn, hvn, decide_eq_false h116]; rfl, hb1, hE⟩ (by show an - (i + 1) < an - i; omega)
              · (first | replace h110 := of_decide_eq_false h110 | replace h110 := nd_false h110 | skip)
                refine Wl.pass rfl rfl rfl ?_
                refine Wl.pass rfl rfl rfl ?_
                refine Wl.pass rfl rfl rfl ?_
                refine Wl.pass rfl rfl rfl ?_
                refine Wl.val rfl rfl rfl (Gives.pickF rfl rfl rfl rfl) ?_
                refine Wl.val rfl rfl rfl (Gives.move rfl rfl) ?_
                refine Wl.guardF rfl rfl rfl rfl ?_
                refine Wl.pass rfl rfl rfl ?_
                refine Wl.pass rfl rfl rfl ?_
                refine Wl.pass rfl rfl rfl ?_
                refine Wl.pass rfl rfl rfl ?_
                refine Wl.val rfl rfl rfl (Gives.pickF rfl rfl rfl rfl) ?_
                refine Wl.val rfl rfl rfl (Gives.assign rfl rfl) ?_
                refine Wl.nil ?_
                refine Wx.blockN ?_
                refine Wx.thenN (hK32 _ _ ?_)
                refine Wc.keep [(1, _), (8, _), (103, _), (104, _), (105, _)] (.cons rfl (.cons rfl (.cons rfl (.cons rfl (.cons rfl (.nil)))))) ?_
                refine Wc.region ?_
                refine Wl.val rfl rfl rfl (Gives.add rfl rfl rfl (by first | exact IntWalk.i64_in _ (by omega) | exact u64_in _ (by omega) | exact u32_in _ (by omega) | exact u8_in _ (by omega) | exact rfl)) ?_
                refine Wl.val rfl rfl rfl (Gives.move rfl rfl) ?_
                refine Wl.nil ?_
                refine Wx.thenN ?_
                refine hKL4 (i + 1, false) _ _ (.cons (by first | exact rfl | exact look_int rfl (by omega) | exact look_slice rfl (by omega)) (.cons (by first | exact rfl | exact look_int rfl (by omega) | exact look_slice rfl (by omega)) (.cons rfl (.cons rfl (.cons rfl (.nil)))))) ⟨by omega, by rw [all_take _ _ _ _ ha, ← Bool.and_assoc, ← hB, h110]; rfl, hb1, hE⟩ (by show an - (i + 1) < an - i; omega)
            · (first | replace h106 := of_decide_eq_false h106 | replace h106 := nd_false h106 | skip)
              refine Wc.exit ?_
              refine Wx.thenE ?_
              refine Wx.thenE ?_
              refine Wx.hit ?_
              refine Wx.thenN (hK28 _ _ ?_)
              refine Wc.seq (fun K34 hK34 => ?_)
              refine Wc.seq (fun K35 hK35 => ?_)
              refine Wc.keep [(1, _), (8, _)] (.cons rfl (.cons rfl (.nil))) ?_
              obtain rfl : an = i := by omega
              rw [all_all _ _ _ hla] at hB
              generalize hBB4 : B = f4 at *
              clear hBB4
              have hB4 := hB
              clear hB
              refine Wc.region ?_
              refine Wl.val rfl rfl rfl (Gives.fieldAt 4 rfl Tryd.underlying33 rfl (by kernel_rfl) rfl rfl) ?_
              refine Wl.val rfl rfl rfl (Gives.ldK rfl (by kernel_rfl) rfl hb1 rfl) ?_
              refine Wl.val rfl rfl rfl (Gives.lenS rfl Tryd.underlying31 rfl) ?_
              refine Wl.val rfl rfl rfl (Gives.move rfl rfl) ?_
              refine Wl.nil ?_
              refine Wx.thenN (hK35 _ _ ?_)
              refine Wc.block ?_
              refine Wc.keep [(1, _), (8, _), (124, _), (125, _), (126, _)] (.cons rfl (.cons rfl (.cons rfl (.cons rfl (.cons rfl (.nil)))))) ?_
              refine Wc.loopC (ι := Nat × Bool) [(1, _), (124, _), (125, _)] (fun | (i, B) => [(126, .int .i64 (i : Int)), (8, .bool B)]) (fun | (i, B), wr => i ≤ bn ∧ B = (f4 && (q.bs.take i).all blobShort) ∧ Blk wr b1 33 #[.int .i64 q.code, .slice hA hn hc, .slice aA an ac, .slice iA iN ic, .slice bA bn bc] ∧ Ext w wr) (fun | (i, _) => bn - i) ((0, f4)) (.cons (by first | exact rfl | exact look_int rfl (by omega) | exact look_slice rfl (by omega)) (.cons (by first | exact rfl | exact look_int rfl (by omega) | exact look_slice rfl (by omega)) (.cons rfl (.cons rfl (.cons rfl (.nil)))))) (⟨Nat.zero_le _, by simp, hb1, hE⟩) ?_
              intro ⟨i, B⟩ wr hJ KL5 hKL5
              clear hb1 hE
              obtain ⟨hi, hB, hb1, hE⟩ := hJ
              refine Wc.seq (fun K36 hK36 => ?_)
              refine Wc.keep [(1, _), (8, _), (124, _), (125, _), (126, _)] (.cons rfl (.cons rfl (.cons rfl (.cons rfl (.cons rfl (.nil)))))) ?_
              refine Wc.region ?_
              refine Wl.val rfl rfl rfl (Gives.lss rfl rfl rfl) ?_
              refine Wl.nil ?_
              refine Wx.thenN (hK36 _ _ ?_)
              refine Wc.seq (fun K37 hK37 => ?_)
              refine Wc.cond _ rfl (fun h127 => ?_) (fun h127 => ?_)
              · (first | replace h127 := of_decide_eq_true h127 | replace h127 := nd_true h127 | skip)
                refine Wc.skip ?_
                refine Wx.thenN (hK37 _ _ ?_)
                refine Wc.seq (fun K38 hK38 => ?_)
                refine Wc.block ?_
                refine Wc.seq (fun K39 hK39 => ?_)
                refine Wc.keep [(1, _), (8, _), (124, _), (125, _), (126, _)] (.cons rfl (.cons rfl (.cons rfl (.cons rfl (.cons rfl (.nil)))))) ?_
                obtain ⟨xb, xo, rfl, hbw, z, zA, zn, zc, hz, hcell, hZ⟩ := (hbs.ext hE).at' (show i < bn by omega)
                have hzn := hZ.len
                refine Wc.region ?_
                refine Wl.val rfl rfl rfl (Gives.ixS (i := _) rfl Tryd.underlying31 (by kernel_rfl) rfl rfl rfl (by omega)) ?_
                refine Wl.val rfl rfl rfl (Gives.ldC rfl (by kernel_rfl) rfl hcell) ?_
                refine Wl.val rfl rfl rfl (Gives.assign rfl rfl) ?_
                refine Wl.nil ?_
                refine Wx.thenN (hK39 _ _ ?_)
                refine Wc.keep [(1, _), (8, _), (18, _), (124, _), (125, _), (126, _)] (.cons rfl (.cons rfl (.cons rfl (.cons rfl (.cons rfl (.cons rfl (.nil))))))) ?_
                refine Wc.region ?_
                refine Wl.val rfl rfl rfl (Gives.move rfl rfl) ?_
                refine Wl.val rfl rfl rfl (Gives.move rfl rfl) ?_
                refine Wl.guard rfl rfl rfl (fun h131 => ?_) (fun h131 => ?_)
                · (first | replace h131 := of_decide_eq_true h131 | replace h131 := nd_true h131 | skip)
                  refine Wl.val rfl rfl rfl (Gives.move rfl rfl) ?_
                  refine Wl.val rfl rfl rfl (Gives.lenS rfl Tryd.underlying36 rfl) ?_
                  refine Wl.val rfl rfl rfl (Gives.leq rfl rfl rfl) ?_
                  refine Wl.val rfl rfl rfl (Gives.pickT rfl rfl rfl rfl) ?_
                  refine Wl.val rfl rfl rfl (Gives.assign rfl rfl) ?_
                  refine Wl.nil ?_
                  refine Wx.blockN ?_
                  refine Wx.thenN (hK38 _ _ ?_)
                  refine Wc.keep [(1, _), (8, _), (124, _), (125, _), (126, _)] (.cons rfl (.cons rfl (.cons rfl (.cons rfl (.cons rfl (.nil)))))) ?_
                  refine Wc.region ?_
                  refine Wl.val rfl rfl rfl (Gives.add rfl rfl rfl (by first | exact IntWalk.i64_in _ (by omega) | exact u64_in _ (by omega) | exact u32_in _ (by omega) | exact u8_in _ (by omega) | exact rfl)) ?_
                  refine Wl.val rfl rfl rfl (Gives.move rfl rfl) ?_
                  refine Wl.nil ?_
                  refine Wx.thenN ?_
                  refine hKL5 (i + 1, decide ((zn : Int) ≤ 1024)) _ _ (.cons (by first | exact rfl | exact look_int rfl (by omega) | exact look_slice rfl (by omega)) (.cons (by first | exact rfl | exact look_int rfl (by omega) | exact look_slice rfl (by omega)) (.cons rfl (.cons rfl (.cons rfl (.nil)))))) ⟨by omega, by rw [all_take _ _ _ _ hz, ← Bool.and_assoc, ← hB, h131]; unfold blobShort; rw [hzn]; rfl, hb1, hE⟩ (by show bn - (i + 1) < bn - i; omega)
                · (first | replace h131 := of_decide_eq_false h131 | replace h131 := nd_false h131 | skip)
                  refine Wl.pass rfl rfl rfl ?_
                  refine Wl.pass rfl rfl rfl ?_
                  refine Wl.pass rfl rfl rfl ?_
                  refine Wl.val rfl rfl rfl (Gives.pickF rfl rfl rfl rfl) ?_
                  refine Wl.val rfl rfl rfl (Gives.assign rfl rfl) ?_
                  refine Wl.nil ?_
                  refine Wx.blockN ?_
                  refine Wx.thenN (hK38 _ _ ?_)
                  refine Wc.keep [(1, _), (8, _), (124, _), (125, _), (126, _)] (.cons rfl (.cons rfl (.cons rfl (.cons rfl (.cons rfl (.nil)))))) ?_
                  refine Wc.region ?_
                  refine Wl.val rfl rfl rfl (Gives.add rfl rfl rfl (by first | exact IntWalk.i64_in _ (by omega) | exact u64_in _ (by omega) | exact u32_in _ (by omega) | exact u8_in _ (by omega) | exact rfl)) ?_
                  refine Wl.val rfl rfl rfl (Gives.move rfl rfl) ?_
                  refine Wl.nil ?_
                  refine Wx.thenN ?_
                  refine hKL5 (i + 1, false) _ _ (.cons (by first | exact rfl | exact look_int rfl (by omega) | exact look_slice rfl (by omega)) (.cons (by first | exact rfl | exact look_int rfl (by omega) | exact look_slice rfl (by omega)) (.cons rfl (.cons rfl (.cons rfl (.nil)))))) ⟨by omega, by rw [all_take _ _ _ _ hz, ← Bool.and_assoc, ← hB, h131]; rfl, hb1, hE⟩ (by show bn - (i + 1) < bn - i; omega)
              · (first | replace h127 := of_decide_eq_false h127 | replace h127 := nd_false h127 | skip)
                refine Wc.exit ?_
                refine Wx.thenE ?_
                refine Wx.thenE ?_
                refine Wx.hit ?_
                refine Wx.thenN (hK34 _ _ ?_)
                refine Wc.seq (fun K40 hK40 => ?_)
                refine Wc.seq (fun K41 hK41 => ?_)
                refine Wc.keep [(1, _), (8, _)] (.cons rfl (.cons rfl (.nil))) ?_
                obtain rfl : bn = i := by omega
                rw [all_all _ _ _ hlb] at hB
                generalize hBB5 : B = f5 at *
                clear hBB5
                have hB5 := hB
                clear hB
                have hL : f5 = (q.us.all authShort && q.bs.all blobShort) := by rw [hB5, hB4]; rfl
                refine Wc.region ?_
                refine Wl.val rfl rfl rfl (Gives.move rfl rfl) ?_
                refine Wl.val rfl rfl rfl (Gives.not rfl rfl) ?_
                refine Wl.val rfl rfl rfl (Gives.move rfl rfl) ?_
                refine Wl.guard rfl rfl rfl (fun h139 => ?_) (fun h139 => ?_)
                · (first | replace h139 := of_decide_eq_false h139 | replace h139 := nd_false h139 | skip)
                  refine Wl.val rfl rfl rfl (Gives.ldW rfl (by kernel_rfl) rfl hb1 (by kernel_rfl)) ?_
                  refine Wl.call rfl rfl rfl rfl Tryd.func32 rfl (by kernel_rfl) rfl (writeP_calls (P := P) _ (hT.ext hE) q ⟨hA, hn, hc, aA, an, ac, iA, iN, ic, bA, bn, bc⟩ (hq0.ext hE) (small_of hsm0 (by rw [← hL]; simpa using h139))) ?_
                  rintro x2 w32 ⟨S, m, c, rfl, hO, hx2⟩
                  refine ⟨_, rfl, ?_⟩
                  have hOl := hO.len
                  replace hb1 := hb1.ext hx2
                  replace hE := hE.trans hx2
                  refine Wl.val rfl rfl rfl (Gives.lenS rfl Tryd.underlying36 rfl) ?_
                  refine Wl.val rfl rfl rfl (Gives.gtr rfl rfl rfl) ?_
                  refine Wl.val rfl rfl rfl (Gives.pickF rfl rfl rfl rfl) ?_
                  refine Wl.nil ?_
                  refine Wx.thenN (hK41 _ _ ?_)
                  refine Wc.cond _ rfl (fun h144 => ?_) (fun h144 => ?_)
                  · (first | replace h144 := of_decide_eq_true h144 | replace h144 := nd_true h144 | skip)
                    refine Wc.seq (fun K42 hK42 => ?_)
                    refine Wc.keep [] (.nil) ?_
                    refine Wc.region ?_
                    refine Wl.val rfl rfl rfl (Gives.assign rfl rfl) ?_
                    refine Wl.nil ?_
                    refine Wx.thenN (hK42 _ _ ?_)
                    refine Wc.ret ?_
                    refine Wx.thenR ?_
                    refine Wx.ret [_] ⟨rfl, trivial⟩ ?_
                    exact ⟨errI (check4 hsq h29 hArg (by unfold longS; rw [← hL, hOl, decide_eq_false (by omega)]; simp)), hE⟩
                  · (first | replace h144 := of_decide_eq_false h144 | replace h144 := nd_false h144 | skip)
                    refine Wc.skip ?_
                    refine Wx.thenN (hK40 _ _ ?_)
                    refine Wc.seq (fun K43 hK43 => ?_)
                    refine Wc.keep [] (.nil) ?_
                    refine Wc.region ?_
                    refine Wl.val rfl rfl rfl (Gives.assign rfl rfl) ?_
                    refine Wl.nil ?_
                    refine Wx.thenN (hK43 _ _ ?_)
                    refine Wc.ret ?_
                    refine Wx.ret [_] ⟨rfl, trivial⟩ ?_
                    exact ⟨errI (check0 hsq h29 hArg (by unfold longS; rw [← hL, hOl, decide_eq_true (by omega)]; simpa using h139)), hE⟩
                · (first | replace h139 := of_decide_eq_true h139 | replace h139 := nd_true h139 | skip)
                  refine Wl.pass rfl rfl rfl ?_
                  refine Wl.pass rfl rfl rfl ?_
                  refine Wl.pass rfl rfl rfl ?_
                  refine Wl.pass rfl rfl rfl ?_
                  refine Wl.val rfl rfl rfl (Gives.pickT rfl rfl rfl rfl) ?_
                  refine Wl.nil ?_
                  refine Wx.thenN (hK41 _ _ ?_)
                  refine Wc.condT rfl rfl ?_
                  refine Wc.seq (fun K44 hK44 => ?_)
                  refine Wc.keep [] (.nil) ?_
                  refine Wc.region ?_
                  refine Wl.val rfl rfl rfl (Gives.assign rfl rfl) ?_
                  refine Wl.nil ?_
                  refine Wx.thenN (hK44 _ _ ?_)
                  refine Wc.ret ?_
                  refine Wx.thenR ?_
                  refine Wx.ret [_] ⟨rfl, trivial⟩ ?_
                  exact ⟨errI (check4 hsq h29 hArg (by unfold longS; rw [← hL]; simp at h139; rw [h139]; rfl)), hE⟩
end Go.Proofs.YtaekpiejdgahfaaDoor
