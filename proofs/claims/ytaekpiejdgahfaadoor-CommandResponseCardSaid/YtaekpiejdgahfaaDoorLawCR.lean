/- CommandResponse, CommandReads: the walks of the laws. -/
import Derived.Test.YtaekpiejdgahfaaDoorCmdR4
namespace Go.Proofs.YtaekpiejdgahfaaDoor
set_option linter.all false
open Go.RowKit
theorem fold_le {β : Type} (f : List UInt8 → β → List UInt8) (k : Nat) (hf : ∀ b x, (f b x).length ≤ b.length + k) : ∀ (l : List β) (b : List UInt8), (l.foldl f b).length ≤ b.length + k * l.length
  | [], b => by simp
  | x :: r, b => by
    have h1 := fold_le f k hf r (f b x)
    have h2 := hf b x
    rw [List.foldl_cons, List.length_cons, Nat.mul_succ]
    omega
theorem respS_len {x : Rsp} (h : GoodR x) : (respS x).length ≤ 500000 := by
  have hi := h.i
  have hb := h.b
  have hn := h.n
  unfold respS
  split
  · simp only [List.foldl_cons, List.foldl_nil]
    unfold listS blobsS
    have h1 := fold_le blobS 65543 (fun b x => blobS_len b x) x.ns ((x.bs.foldl blobS (respI x ++ [byteOf x.bs.length])) ++ [byteOf x.ns.length])
    have h2 := fold_le blobS 65543 (fun b x => blobS_len b x) x.bs (respI x ++ [byteOf x.bs.length])
    have h3 := fold_le (fun b z => uintS b 8 z) 8 (fun b z => by have := uintS_len b 8 z; omega) x.is ([byteOf x.err] ++ [byteOf x.is.length])
    have h4 : (respI x).length ≤ 50 := by
      unfold respI intsS
      simp only [List.length_append, List.length_cons, List.length_nil] at h3 ⊢
      omega
    simp only [List.length_append, List.length_cons, List.length_nil] at h1 h2 ⊢
    omega
  · simp
set_option maxHeartbeats 1000000 in
set_option maxRecDepth 10000 in
theorem commandResponse_walk (w : World) (hT : Tabs w) (er8 : UInt8) (iA : Option Addr) (iN ic : Nat) (is : List Int) (his : IV w (fun _ => True) iA iN ic is) (bA : Option Addr) (bn bc : Nat) (bs : List (List UInt8)) (hbs : BL w (fun _ => True) bA bn bc bs) (nA : Option Addr) (nn nc : Nat) (ns : List (List UInt8)) (hns : BL w (fun _ => True) nA nn nc ns) :
    Calls Tryd.prog 9 #[.int .u8 (er8.toNat : Int), .slice iA iN ic, .slice bA bn bc, .slice nA nn nc] w fun e w' => e = .returned (.bool true) ∧ Ext w w' := by
  refine calls_enter Tryd.func9 rfl Tryd.ntmps9 rfl ?_
  have hE : Ext w w := Ext.refl w
  refine Wc.seq (fun K1 hK1 => ?_)
  refine Wc.keep [(0, _), (1, _), (2, _), (3, _)] (.cons rfl (.cons rfl (.cons rfl (.cons rfl (.nil))))) ?_
  refine Wc.region ?_
  refine Wl.val rfl rfl rfl (Gives.assign rfl rfl) ?_
  refine Wl.nil ?_
  refine Wx.thenN (hK1 _ _ ?_)
  refine Wc.seq (fun K2 hK2 => ?_)
  refine Wc.seq (fun K3 hK3 => ?_)
  refine Wc.keep [(0, _), (1, _), (2, _), (3, _)] (.cons rfl (.cons rfl (.cons rfl (.cons rfl (.nil))))) ?_
  refine Wc.region ?_
  refine Wl.call rfl rfl rfl rfl Tryd.func10 rfl (by kernel_rfl) rfl (awake_calls _ (hT.ext hE)) ?_
  rintro x0 w0 ⟨rfl, hx0⟩
  refine ⟨_, rfl, ?_⟩
  replace hE := hE.trans hx0
  refine Wl.val rfl rfl rfl (Gives.not rfl rfl) ?_
  refine Wl.nil ?_
  refine Wx.thenN (hK3 _ _ ?_)
  refine Wc.condF rfl rfl ?_
  refine Wc.skip ?_
  refine Wx.thenN (hK2 _ _ ?_)
  refine Wc.seq (fun K4 hK4 => ?_)
  refine Wc.keep [(0, _), (1, _), (2, _), (3, _)] (.cons rfl (.cons rfl (.cons rfl (.cons rfl (.nil))))) ?_
  refine Wc.region ?_
  refine Wl.val rfl rfl rfl (Gives.move rfl rfl) ?_
  refine Wl.val rfl rfl rfl (Gives.move rfl rfl) ?_
  refine Wl.val rfl rfl rfl (Gives.move rfl rfl) ?_
  refine Wl.val rfl rfl rfl (Gives.move rfl rfl) ?_
  refine Wl.call rfl rfl rfl rfl Tryd.func24 rfl (by kernel_rfl) rfl (response_calls _ er8 iA iN ic is (his.ext hE) bA bn bc bs (hbs.ext hE) nA nn nc ns (hns.ext hE)) ?_
  rintro x1 w3 ⟨x, r, rfl, hG, hV, hx1⟩
  refine ⟨_, rfl, ?_⟩
  replace hE := hE.trans hx1
  obtain ⟨ht1, ht2⟩ := rsp_trip hG
  refine Wl.val rfl rfl rfl (Gives.move rfl rfl) ?_
  refine Wl.val rfl rfl rfl (Gives.extract rfl rfl rfl) ?_
  refine Wl.val rfl rfl rfl (Gives.extract rfl rfl rfl) ?_
  refine Wl.does rfl rfl rfl (Does.alB (.agg #[(.int .i64 0), (.slice none 0 0), (.slice none 0 0), (.slice none 0 0)]) rfl (by kernel_rfl) rfl) ?_
  rintro _ w3_8 ⟨b9, rfl, hs9, hb9, hx3_8⟩
  have hg9 : w.heap.size ≤ b9 := Nat.le_trans hE.size hs9
  replace hE := hE.trans hx3_8
  refine Wl.acts rfl rfl (Does.stL 4 rfl rfl rfl hb9 (by kernel_rfl) rfl rfl rfl) ?_
  rintro _ w3_9 ⟨hbn, hF3_9⟩
  replace hE := Ext.over hE hF3_9 hg9
  replace hb9 := hbn
  clear hbn
  replace hV := hV.ext (Ext.over hx3_8 hF3_9 hs9)
  refine Wl.val rfl rfl rfl (Gives.assign rfl rfl) ?_
  refine Wl.nil ?_
  refine Wx.thenN (hK4 _ _ ?_)
  refine Wc.seq (fun K5 hK5 => ?_)
  refine Wc.keep [(9, _)] (.cons rfl (.nil)) ?_
  refine Wc.region ?_
  refine Wl.val rfl rfl rfl (Gives.ldW rfl (by kernel_rfl) rfl hb9 (by kernel_rfl)) ?_
  refine Wl.call rfl rfl rfl rfl Tryd.func29 rfl (by kernel_rfl) rfl (encRespP_calls (P := fun _ => True) _ x r hV hG.small) ?_
  rintro x2 w4 ⟨S, m, c, rfl, hO, hx2⟩
  refine ⟨_, rfl, ?_⟩
  replace hV := hV.ext hx2
  replace hb9 := hb9.ext hx2
  replace hE := hE.trans hx2
  have hB := hO.bv (P := fun _ => True) (fun _ _ => trivial)
  have hBl := hB.len
  have hlen := respS_len hG
  refine Wl.val rfl rfl rfl (Gives.assign rfl rfl) ?_
  refine Wl.nil ?_
  refine Wx.thenN (hK5 _ _ ?_)
  refine Wc.seq (fun K6 hK6 => ?_)
  refine Wc.keep [(9, _), (11, _)] (.cons rfl (.cons rfl (.nil))) ?_
  refine Wc.region ?_
  refine Wl.val rfl rfl rfl (Gives.move rfl rfl) ?_
  refine Wl.call rfl rfl rfl rfl Tryd.func26 rfl (by kernel_rfl) rfl (decRespP_calls (P := fun _ => True) _ S m c (respS x) hB (by omega)) ?_
  rintro x3 w5 ⟨r2, rfl, hV2, hx3⟩
  refine ⟨_, rfl, ?_⟩
  rw [ht1, ht2]
  rw [ht2] at hV2
  replace hV := hV.ext hx3
  replace hB := hB.ext hx3
  replace hb9 := hb9.ext hx3
  replace hE := hE.trans hx3
  refine Wl.val rfl rfl rfl (Gives.move rfl rfl) ?_
  refine Wl.val rfl rfl rfl (Gives.extract rfl rfl rfl) ?_
  refine Wl.val rfl rfl rfl (Gives.extract rfl rfl rfl) ?_
  refine Wl.does rfl rfl rfl (Does.alB (.agg #[(.int .i64 0), (.slice none 0 0), (.slice none 0 0), (.slice none 0 0)]) rfl (by kernel_rfl) rfl) ?_
  rintro _ w5_5 ⟨b12, rfl, hs12, hb12, hx5_5⟩
  have hn9_12 : b9 ≠ b12 := hb9.ne hs12
  have hg12 : w.heap.size ≤ b12 := Nat.le_trans hE.size hs12
  replace hb9 := hb9.ext hx5_5
  replace hE := hE.trans hx5_5
  refine Wl.acts rfl rfl (Does.stL 4 rfl rfl rfl hb12 (by kernel_rfl) rfl rfl rfl) ?_
  rintro _ w5_6 ⟨hbn, hF5_6⟩
  replace hb9 := hb9.fr hF5_6 (by first | assumption | exact Ne.symm (by assumption))
  replace hE := Ext.over hE hF5_6 hg12
  replace hb12 := hbn
  clear hbn
  have hy5 := Ext.over hx5_5 hF5_6 hs12
  replace hV := hV.ext hy5
  replace hV2 := hV2.ext hy5
  replace hB := hB.ext hy5
  refine Wl.val rfl rfl rfl (Gives.assign rfl rfl) ?_
  refine Wl.nil ?_
  refine Wx.thenN (hK6 _ _ ?_)
  refine Wc.seq (fun K7 hK7 => ?_)
  refine Wc.keep [(9, _), (11, _), (12, _), (13, _)] (.cons rfl (.cons rfl (.cons rfl (.cons rfl (.nil))))) ?_
  refine Wc.region ?_
  refine Wl.val rfl rfl rfl (Gives.move rfl rfl) ?_
  refine Wl.val rfl rfl rfl (Gives.ldW rfl (by kernel_rfl) rfl hb9 (by kernel_rfl)) ?_
  refine Wl.call rfl rfl rfl rfl Tryd.func25 rfl (by kernel_rfl) rfl (encRespR_calls (P := fun _ => True) _ x r hV hG.small) ?_
  rintro x4 w6 ⟨S2, m2, c2, rfl, hO2, hx4⟩
  refine ⟨_, rfl, ?_⟩
  replace hV := hV.ext hx4
  replace hV2 := hV2.ext hx4
  replace hB := hB.ext hx4
  have hB2 := hO2.bv (P := fun _ => True) (fun _ _ => trivial)
  replace hb9 := hb9.ext hx4
  replace hb12 := hb12.ext hx4
  replace hE := hE.trans hx4
  refine Wl.call rfl rfl rfl rfl Tryd.func20 rfl (by kernel_rfl) rfl (same_calls _ _ _ _ _ _ _ _ _ hB hB2) ?_
  rintro x5 w63 ⟨rfl, hQ5⟩
  refine ⟨_, rfl, ?_⟩
  have hx5 := hQ5.ext
  replace hV := hV.ext hx5
  replace hV2 := hV2.ext hx5
  replace hb9 := hb9.ext hx5
  replace hb12 := hb12.ext hx5
  replace hE := hE.trans hx5
  refine Wl.val rfl rfl rfl (Gives.move rfl rfl) ?_
  refine Wl.guardT rfl rfl rfl (by simp) ?_
  refine Wl.val rfl rfl rfl (Gives.move rfl rfl) ?_
  refine Wl.val rfl rfl rfl (Gives.eql rfl rfl rfl) ?_
  refine Wl.val rfl rfl rfl (Gives.pickT rfl rfl rfl rfl) ?_
  refine Wl.val rfl rfl rfl (Gives.move rfl rfl) ?_
  refine Wl.guardT rfl rfl rfl (by simp) ?_
  refine Wl.val rfl rfl rfl (Gives.ldW rfl (by kernel_rfl) rfl hb12 (by kernel_rfl)) ?_
  refine Wl.val rfl rfl rfl (Gives.ldW rfl (by kernel_rfl) rfl hb9 (by kernel_rfl)) ?_
  refine Wl.call rfl rfl rfl rfl Tryd.func28 rfl (by kernel_rfl) rfl (sameR_calls (P := fun _ => True) (P' := fun _ => True) _ x r2 r hV2 hV) ?_
  rintro x6 w611 ⟨rfl, hx6⟩
  refine ⟨_, rfl, ?_⟩
  replace hb9 := hb9.ext hx6
  replace hb12 := hb12.ext hx6
  replace hE := hE.trans hx6
  refine Wl.val rfl rfl rfl (Gives.pickT rfl rfl rfl rfl) ?_
  refine Wl.val rfl rfl rfl (Gives.assign rfl rfl) ?_
  refine Wl.nil ?_
  refine Wx.thenN (hK7 _ _ ?_)
  refine Wc.ret ?_
  refine Wx.ret [_] ⟨rfl, trivial⟩ ?_
  exact ⟨rfl, hE⟩
set_option maxHeartbeats 2000000 in
set_option maxRecDepth 10000 in
theorem commandReads_walk (w : World) (hT : Tabs w) (er8 : UInt8) (iA : Option Addr) (iN ic : Nat) (is : List Int) (his : IV w (fun _ => True) iA iN ic is) (bA : Option Addr) (bn bc : Nat) (bs : List (List UInt8)) (hbs : BL w (fun _ => True) bA bn bc bs) (nA : Option Addr) (nn nc : Nat) (ns : List (List UInt8)) (hns : BL w (fun _ => True) nA nn nc ns)
    (pos : Int) (x8 : UInt8) (cut : Int) (R : Option Addr) (rn rc : Nat) (raw : List UInt8) (hr : BV w (fun _ => True) R rn rc raw) :
    Calls Tryd.prog 8 #[.int .u8 (er8.toNat : Int), .slice iA iN ic, .slice bA bn bc, .slice nA nn nc, .int .i64 pos, .int .u8 (x8.toNat : Int), .int .i64 cut, .slice R rn rc] w fun e w' => e = .returned (.bool true) ∧ Ext w w' := by
  have hrl := hr.len
  refine calls_enter Tryd.func8 rfl Tryd.ntmps8 rfl ?_
  have hE : Ext w w := Ext.refl w
  refine Wc.seq (fun K1 hK1 => ?_)
  refine Wc.keep [(0, _), (1, _), (2, _), (3, _), (4, _), (5, _), (6, _), (7, _)] (.cons rfl (.cons rfl (.cons rfl (.cons rfl (.cons rfl (.cons rfl (.cons rfl (.cons rfl (.nil))))))))) ?_
  refine Wc.region ?_
  refine Wl.val rfl rfl rfl (Gives.assign rfl rfl) ?_
  refine Wl.nil ?_
  refine Wx.thenN (hK1 _ _ ?_)
  refine Wc.seq (fun K2 hK2 => ?_)
  refine Wc.seq (fun K3 hK3 => ?_)
  refine Wc.keep [(0, _), (1, _), (2, _), (3, _), (4, _), (5, _), (6, _), (7, _)] (.cons rfl (.cons rfl (.cons rfl (.cons rfl (.cons rfl (.cons rfl (.cons rfl (.cons rfl (.nil))))))))) ?_
  refine Wc.region ?_
  refine Wl.call rfl rfl rfl rfl Tryd.func10 rfl (by kernel_rfl) rfl (awake_calls _ (hT.ext hE)) ?_
  rintro x0 w0 ⟨rfl, hx0⟩
  refine ⟨_, rfl, ?_⟩
  replace hE := hE.trans hx0
  refine Wl.val rfl rfl rfl (Gives.not rfl rfl) ?_
  refine Wl.nil ?_
  refine Wx.thenN (hK3 _ _ ?_)
  refine Wc.condF rfl rfl ?_
  refine Wc.skip ?_
  refine Wx.thenN (hK2 _ _ ?_)
  refine Wc.seq (fun K4 hK4 => ?_)
  refine Wc.seq (fun K5 hK5 => ?_)
  refine Wc.keep [(0, _), (1, _), (2, _), (3, _), (4, _), (5, _), (6, _), (7, _)] (.cons rfl (.cons rfl (.cons rfl (.cons rfl (.cons rfl (.cons rfl (.cons rfl (.cons rfl (.nil))))))))) ?_
  refine Wc.region ?_
  refine Wl.val rfl rfl rfl (Gives.move rfl rfl) ?_
  refine Wl.val rfl rfl rfl (Gives.lenS rfl Tryd.underlying36 rfl) ?_
  refine Wl.val rfl rfl rfl (Gives.gtr rfl rfl rfl) ?_
  refine Wl.nil ?_
  refine Wx.thenN (hK5 _ _ ?_)
  refine Wc.cond _ rfl (fun h32 => ?_) (fun h32 => ?_)
  · (first | replace h32 := of_decide_eq_true h32 | replace h32 := nd_true h32 | skip)
    refine Wc.seq (fun K6 hK6 => ?_)
    refine Wc.keep [] (.nil) ?_
    refine Wc.region ?_
    refine Wl.val rfl rfl rfl (Gives.assign rfl rfl) ?_
    refine Wl.nil ?_
    refine Wx.thenN (hK6 _ _ ?_)
    refine Wc.ret ?_
    refine Wx.thenR ?_
    refine Wx.ret [_] ⟨rfl, trivial⟩ ?_
    exact ⟨rfl, hE⟩
  · (first | replace h32 := of_decide_eq_false h32 | replace h32 := nd_false h32 | skip)
    refine Wc.skip ?_
    refine Wx.thenN (hK4 _ _ ?_)
    refine Wc.seq (fun K7 hK7 => ?_)
    refine Wc.keep [(0, _), (1, _), (2, _), (3, _), (4, _), (5, _), (6, _), (7, _)] (.cons rfl (.cons rfl (.cons rfl (.cons rfl (.cons rfl (.cons rfl (.cons rfl (.cons rfl (.nil))))))))) ?_
    refine Wc.region ?_
    refine Wl.val rfl rfl rfl (Gives.move rfl rfl) ?_
    refine Wl.val rfl rfl rfl (Gives.move rfl rfl) ?_
    refine Wl.val rfl rfl rfl (Gives.move rfl rfl) ?_
    refine Wl.val rfl rfl rfl (Gives.move rfl rfl) ?_
    refine Wl.call rfl rfl rfl rfl Tryd.func24 rfl (by kernel_rfl) rfl (response_calls _ er8 iA iN ic is (his.ext hE) bA bn bc bs (hbs.ext hE) nA nn nc ns (hns.ext hE)) ?_
    rintro x1 w3 ⟨x, r, rfl, hG, hV, hx1⟩
    refine ⟨_, rfl, ?_⟩
    replace hE := hE.trans hx1
    refine Wl.val rfl rfl rfl (Gives.move rfl rfl) ?_
    refine Wl.val rfl rfl rfl (Gives.extract rfl rfl rfl) ?_
    refine Wl.val rfl rfl rfl (Gives.extract rfl rfl rfl) ?_
    refine Wl.does rfl rfl rfl (Does.alB (.agg #[(.int .i64 0), (.slice none 0 0), (.slice none 0 0), (.slice none 0 0)]) rfl (by kernel_rfl) rfl) ?_
    rintro _ w5_8 ⟨b17, rfl, hs17, hb17, hx5_8⟩
    have hg17 : w.heap.size ≤ b17 := Nat.le_trans hE.size hs17
    replace hE := hE.trans hx5_8
    refine Wl.acts rfl rfl (Does.stL 4 rfl rfl rfl hb17 (by kernel_rfl) rfl rfl rfl) ?_
    rintro _ w5_9 ⟨hbn, hF5_9⟩
    replace hE := Ext.over hE hF5_9 hg17
    replace hb17 := hbn
    clear hbn
    replace hV := hV.ext (Ext.over hx5_8 hF5_9 hs17)
    refine Wl.val rfl rfl rfl (Gives.assign rfl rfl) ?_
    refine Wl.nil ?_
    refine Wx.thenN (hK7 _ _ ?_)
    refine Wc.seq (fun K8 hK8 => ?_)
    refine Wc.keep [(4, _), (5, _), (6, _), (7, _), (17, _)] (.cons rfl (.cons rfl (.cons rfl (.cons rfl (.cons rfl (.nil)))))) ?_
    refine Wc.region ?_
    refine Wl.val rfl rfl rfl (Gives.ldW rfl (by kernel_rfl) rfl hb17 (by kernel_rfl)) ?_
    refine Wl.call rfl rfl rfl rfl Tryd.func25 rfl (by kernel_rfl) rfl (encRespR_calls (P := fun _ => True) _ x r hV hG.small) ?_
    rintro x3 w13 ⟨S, m, c, rfl, hO, hx3⟩
    refine ⟨_, rfl, ?_⟩
    have hW := (WB.of hO).low hE.size
    have hWl := hW.len
    have hWle := hW.le
    have hlen := respS_len hG
    have hm1 : m ≤ 500000 := by omega
    clear hb17
    replace hE := hE.trans hx3
    refine Wl.val rfl rfl rfl (Gives.assign rfl rfl) ?_
    refine Wl.nil ?_
    refine Wx.thenN (hK8 _ _ ?_)
    refine Wc.joinC (ι := List UInt8) [(6, _), (7, _), (19, _)] (fun _ => []) (fun l wr => WB wr w.heap.size S m c l ∧ Ext w wr) ?_ ?_ (.cons rfl (.cons rfl (.cons rfl (.nil))))
    · intro K9 hJ9
      refine Wc.seq (fun K10 hK10 => ?_)
      refine Wc.keep [(4, _), (5, _), (6, _), (7, _), (19, _)] (.cons rfl (.cons rfl (.cons rfl (.cons rfl (.cons rfl (.nil)))))) ?_
      refine Wc.region ?_
      refine Wl.val rfl rfl rfl (Gives.move rfl rfl) ?_
      refine Wl.val rfl rfl rfl (Gives.geq rfl rfl rfl) ?_
      refine Wl.val rfl rfl rfl (Gives.move rfl rfl) ?_
      refine Wl.guard rfl rfl rfl (fun h45 => ?_) (fun h45 => ?_)
      · (first | replace h45 := of_decide_eq_true h45 | replace h45 := nd_true h45 | skip)
        refine Wl.val rfl rfl rfl (Gives.move rfl rfl) ?_
        refine Wl.val rfl rfl rfl (Gives.move rfl rfl) ?_
        refine Wl.val rfl rfl rfl (Gives.lenS rfl Tryd.underlying36 rfl) ?_
        refine Wl.val rfl rfl rfl (Gives.lss rfl rfl rfl) ?_
        refine Wl.val rfl rfl rfl (Gives.pickT rfl rfl rfl rfl) ?_
        refine Wl.nil ?_
        refine Wx.thenN (hK10 _ _ ?_)
        refine Wc.cond _ rfl (fun h50 => ?_) (fun h50 => ?_)
        · (first | replace h50 := of_decide_eq_true h50 | replace h50 := nd_true h50 | skip)
          refine Wc.keep [(4, _), (5, _), (6, _), (7, _), (19, _)] (.cons rfl (.cons rfl (.cons rfl (.cons rfl (.cons rfl (.nil)))))) ?_
          obtain ⟨k, rfl⟩ := Int.eq_ofNat_of_zero_le (show 0 ≤ pos by omega)
          obtain ⟨g, off, rfl, hg1, hg2⟩ := hW.head (show 0 < m by omega)
          have hBb := hW.bv (P := fun _ => True) (fun _ _ => trivial)
          refine Wc.region ?_
          refine Wl.val rfl rfl rfl (Gives.move rfl rfl) ?_
          refine Wl.val rfl rfl rfl (Gives.move rfl rfl) ?_
          refine Wl.val rfl rfl rfl (Gives.ixS (i := k) rfl Tryd.underlying36 (by kernel_rfl) rfl rfl (by omega) (by omega)) ?_
          refine Wl.val rfl rfl rfl (Gives.ldC rfl (by kernel_rfl) rfl (hBb.cellAt (gb1_some (respS x) k (by omega)))) ?_
          refine Wl.val rfl rfl rfl (Gives.move rfl rfl) ?_
          refine Wl.val rfl rfl rfl (Gives.bits .xor (by simp) rfl rfl rfl (bits_u8xor _ _)) ?_
          refine Wl.val rfl rfl rfl (Gives.ixS (i := k) rfl Tryd.underlying36 (by kernel_rfl) rfl rfl (by omega) (by omega)) ?_
          refine Wl.acts rfl rfl (Does.stW (i := k) (gb1 (respS x) k ^^^ x8) rfl rfl rfl rfl hW (by kernel_rfl) (by omega)) ?_
          rintro _ w97 ⟨hW2, hF97⟩
          replace hE := Ext.over hE hF97 hg1
          refine Wl.nil ?_
          refine Wx.thenN ?_
          refine hJ9 _ _ _ (.cons rfl (.cons rfl (.cons rfl (.nil)))) ⟨hW2, hE⟩
        · (first | replace h50 := of_decide_eq_false h50 | replace h50 := nd_false h50 | skip)
          refine Wc.skip ?_
          refine Wx.thenN ?_
          refine hJ9 _ _ _ (.cons rfl (.cons rfl (.cons rfl (.nil)))) ⟨hW, hE⟩
      · (first | replace h45 := of_decide_eq_false h45 | replace h45 := nd_false h45 | skip)
        refine Wl.pass rfl rfl rfl ?_
        refine Wl.pass rfl rfl rfl ?_
        refine Wl.pass rfl rfl rfl ?_
        refine Wl.pass rfl rfl rfl ?_
        refine Wl.val rfl rfl rfl (Gives.pickF rfl rfl rfl rfl) ?_
        refine Wl.nil ?_
        refine Wx.thenN (hK10 _ _ ?_)
        refine Wc.condF rfl rfl ?_
        refine Wc.skip ?_
        refine Wx.thenN ?_
        refine hJ9 _ _ _ (.cons rfl (.cons rfl (.cons rfl (.nil)))) ⟨hW, hE⟩
    intro l wJ hJ
    clear hE hW hWl
    obtain ⟨hW, hE⟩ := hJ
    refine Wc.joinC (ι := (Option Addr × Nat × Nat) × List UInt8) [(7, _)] (fun | ((S, m, c), _) => [(19, .slice S m c)]) (fun | ((S, m, c), l), wr => WB wr w.heap.size S m c l ∧ m ≤ 600000 ∧ Ext w wr) ?_ ?_ (.cons rfl (.nil))
    · intro K11 hJ11
      refine Wc.seq (fun K12 hK12 => ?_)
      refine Wc.keep [(6, _), (7, _), (19, _)] (.cons rfl (.cons rfl (.cons rfl (.nil)))) ?_
      refine Wc.region ?_
      refine Wl.val rfl rfl rfl (Gives.move rfl rfl) ?_
      refine Wl.val rfl rfl rfl (Gives.geq rfl rfl rfl) ?_
      refine Wl.val rfl rfl rfl (Gives.move rfl rfl) ?_
      refine Wl.guard rfl rfl rfl (fun h60 => ?_) (fun h60 => ?_)
      · (first | replace h60 := of_decide_eq_true h60 | replace h60 := nd_true h60 | skip)
        refine Wl.val rfl rfl rfl (Gives.move rfl rfl) ?_
        refine Wl.val rfl rfl rfl (Gives.move rfl rfl) ?_
        refine Wl.val rfl rfl rfl (Gives.lenS rfl Tryd.underlying36 rfl) ?_
        refine Wl.val rfl rfl rfl (Gives.lss rfl rfl rfl) ?_
        refine Wl.val rfl rfl rfl (Gives.pickT rfl rfl rfl rfl) ?_
        refine Wl.nil ?_
        refine Wx.thenN (hK12 _ _ ?_)
        refine Wc.cond _ rfl (fun h65 => ?_) (fun h65 => ?_)
        · (first | replace h65 := of_decide_eq_true h65 | replace h65 := nd_true h65 | skip)
          refine Wc.keep [(6, _), (7, _), (19, _)] (.cons rfl (.cons rfl (.cons rfl (.nil)))) ?_
          obtain ⟨k, rfl⟩ := Int.eq_ofNat_of_zero_le (show 0 ≤ cut by omega)
          have hWk := hW.take (k := k) (by omega) (Nat.le_refl _) (by omega)
          refine Wc.region ?_
          refine Wl.val rfl rfl rfl (Gives.move rfl rfl) ?_
          refine Wl.val rfl rfl rfl (Gives.move rfl rfl) ?_
          refine Wl.val rfl rfl rfl (Gives.move rfl rfl) ?_
          refine Wl.val rfl rfl rfl (Gives.cutHM k k rfl Tryd.underlying36 (by kernel_rfl) rfl rfl rfl rfl rfl (Nat.le_refl _) (by omega)) ?_
          refine Wl.val rfl rfl rfl (Gives.move rfl rfl) ?_
          refine Wl.does rfl rfl rfl (Does.appT rfl Tryd.underlying36 infoB rfl rfl hWk (hr.ext hE) hE.size (by omega)) ?_
          rintro _ w115 ⟨B', c', rfl, hW2, hx115⟩
          replace hE := hE.trans hx115
          refine Wl.val rfl rfl rfl (Gives.assign rfl rfl) ?_
          refine Wl.nil ?_
          refine Wx.thenN ?_
          refine hJ11 ((_, _, _), _) _ _ (.cons (by first | exact rfl | exact look_int rfl (by omega) | exact look_slice rfl (by omega)) (.cons rfl (.nil))) ⟨hW2, by omega, hE⟩
        · (first | replace h65 := of_decide_eq_false h65 | replace h65 := nd_false h65 | skip)
          refine Wc.skip ?_
          refine Wx.thenN ?_
          refine hJ11 ((_, _, _), _) _ _ (.cons (by first | exact rfl | exact look_int rfl (by omega) | exact look_slice rfl (by omega)) (.cons rfl (.nil))) ⟨hW, by omega, hE⟩
      · (first | replace h60 := of_decide_eq_false h60 | replace h60 := nd_false h60 | skip)
        refine Wl.pass rfl rfl rfl ?_
        refine Wl.pass rfl rfl rfl ?_
        refine Wl.pass rfl rfl rfl ?_
        refine Wl.pass rfl rfl rfl ?_
        refine Wl.val rfl rfl rfl (Gives.pickF rfl rfl rfl rfl) ?_
        refine Wl.nil ?_
        refine Wx.thenN (hK12 _ _ ?_)
        refine Wc.condF rfl rfl ?_
        refine Wc.skip ?_
        refine Wx.thenN ?_
        refine hJ11 ((_, _, _), _) _ _ (.cons (by first | exact rfl | exact look_int rfl (by omega) | exact look_slice rfl (by omega)) (.cons rfl (.nil))) ⟨hW, by omega, hE⟩
    intro ⟨⟨S2, m2, c2⟩, l3⟩ wJ2 hJ
    clear hE hW
    obtain ⟨hW, hm2, hE⟩ := hJ
    have hB := hW.bv (P := fun _ => True) (fun _ _ => trivial)
    refine Wc.seq (fun K13 hK13 => ?_)
    refine Wc.keep [(7, _), (19, _)] (.cons rfl (.cons rfl (.nil))) ?_
    refine Wc.region ?_
    refine Wl.val rfl rfl rfl (Gives.move rfl rfl) ?_
    refine Wl.call rfl rfl rfl rfl Tryd.func26 rfl (by kernel_rfl) rfl (decRespP_calls (P := fun _ => True) _ S2 m2 c2 l3 hB (by omega)) ?_
    rintro x4 w14 ⟨r1, rfl, hq1, hx4⟩
    refine ⟨_, rfl, ?_⟩
    replace hB := hB.ext hx4
    replace hE := hE.trans hx4
    refine Wl.val rfl rfl rfl (Gives.move rfl rfl) ?_
    refine Wl.val rfl rfl rfl (Gives.extract rfl rfl rfl) ?_
    refine Wl.val rfl rfl rfl (Gives.extract rfl rfl rfl) ?_
    refine Wl.does rfl rfl rfl (Does.alB (.agg #[(.int .i64 0), (.slice none 0 0), (.slice none 0 0), (.slice none 0 0)]) rfl (by kernel_rfl) rfl) ?_
    rintro _ w11_5 ⟨b20, rfl, hs20, hb20, hx11_5⟩
    have hg20 : w.heap.size ≤ b20 := Nat.le_trans hE.size hs20
    replace hE := hE.trans hx11_5
    refine Wl.acts rfl rfl (Does.stL 4 rfl rfl rfl hb20 (by kernel_rfl) rfl rfl rfl) ?_
    rintro _ w11_6 ⟨hbn, hF11_6⟩
    replace hE := Ext.over hE hF11_6 hg20
    replace hb20 := hbn
    clear hbn
    have hy14 := Ext.over hx11_5 hF11_6 hs20
    replace hB := hB.ext hy14
    replace hq1 := hq1.ext hy14
    refine Wl.val rfl rfl rfl (Gives.assign rfl rfl) ?_
    refine Wl.nil ?_
    refine Wx.thenN (hK13 _ _ ?_)
    refine Wc.seq (fun K14 hK14 => ?_)
    refine Wc.keep [(7, _), (19, _), (20, _), (21, _)] (.cons rfl (.cons rfl (.cons rfl (.cons rfl (.nil))))) ?_
    refine Wc.region ?_
    refine Wl.val rfl rfl rfl (Gives.move rfl rfl) ?_
    refine Wl.call rfl rfl rfl rfl Tryd.func27 rfl (by kernel_rfl) rfl (decRespR_calls (P := fun _ => True) _ S2 m2 c2 l3 hB (by omega)) ?_
    rintro x5 w15 ⟨r2, rfl, hq2, hx5⟩
    refine ⟨_, rfl, ?_⟩
    replace hq1 := hq1.ext hx5
    replace hb20 := hb20.ext hx5
    replace hE := hE.trans hx5
    refine Wl.val rfl rfl rfl (Gives.move rfl rfl) ?_
    refine Wl.val rfl rfl rfl (Gives.extract rfl rfl rfl) ?_
    refine Wl.val rfl rfl rfl (Gives.extract rfl rfl rfl) ?_
    refine Wl.does rfl rfl rfl (Does.alB (.agg #[(.int .i64 0), (.slice none 0 0), (.slice none 0 0), (.slice none 0 0)]) rfl (by kernel_rfl) rfl) ?_
    rintro _ w12_5 ⟨b22, rfl, hs22, hb22, hx12_5⟩
    have hn20_22 : b20 ≠ b22 := hb20.ne hs22
    have hg22 : w.heap.size ≤ b22 := Nat.le_trans hE.size hs22
    replace hb20 := hb20.ext hx12_5
    replace hE := hE.trans hx12_5
    refine Wl.acts rfl rfl (Does.stL 4 rfl rfl rfl hb22 (by kernel_rfl) rfl rfl rfl) ?_
    rintro _ w12_6 ⟨hbn, hF12_6⟩
    replace hb20 := hb20.fr hF12_6 (by first | assumption | exact Ne.symm (by assumption))
    replace hE := Ext.over hE hF12_6 hg22
    replace hb22 := hbn
    clear hbn
    have hy15 := Ext.over hx12_5 hF12_6 hs22
    replace hq1 := hq1.ext hy15
    replace hq2 := hq2.ext hy15
    refine Wl.val rfl rfl rfl (Gives.assign rfl rfl) ?_
    refine Wl.nil ?_
    refine Wx.thenN (hK14 _ _ ?_)
    refine Wc.seq (fun K15 hK15 => ?_)
    refine Wc.keep [(7, _), (20, _), (21, _), (22, _), (23, _)] (.cons rfl (.cons rfl (.cons rfl (.cons rfl (.cons rfl (.nil)))))) ?_
    refine Wc.region ?_
    refine Wl.val rfl rfl rfl (Gives.move rfl rfl) ?_
    refine Wl.call rfl rfl rfl rfl Tryd.func26 rfl (by kernel_rfl) rfl (decRespP_calls (P := fun _ => True) _ R rn rc raw (hr.ext hE) (by omega)) ?_
    rintro x6 w16 ⟨r3, rfl, hq3, hx6⟩
    refine ⟨_, rfl, ?_⟩
    replace hq1 := hq1.ext hx6
    replace hq2 := hq2.ext hx6
    replace hb20 := hb20.ext hx6
    replace hb22 := hb22.ext hx6
    replace hE := hE.trans hx6
    refine Wl.val rfl rfl rfl (Gives.move rfl rfl) ?_
    refine Wl.val rfl rfl rfl (Gives.extract rfl rfl rfl) ?_
    refine Wl.val rfl rfl rfl (Gives.extract rfl rfl rfl) ?_
    refine Wl.does rfl rfl rfl (Does.alB (.agg #[(.int .i64 0), (.slice none 0 0), (.slice none 0 0), (.slice none 0 0)]) rfl (by kernel_rfl) rfl) ?_
    rintro _ w13_5 ⟨b24, rfl, hs24, hb24, hx13_5⟩
    have hn20_24 : b20 ≠ b24 := hb20.ne hs24
    have hn22_24 : b22 ≠ b24 := hb22.ne hs24
    have hg24 : w.heap.size ≤ b24 := Nat.le_trans hE.size hs24
    replace hb20 := hb20.ext hx13_5
    replace hb22 := hb22.ext hx13_5
    replace hE := hE.trans hx13_5
    refine Wl.acts rfl rfl (Does.stL 4 rfl rfl rfl hb24 (by kernel_rfl) rfl rfl rfl) ?_
    rintro _ w13_6 ⟨hbn, hF13_6⟩
    replace hb20 := hb20.fr hF13_6 (by first | assumption | exact Ne.symm (by assumption))
    replace hb22 := hb22.fr hF13_6 (by first | assumption | exact Ne.symm (by assumption))
    replace hE := Ext.over hE hF13_6 hg24
    replace hb24 := hbn
    clear hbn
    have hy16 := Ext.over hx13_5 hF13_6 hs24
    replace hq1 := hq1.ext hy16
    replace hq2 := hq2.ext hy16
    replace hq3 := hq3.ext hy16
    refine Wl.val rfl rfl rfl (Gives.assign rfl rfl) ?_
    refine Wl.nil ?_
    refine Wx.thenN (hK15 _ _ ?_)
    refine Wc.seq (fun K16 hK16 => ?_)
    refine Wc.keep [(7, _), (20, _), (21, _), (22, _), (23, _), (24, _), (25, _)] (.cons rfl (.cons rfl (.cons rfl (.cons rfl (.cons rfl (.cons rfl (.cons rfl (.nil)))))))) ?_
    refine Wc.region ?_
    refine Wl.val rfl rfl rfl (Gives.move rfl rfl) ?_
    refine Wl.call rfl rfl rfl rfl Tryd.func27 rfl (by kernel_rfl) rfl (decRespR_calls (P := fun _ => True) _ R rn rc raw (hr.ext hE) (by omega)) ?_
    rintro x7 w17 ⟨r4, rfl, hq4, hx7⟩
    refine ⟨_, rfl, ?_⟩
    replace hq1 := hq1.ext hx7
    replace hq2 := hq2.ext hx7
    replace hq3 := hq3.ext hx7
    replace hb20 := hb20.ext hx7
    replace hb22 := hb22.ext hx7
    replace hb24 := hb24.ext hx7
    replace hE := hE.trans hx7
    refine Wl.val rfl rfl rfl (Gives.move rfl rfl) ?_
    refine Wl.val rfl rfl rfl (Gives.extract rfl rfl rfl) ?_
    refine Wl.val rfl rfl rfl (Gives.extract rfl rfl rfl) ?_
    refine Wl.does rfl rfl rfl (Does.alB (.agg #[(.int .i64 0), (.slice none 0 0), (.slice none 0 0), (.slice none 0 0)]) rfl (by kernel_rfl) rfl) ?_
    rintro _ w14_5 ⟨b26, rfl, hs26, hb26, hx14_5⟩
    have hn20_26 : b20 ≠ b26 := hb20.ne hs26
    have hn22_26 : b22 ≠ b26 := hb22.ne hs26
    have hn24_26 : b24 ≠ b26 := hb24.ne hs26
    have hg26 : w.heap.size ≤ b26 := Nat.le_trans hE.size hs26
    replace hb20 := hb20.ext hx14_5
    replace hb22 := hb22.ext hx14_5
    replace hb24 := hb24.ext hx14_5
    replace hE := hE.trans hx14_5
    refine Wl.acts rfl rfl (Does.stL 4 rfl rfl rfl hb26 (by kernel_rfl) rfl rfl rfl) ?_
    rintro _ w14_6 ⟨hbn, hF14_6⟩
    replace hb20 := hb20.fr hF14_6 (by first | assumption | exact Ne.symm (by assumption))
    replace hb22 := hb22.fr hF14_6 (by first | assumption | exact Ne.symm (by assumption))
    replace hb24 := hb24.fr hF14_6 (by first | assumption | exact Ne.symm (by assumption))
    replace hE := Ext.over hE hF14_6 hg26
    replace hb26 := hbn
    clear hbn
    have hy17 := Ext.over hx14_5 hF14_6 hs26
    replace hq1 := hq1.ext hy17
    replace hq2 := hq2.ext hy17
    replace hq3 := hq3.ext hy17
    replace hq4 := hq4.ext hy17
    refine Wl.val rfl rfl rfl (Gives.assign rfl rfl) ?_
    refine Wl.nil ?_
    refine Wx.thenN (hK16 _ _ ?_)
    refine Wc.seq (fun K17 hK17 => ?_)
    refine Wc.keep [(20, _), (21, _), (22, _), (23, _), (24, _), (25, _), (26, _), (27, _)] (.cons rfl (.cons rfl (.cons rfl (.cons rfl (.cons rfl (.cons rfl (.cons rfl (.cons rfl (.nil))))))))) ?_
    refine Wc.region ?_
    refine Wl.val rfl rfl rfl (Gives.move rfl rfl) ?_
    refine Wl.val rfl rfl rfl (Gives.move rfl rfl) ?_
    refine Wl.val rfl rfl rfl (Gives.eql rfl rfl rfl) ?_
    refine Wl.val rfl rfl rfl (Gives.move rfl rfl) ?_
    refine Wl.guardT rfl rfl rfl (by simp) ?_
    refine Wl.val rfl rfl rfl (Gives.ldW rfl (by kernel_rfl) rfl hb20 (by kernel_rfl)) ?_
    refine Wl.val rfl rfl rfl (Gives.ldW rfl (by kernel_rfl) rfl hb22 (by kernel_rfl)) ?_
    refine Wl.call rfl rfl rfl rfl Tryd.func28 rfl (by kernel_rfl) rfl (sameR_calls (P := fun _ => True) (P' := fun _ => True) _ _ r1 r2 hq1 hq2) ?_
    rintro x8 w18 ⟨rfl, hx8⟩
    refine ⟨_, rfl, ?_⟩
    replace hq3 := hq3.ext hx8
    replace hq4 := hq4.ext hx8
    replace hb20 := hb20.ext hx8
    replace hb22 := hb22.ext hx8
    replace hb24 := hb24.ext hx8
    replace hb26 := hb26.ext hx8
    replace hE := hE.trans hx8
    refine Wl.val rfl rfl rfl (Gives.pickT rfl rfl rfl rfl) ?_
    refine Wl.val rfl rfl rfl (Gives.move rfl rfl) ?_
    refine Wl.guardT rfl rfl rfl rfl ?_
    refine Wl.val rfl rfl rfl (Gives.move rfl rfl) ?_
    refine Wl.val rfl rfl rfl (Gives.move rfl rfl) ?_
    refine Wl.val rfl rfl rfl (Gives.eql rfl rfl rfl) ?_
    refine Wl.val rfl rfl rfl (Gives.pickT rfl rfl rfl rfl) ?_
    refine Wl.val rfl rfl rfl (Gives.move rfl rfl) ?_
    refine Wl.guardT rfl rfl rfl (by simp) ?_
    refine Wl.val rfl rfl rfl (Gives.ldW rfl (by kernel_rfl) rfl hb24 (by kernel_rfl)) ?_
    refine Wl.val rfl rfl rfl (Gives.ldW rfl (by kernel_rfl) rfl hb26 (by kernel_rfl)) ?_
    refine Wl.call rfl rfl rfl rfl Tryd.func28 rfl (by kernel_rfl) rfl (sameR_calls (P := fun _ => True) (P' := fun _ => True) _ _ r3 r4 hq3 hq4) ?_
    rintro x9 w19 ⟨rfl, hx9⟩
    refine ⟨_, rfl, ?_⟩
    replace hb20 := hb20.ext hx9
    replace hb22 := hb22.ext hx9
    replace hb24 := hb24.ext hx9
    replace hb26 := hb26.ext hx9
    replace hE := hE.trans hx9
    refine Wl.val rfl rfl rfl (Gives.pickT rfl rfl rfl rfl) ?_
    refine Wl.val rfl rfl rfl (Gives.assign rfl rfl) ?_
    refine Wl.nil ?_
    refine Wx.thenN (hK17 _ _ ?_)
    refine Wc.ret ?_
    refine Wx.ret [_] ⟨rfl, trivial⟩ ?_
    exact ⟨rfl, hE⟩
end Go.Proofs.YtaekpiejdgahfaaDoor
