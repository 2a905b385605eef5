/- CommandDecode: the walk of the law. -/
import Derived.Test.YtaekpiejdgahfaaDoorLawCT
namespace Go.Proofs.YtaekpiejdgahfaaDoor
set_option linter.all false
open Go.RowKit
set_option maxHeartbeats 2000000 in
set_option maxRecDepth 10000 in
theorem commandDecode_walk (w : World) (hT : Tabs w) (q : Req) (r : RA) (hq : ReqV w (fun _ => True) q r) (code pos : Int) (x : UInt8) (cut : Int) (R : Option Addr) (rn rc : Nat) (raw : List UInt8) (hr : BV w (fun _ => True) R rn rc raw) (len : Bool) :
    Calls Tryd.prog 6 #[.agg #[.int .i64 q.code, .slice r.hA r.hn r.hc, .slice r.aA r.an r.ac, .slice r.iA r.iN r.ic, .slice r.bA r.bn r.bc], .int .i64 code, .int .i64 pos, .int .u8 (x.toNat : Int), .int .i64 cut, .slice R rn rc, .bool len] w fun e w' => e = .returned (.bool true) ∧ Ext w w' := by
  have hrl := hr.len
  refine calls_enter Tryd.func6 rfl Tryd.ntmps6 rfl ?_
  have hE : Ext w w := Ext.refl w
  refine Wc.seq (fun K1 hK1 => ?_)
  refine Wc.keep [(0, _), (1, _), (2, _), (3, _), (4, _), (5, _), (6, _)] (.cons rfl (.cons rfl (.cons rfl (.cons rfl (.cons rfl (.cons rfl (.cons rfl (.nil)))))))) ?_
  refine Wc.region ?_
  refine Wl.does rfl rfl rfl (Does.boxA rfl rfl) ?_
  rintro _ w0_0 ⟨b7, rfl, hs7, hb7, hx0_0⟩
  have hg7 : w.heap.size ≤ b7 := Nat.le_trans hE.size hs7
  replace hE := hE.trans hx0_0
  refine Wl.val rfl rfl rfl (Gives.assign rfl rfl) ?_
  refine Wl.nil ?_
  refine Wx.thenN (hK1 _ _ ?_)
  refine Wc.seq (fun K2 hK2 => ?_)
  refine Wc.seq (fun K3 hK3 => ?_)
  refine Wc.keep [(1, _), (2, _), (3, _), (4, _), (5, _), (6, _), (7, _)] (.cons rfl (.cons rfl (.cons rfl (.cons rfl (.cons rfl (.cons rfl (.cons rfl (.nil)))))))) ?_
  refine Wc.region ?_
  refine Wl.call rfl rfl rfl rfl Tryd.func10 rfl (by kernel_rfl) rfl (awake_calls _ (hT.ext hE)) ?_
  rintro x0 w0 ⟨rfl, hx0⟩
  refine ⟨_, rfl, ?_⟩
  replace hb7 := hb7.ext hx0
  replace hE := hE.trans hx0
  refine Wl.val rfl rfl rfl (Gives.not rfl rfl) ?_
  refine Wl.nil ?_
  refine Wx.thenN (hK3 _ _ ?_)
  refine Wc.condF rfl rfl ?_
  refine Wc.skip ?_
  refine Wx.thenN (hK2 _ _ ?_)
  refine Wc.seq (fun K4 hK4 => ?_)
  refine Wc.seq (fun K5 hK5 => ?_)
  refine Wc.keep [(1, _), (2, _), (3, _), (4, _), (5, _), (6, _), (7, _)] (.cons rfl (.cons rfl (.cons rfl (.cons rfl (.cons rfl (.cons rfl (.cons rfl (.nil)))))))) ?_
  refine Wc.region ?_
  refine Wl.val rfl rfl rfl (Gives.ldW rfl (by kernel_rfl) rfl hb7 (by kernel_rfl)) ?_
  refine Wl.call rfl rfl rfl rfl Tryd.func13 rfl (by kernel_rfl) rfl (few_calls (P := fun _ => True) _ q r (hq.ext hE)) ?_
  rintro x1 w1 ⟨b, rfl, hfew, hx1⟩
  refine ⟨_, rfl, ?_⟩
  replace hb7 := hb7.ext hx1
  replace hE := hE.trans hx1
  refine Wl.val rfl rfl rfl (Gives.not rfl rfl) ?_
  refine Wl.val rfl rfl rfl (Gives.move rfl rfl) ?_
  refine Wl.guard rfl rfl rfl (fun h32 => ?_) (fun h32 => ?_)
  · (first | replace h32 := of_decide_eq_false h32 | replace h32 := nd_false h32 | skip)
    refine Wl.val rfl rfl rfl (Gives.move rfl rfl) ?_
    refine Wl.val rfl rfl rfl (Gives.lenS rfl Tryd.underlying36 rfl) ?_
    refine Wl.val rfl rfl rfl (Gives.gtr rfl rfl rfl) ?_
    refine Wl.val rfl rfl rfl (Gives.pickF rfl rfl rfl rfl) ?_
    refine Wl.nil ?_
    refine Wx.thenN (hK5 _ _ ?_)
    refine Wc.cond _ rfl (fun h36 => ?_) (fun h36 => ?_)
    · (first | replace h36 := of_decide_eq_true h36 | replace h36 := nd_true h36 | skip)
      refine Wc.seq (fun K6 hK6 => ?_)
      refine Wc.keep [] (.nil) ?_
      refine Wc.region ?_
      refine Wl.val rfl rfl rfl (Gives.assign rfl rfl) ?_
      refine Wl.nil ?_
      refine Wx.thenN (hK6 _ _ ?_)
      refine Wc.ret ?_
      refine Wx.thenR ?_
      refine Wx.ret [_] ⟨rfl, trivial⟩ ?_
      first | exact ⟨rfl, hE⟩ | exact ⟨rb (decide_eq_true rfl), hE⟩
    · (first | replace h36 := of_decide_eq_false h36 | replace h36 := nd_false h36 | skip)
      refine Wc.skip ?_
      refine Wx.thenN (hK4 _ _ ?_)
      refine Wc.seq (fun K7 hK7 => ?_)
      refine Wc.keep [(1, _), (2, _), (3, _), (4, _), (5, _), (6, _), (7, _)] (.cons rfl (.cons rfl (.cons rfl (.cons rfl (.cons rfl (.cons rfl (.cons rfl (.nil)))))))) ?_
      refine Wc.region ?_
      refine Wl.val rfl rfl rfl (Gives.ldW rfl (by kernel_rfl) rfl hb7 (by kernel_rfl)) ?_
      refine Wl.val rfl rfl rfl (Gives.move rfl rfl) ?_
      refine Wl.call rfl rfl rfl rfl Tryd.func14 rfl (by kernel_rfl) rfl (shaped_calls (P := fun _ => True) _ q r (hq.ext hE) code) ?_
      rintro x2 w12 ⟨p, rp, N1, N2, N3, N4, rfl, hSh, hok, harg, hx2⟩
      refine ⟨_, rfl, ?_⟩
      have hp := hSh.req
      replace hb7 := hb7.ext hx2
      replace hE := hE.trans hx2
      clear hb7
      refine Wl.call rfl rfl rfl rfl Tryd.func17 rfl (by kernel_rfl) rfl (encodeR_calls (P := fun _ => True) _ p rp hp (few_of harg)) ?_
      rintro x3 w13 ⟨S, m, c, rfl, hO, hx3⟩
      refine ⟨_, rfl, ?_⟩
      have hW := (WB.of hO).low hE.size
      have hWl := hW.len
      have hWle := hW.le
      have hel := encS_len p
      have hm1 : m ≤ 2048 := by omega
      replace hE := hE.trans hx3
      refine Wl.val rfl rfl rfl (Gives.move rfl rfl) ?_
      refine Wl.val rfl rfl rfl (Gives.extract rfl rfl rfl) ?_
      refine Wl.val rfl rfl rfl (Gives.extract rfl rfl rfl) ?_
      refine Wl.val rfl rfl rfl (Gives.assign rfl rfl) ?_
      refine Wl.val rfl rfl rfl (Gives.assign rfl rfl) ?_
      refine Wl.nil ?_
      refine Wx.thenN (hK7 _ _ ?_)
      refine Wc.seq (fun K8 hK8 => ?_)
      refine Wc.seq (fun K9 hK9 => ?_)
      refine Wc.keep [(2, _), (3, _), (4, _), (5, _), (6, _), (15, _), (16, _)] (.cons rfl (.cons rfl (.cons rfl (.cons rfl (.cons rfl (.cons rfl (.cons rfl (.nil)))))))) ?_
      refine Wc.region ?_
      refine Wl.val rfl rfl rfl (Gives.move rfl rfl) ?_
      refine Wl.val rfl rfl rfl (Gives.neq rfl rfl rfl) ?_
      refine Wl.nil ?_
      refine Wx.thenN (hK9 _ _ ?_)
      refine Wc.cond _ rfl (fun h45 => ?_) (fun h45 => ?_)
      · (first | replace h45 := of_decide_eq_true h45 | replace h45 := nd_true h45 | skip)
        refine Wc.seq (fun K10 hK10 => ?_)
        refine Wc.keep [] (.nil) ?_
        refine Wc.region ?_
        refine Wl.val rfl rfl rfl (Gives.assign rfl rfl) ?_
        refine Wl.nil ?_
        refine Wx.thenN (hK10 _ _ ?_)
        refine Wc.ret ?_
        refine Wx.thenR ?_
        refine Wx.ret [_] ⟨rfl, trivial⟩ ?_
        first | exact ⟨rfl, hE⟩ | exact ⟨rb (decide_eq_true rfl), hE⟩
      · (first | replace h45 := of_decide_eq_false h45 | replace h45 := nd_false h45 | skip)
        refine Wc.skip ?_
        refine Wx.thenN (hK8 _ _ ?_)
        refine Wc.joinC (ι := List UInt8) [(4, _), (5, _), (6, _), (15, _)] (fun _ => []) (fun l wr => WB wr w.heap.size S m c l ∧ Ext w wr) ?_ ?_ (.cons rfl (.cons rfl (.cons rfl (.cons rfl (.nil)))))
        · intro K11 hJ11
          refine Wc.seq (fun K12 hK12 => ?_)
          refine Wc.keep [(2, _), (3, _), (4, _), (5, _), (6, _), (15, _)] (.cons rfl (.cons rfl (.cons rfl (.cons rfl (.cons rfl (.cons rfl (.nil))))))) ?_
          refine Wc.region ?_
          refine Wl.val rfl rfl rfl (Gives.move rfl rfl) ?_
          refine Wl.val rfl rfl rfl (Gives.geq rfl rfl rfl) ?_
          refine Wl.val rfl rfl rfl (Gives.move rfl rfl) ?_
          refine Wl.guard rfl rfl rfl (fun h48 => ?_) (fun h48 => ?_)
          · (first | replace h48 := of_decide_eq_true h48 | replace h48 := nd_true h48 | skip)
            refine Wl.val rfl rfl rfl (Gives.move rfl rfl) ?_
            refine Wl.val rfl rfl rfl (Gives.move rfl rfl) ?_
            refine Wl.val rfl rfl rfl (Gives.lenS rfl Tryd.underlying36 rfl) ?_
            refine Wl.val rfl rfl rfl (Gives.lss rfl rfl rfl) ?_
            refine Wl.val rfl rfl rfl (Gives.pickT rfl rfl rfl rfl) ?_
            refine Wl.nil ?_
            refine Wx.thenN (hK12 _ _ ?_)
            refine Wc.cond _ rfl (fun h53 => ?_) (fun h53 => ?_)
            · (first | replace h53 := of_decide_eq_true h53 | replace h53 := nd_true h53 | skip)
              refine Wc.keep [(2, _), (3, _), (4, _), (5, _), (6, _), (15, _)] (.cons rfl (.cons rfl (.cons rfl (.cons rfl (.cons rfl (.cons rfl (.nil))))))) ?_
              obtain ⟨k, rfl⟩ := Int.eq_ofNat_of_zero_le (show 0 ≤ pos by omega)
              obtain ⟨g, off, rfl, hg1, hg2⟩ := hW.head (show 0 < m by omega)
              have hBb := hW.bv (P := fun _ => True) (fun _ _ => trivial)
              refine Wc.region ?_
              refine Wl.val rfl rfl rfl (Gives.move rfl rfl) ?_
              refine Wl.val rfl rfl rfl (Gives.move rfl rfl) ?_
              refine Wl.val rfl rfl rfl (Gives.ixS (i := k) rfl Tryd.underlying36 (by kernel_rfl) rfl rfl (by omega) (by omega)) ?_
              refine Wl.val rfl rfl rfl (Gives.ldC rfl (by kernel_rfl) rfl (hBb.cellAt (gb1_some (encS p) k (by omega)))) ?_
              refine Wl.val rfl rfl rfl (Gives.move rfl rfl) ?_
              refine Wl.val rfl rfl rfl (Gives.bits .xor (by simp) rfl rfl rfl (bits_u8xor _ _)) ?_
              refine Wl.val rfl rfl rfl (Gives.ixS (i := k) rfl Tryd.underlying36 (by kernel_rfl) rfl rfl (by omega) (by omega)) ?_
              refine Wl.acts rfl rfl (Does.stW (i := k) (gb1 (encS p) k ^^^ x) rfl rfl rfl rfl hW (by kernel_rfl) (by omega)) ?_
              rintro _ w97 ⟨hW2, hF97⟩
              replace hE := Ext.over hE hF97 hg1
              refine Wl.nil ?_
              refine Wx.thenN ?_
              refine hJ11 _ _ _ (.cons rfl (.cons rfl (.cons rfl (.cons rfl (.nil))))) ⟨hW2, hE⟩
            · (first | replace h53 := of_decide_eq_false h53 | replace h53 := nd_false h53 | skip)
              refine Wc.skip ?_
              refine Wx.thenN ?_
              refine hJ11 _ _ _ (.cons rfl (.cons rfl (.cons rfl (.cons rfl (.nil))))) ⟨hW, hE⟩
          · (first | replace h48 := of_decide_eq_false h48 | replace h48 := nd_false h48 | skip)
            refine Wl.pass rfl rfl rfl ?_
            refine Wl.pass rfl rfl rfl ?_
            refine Wl.pass rfl rfl rfl ?_
            refine Wl.pass rfl rfl rfl ?_
            refine Wl.val rfl rfl rfl (Gives.pickF rfl rfl rfl rfl) ?_
            refine Wl.nil ?_
            refine Wx.thenN (hK12 _ _ ?_)
            refine Wc.condF rfl rfl ?_
            refine Wc.skip ?_
            refine Wx.thenN ?_
            refine hJ11 _ _ _ (.cons rfl (.cons rfl (.cons rfl (.cons rfl (.nil))))) ⟨hW, hE⟩
        intro l wJ hJ
        clear hE hW hWl
        obtain ⟨hW, hE⟩ := hJ
        refine Wc.joinC (ι := (Option Addr × Nat × Nat) × List UInt8) [(5, _), (6, _)] (fun | ((S, m, c), _) => [(15, .slice S m c)]) (fun | ((S, m, c), l), wr => WB wr w.heap.size S m c l ∧ m ≤ 3000 ∧ Ext w wr) ?_ ?_ (.cons rfl (.cons rfl (.nil)))
        · intro K13 hJ13
          refine Wc.seq (fun K14 hK14 => ?_)
          refine Wc.keep [(4, _), (5, _), (6, _), (15, _)] (.cons rfl (.cons rfl (.cons rfl (.cons rfl (.nil))))) ?_
          refine Wc.region ?_
          refine Wl.val rfl rfl rfl (Gives.move rfl rfl) ?_
          refine Wl.val rfl rfl rfl (Gives.geq rfl rfl rfl) ?_
          refine Wl.val rfl rfl rfl (Gives.move rfl rfl) ?_
          refine Wl.guard rfl rfl rfl (fun h63 => ?_) (fun h63 => ?_)
          · (first | replace h63 := of_decide_eq_true h63 | replace h63 := nd_true h63 | skip)
            refine Wl.val rfl rfl rfl (Gives.move rfl rfl) ?_
            refine Wl.val rfl rfl rfl (Gives.move rfl rfl) ?_
            refine Wl.val rfl rfl rfl (Gives.lenS rfl Tryd.underlying36 rfl) ?_
            refine Wl.val rfl rfl rfl (Gives.lss rfl rfl rfl) ?_
            refine Wl.val rfl rfl rfl (Gives.pickT rfl rfl rfl rfl) ?_
            refine Wl.nil ?_
            refine Wx.thenN (hK14 _ _ ?_)
            refine Wc.cond _ rfl (fun h68 => ?_) (fun h68 => ?_)
            · (first | replace h68 := of_decide_eq_true h68 | replace h68 := nd_true h68 | skip)
              refine Wc.keep [(4, _), (5, _), (6, _), (15, _)] (.cons rfl (.cons rfl (.cons rfl (.cons rfl (.nil))))) ?_
              obtain ⟨k, rfl⟩ := Int.eq_ofNat_of_zero_le (show 0 ≤ cut by omega)
              have hWk := hW.take (k := k) (by omega) (Nat.le_refl _) (by omega)
              refine Wc.region ?_
              refine Wl.val rfl rfl rfl (Gives.move rfl rfl) ?_
              refine Wl.val rfl rfl rfl (Gives.move rfl rfl) ?_
              refine Wl.val rfl rfl rfl (Gives.move rfl rfl) ?_
              refine Wl.val rfl rfl rfl (Gives.cutHM k k rfl Tryd.underlying36 (by kernel_rfl) rfl rfl rfl rfl rfl (Nat.le_refl _) (by omega)) ?_
              refine Wl.val rfl rfl rfl (Gives.move rfl rfl) ?_
              refine Wl.does rfl rfl rfl (Does.appT rfl Tryd.underlying36 infoB rfl rfl hWk (hr.ext hE) hE.size (by omega)) ?_
              rintro _ w115 ⟨B', c', rfl, hW2, hx115⟩
              replace hE := hE.trans hx115
              refine Wl.val rfl rfl rfl (Gives.assign rfl rfl) ?_
              refine Wl.nil ?_
              refine Wx.thenN ?_
              refine hJ13 ((_, _, _), _) _ _ (.cons (by first | exact rfl | exact look_int rfl (by omega) | exact look_slice rfl (by omega)) (.cons rfl (.cons rfl (.nil)))) ⟨hW2, by omega, hE⟩
            · (first | replace h68 := of_decide_eq_false h68 | replace h68 := nd_false h68 | skip)
              refine Wc.skip ?_
              refine Wx.thenN ?_
              refine hJ13 ((_, _, _), _) _ _ (.cons (by first | exact rfl | exact look_int rfl (by omega) | exact look_slice rfl (by omega)) (.cons rfl (.cons rfl (.nil)))) ⟨hW, by omega, hE⟩
          · (first | replace h63 := of_decide_eq_false h63 | replace h63 := nd_false h63 | skip)
            refine Wl.pass rfl rfl rfl ?_
            refine Wl.pass rfl rfl rfl ?_
            refine Wl.pass rfl rfl rfl ?_
            refine Wl.pass rfl rfl rfl ?_
            refine Wl.val rfl rfl rfl (Gives.pickF rfl rfl rfl rfl) ?_
            refine Wl.nil ?_
            refine Wx.thenN (hK14 _ _ ?_)
            refine Wc.condF rfl rfl ?_
            refine Wc.skip ?_
            refine Wx.thenN ?_
            refine hJ13 ((_, _, _), _) _ _ (.cons (by first | exact rfl | exact look_int rfl (by omega) | exact look_slice rfl (by omega)) (.cons rfl (.cons rfl (.nil)))) ⟨hW, by omega, hE⟩
        intro ⟨⟨S2, m2, c2⟩, l2⟩ wJ2 hJ
        clear hE hW
        obtain ⟨hW, hm2, hE⟩ := hJ
        refine Wc.joinC (ι := List UInt8) [(5, _), (15, _)] (fun _ => []) (fun l wr => WB wr w.heap.size S2 m2 c2 l ∧ Ext w wr) ?_ ?_ (.cons rfl (.cons rfl (.nil)))
        · intro K15 hJ15
          refine Wc.seq (fun K16 hK16 => ?_)
          refine Wc.keep [(5, _), (6, _), (15, _)] (.cons rfl (.cons rfl (.cons rfl (.nil)))) ?_
          refine Wc.region ?_
          refine Wl.val rfl rfl rfl (Gives.move rfl rfl) ?_
          refine Wl.val rfl rfl rfl (Gives.move rfl rfl) ?_
          refine Wl.guard rfl rfl rfl (fun h76 => ?_) (fun h76 => ?_)
          · (first | replace h76 := of_decide_eq_true h76 | replace h76 := nd_true h76 | skip)
            refine Wl.val rfl rfl rfl (Gives.move rfl rfl) ?_
            refine Wl.val rfl rfl rfl (Gives.lenS rfl Tryd.underlying36 rfl) ?_
            refine Wl.val rfl rfl rfl (Gives.gtr rfl rfl rfl) ?_
            refine Wl.val rfl rfl rfl (Gives.pickT rfl rfl rfl rfl) ?_
            refine Wl.nil ?_
            refine Wx.thenN (hK16 _ _ ?_)
            refine Wc.cond _ rfl (fun h80 => ?_) (fun h80 => ?_)
            · (first | replace h80 := of_decide_eq_true h80 | replace h80 := nd_true h80 | skip)
              refine Wc.keep [(5, _), (15, _)] (.cons rfl (.cons rfl (.nil))) ?_
              obtain ⟨g, off, rfl, hg1, hg2⟩ := hW.head (show 0 < m2 by omega)
              refine Wc.region ?_
              refine Wl.val rfl rfl rfl (Gives.move rfl rfl) ?_
              refine Wl.val rfl rfl rfl (Gives.move rfl rfl) ?_
              refine Wl.val rfl rfl rfl (Gives.move rfl rfl) ?_
              refine Wl.val rfl rfl rfl (Gives.lenS rfl Tryd.underlying36 rfl) ?_
              refine Wl.val rfl rfl rfl (Gives.shrN 8 rfl rfl rfl rfl rfl) ?_
              refine Wl.val rfl rfl rfl (Gives.conv rfl Tryd.underlying3 Tryd.underlying5 rfl (byteAt1_int m2 (by omega))) ?_
              refine Wl.val rfl rfl rfl (Gives.move rfl rfl) ?_
              refine Wl.val rfl rfl rfl (Gives.lenS rfl Tryd.underlying36 rfl) ?_
              refine Wl.val rfl rfl rfl (Gives.conv rfl Tryd.underlying3 Tryd.underlying5 rfl (byteAt0_int m2 (by omega))) ?_
              refine Wl.val rfl rfl rfl (Gives.ixS (i := 2) rfl Tryd.underlying36 (by kernel_rfl) rfl rfl rfl (by omega)) ?_
              refine Wl.acts rfl rfl (Does.stW (i := 2) (byteAt m2 1) rfl rfl rfl rfl hW (by kernel_rfl) (by omega)) ?_
              rintro _ w1310 ⟨hW2, hF1310⟩
              replace hE := Ext.over hE hF1310 hg1
              refine Wl.val rfl rfl rfl (Gives.ixS (i := 3) rfl Tryd.underlying36 (by kernel_rfl) rfl rfl rfl (by omega)) ?_
              refine Wl.acts rfl rfl (Does.stW (i := 3) (byteAt m2 0) rfl rfl rfl rfl hW2 (by kernel_rfl) (by omega)) ?_
              rintro _ w1312 ⟨hW3, hF1312⟩
              replace hE := Ext.over hE hF1312 hg1
              refine Wl.nil ?_
              refine Wx.thenN ?_
              refine hJ15 _ _ _ (.cons rfl (.cons rfl (.nil))) ⟨hW3, hE⟩
            · (first | replace h80 := of_decide_eq_false h80 | replace h80 := nd_false h80 | skip)
              refine Wc.skip ?_
              refine Wx.thenN ?_
              refine hJ15 _ _ _ (.cons rfl (.cons rfl (.nil))) ⟨hW, hE⟩
          · (first | replace h76 := of_decide_eq_false h76 | replace h76 := nd_false h76 | skip)
            refine Wl.pass rfl rfl rfl ?_
            refine Wl.pass rfl rfl rfl ?_
            refine Wl.pass rfl rfl rfl ?_
            refine Wl.val rfl rfl rfl (Gives.pickF rfl rfl rfl rfl) ?_
            refine Wl.nil ?_
            refine Wx.thenN (hK16 _ _ ?_)
            refine Wc.condF rfl rfl ?_
            refine Wc.skip ?_
            refine Wx.thenN ?_
            refine hJ15 _ _ _ (.cons rfl (.cons rfl (.nil))) ⟨hW, hE⟩
        intro l3 wJ3 hJ
        clear hE hW
        obtain ⟨hW, hE⟩ := hJ
        have hB := hW.bv (P := fun _ => True) (fun _ _ => trivial)
        refine Wc.seq (fun K17 hK17 => ?_)
        refine Wc.keep [(5, _), (15, _)] (.cons rfl (.cons rfl (.nil))) ?_
        refine Wc.region ?_
        refine Wl.val rfl rfl rfl (Gives.move rfl rfl) ?_
        refine Wl.call rfl rfl rfl rfl Tryd.func21 rfl (by kernel_rfl) rfl (decodeP_calls (P := fun _ => True) _ (hT.ext hE) S2 m2 c2 l3 hB (by omega)) ?_
        rintro x4 w14 ⟨r1, rfl, hq1, hx4⟩
        refine ⟨_, rfl, ?_⟩
        replace hB := hB.ext hx4
        replace hE := hE.trans hx4
        refine Wl.val rfl rfl rfl (Gives.move rfl rfl) ?_
        refine Wl.val rfl rfl rfl (Gives.extract rfl rfl rfl) ?_
        refine Wl.val rfl rfl rfl (Gives.extract rfl rfl rfl) ?_
        refine Wl.does rfl rfl rfl (Does.alB (.agg #[(.int .i64 0), (.slice none 0 0), (.slice none 0 0), (.slice none 0 0), (.slice none 0 0)]) rfl (by kernel_rfl) rfl) ?_
        rintro _ w14_5 ⟨b17, rfl, hs17, hb17, hx14_5⟩
        have hg17 : w.heap.size ≤ b17 := Nat.le_trans hE.size hs17
        replace hE := hE.trans hx14_5
        refine Wl.acts rfl rfl (Does.stL 5 rfl rfl rfl hb17 (by kernel_rfl) rfl rfl rfl) ?_
        rintro _ w14_6 ⟨hbn, hF14_6⟩
        replace hE := Ext.over hE hF14_6 hg17
        replace hb17 := hbn
        clear hbn
        have hy14 := Ext.over hx14_5 hF14_6 hs17
        replace hB := hB.ext hy14
        replace hq1 := hq1.ext hy14
        refine Wl.val rfl rfl rfl (Gives.assign rfl rfl) ?_
        refine Wl.nil ?_
        refine Wx.thenN (hK17 _ _ ?_)
        refine Wc.seq (fun K18 hK18 => ?_)
        refine Wc.keep [(5, _), (15, _), (17, _), (18, _)] (.cons rfl (.cons rfl (.cons rfl (.cons rfl (.nil))))) ?_
        refine Wc.region ?_
        refine Wl.val rfl rfl rfl (Gives.move rfl rfl) ?_
        refine Wl.call rfl rfl rfl rfl Tryd.func23 rfl (by kernel_rfl) rfl (decodeR_calls (P := fun _ => True) _ S2 m2 c2 l3 hB (by omega)) ?_
        rintro x5 w15 ⟨r2, rfl, hq2, hx5⟩
        refine ⟨_, rfl, ?_⟩
        rw [dec_eq] at hq2
        rw [dec_eq]
        replace hB := hB.ext hx5
        replace hq1 := hq1.ext hx5
        replace hb17 := hb17.ext hx5
        replace hE := hE.trans hx5
        refine Wl.val rfl rfl rfl (Gives.move rfl rfl) ?_
        refine Wl.val rfl rfl rfl (Gives.extract rfl rfl rfl) ?_
        refine Wl.val rfl rfl rfl (Gives.extract rfl rfl rfl) ?_
        refine Wl.does rfl rfl rfl (Does.alB (.agg #[(.int .i64 0), (.slice none 0 0), (.slice none 0 0), (.slice none 0 0), (.slice none 0 0)]) rfl (by kernel_rfl) rfl) ?_
        rintro _ w15_5 ⟨b19, rfl, hs19, hb19, hx15_5⟩
        have hn17_19 : b17 ≠ b19 := hb17.ne hs19
        have hg19 : w.heap.size ≤ b19 := Nat.le_trans hE.size hs19
        replace hb17 := hb17.ext hx15_5
        replace hE := hE.trans hx15_5
        refine Wl.acts rfl rfl (Does.stL 5 rfl rfl rfl hb19 (by kernel_rfl) rfl rfl rfl) ?_
        rintro _ w15_6 ⟨hbn, hF15_6⟩
        replace hb17 := hb17.fr hF15_6 (by first | assumption | exact Ne.symm (by assumption))
        replace hE := Ext.over hE hF15_6 hg19
        replace hb19 := hbn
        clear hbn
        have hy15 := Ext.over hx15_5 hF15_6 hs19
        replace hB := hB.ext hy15
        replace hq1 := hq1.ext hy15
        replace hq2 := hq2.ext hy15
        refine Wl.val rfl rfl rfl (Gives.assign rfl rfl) ?_
        refine Wl.nil ?_
        refine Wx.thenN (hK18 _ _ ?_)
        refine Wc.seq (fun K19 hK19 => ?_)
        refine Wc.keep [(5, _), (15, _), (17, _), (18, _), (19, _), (20, _)] (.cons rfl (.cons rfl (.cons rfl (.cons rfl (.cons rfl (.cons rfl (.nil))))))) ?_
        refine Wc.region ?_
        refine Wl.val rfl rfl rfl (Gives.move rfl rfl) ?_
        refine Wl.call rfl rfl rfl rfl Tryd.func21 rfl (by kernel_rfl) rfl (decodeP_calls (P := fun _ => True) _ (hT.ext hE) R rn rc raw (hr.ext hE) (by omega)) ?_
        rintro x6 w16 ⟨r3, rfl, hq3, hx6⟩
        refine ⟨_, rfl, ?_⟩
        replace hB := hB.ext hx6
        replace hq1 := hq1.ext hx6
        replace hq2 := hq2.ext hx6
        replace hb17 := hb17.ext hx6
        replace hb19 := hb19.ext hx6
        replace hE := hE.trans hx6
        refine Wl.val rfl rfl rfl (Gives.move rfl rfl) ?_
        refine Wl.val rfl rfl rfl (Gives.extract rfl rfl rfl) ?_
        refine Wl.val rfl rfl rfl (Gives.extract rfl rfl rfl) ?_
        refine Wl.does rfl rfl rfl (Does.alB (.agg #[(.int .i64 0), (.slice none 0 0), (.slice none 0 0), (.slice none 0 0), (.slice none 0 0)]) rfl (by kernel_rfl) rfl) ?_
        rintro _ w16_5 ⟨b21, rfl, hs21, hb21, hx16_5⟩
        have hn17_21 : b17 ≠ b21 := hb17.ne hs21
        have hn19_21 : b19 ≠ b21 := hb19.ne hs21
        have hg21 : w.heap.size ≤ b21 := Nat.le_trans hE.size hs21
        replace hb17 := hb17.ext hx16_5
        replace hb19 := hb19.ext hx16_5
        replace hE := hE.trans hx16_5
        refine Wl.acts rfl rfl (Does.stL 5 rfl rfl rfl hb21 (by kernel_rfl) rfl rfl rfl) ?_
        rintro _ w16_6 ⟨hbn, hF16_6⟩
        replace hb17 := hb17.fr hF16_6 (by first | assumption | exact Ne.symm (by assumption))
        replace hb19 := hb19.fr hF16_6 (by first | assumption | exact Ne.symm (by assumption))
        replace hE := Ext.over hE hF16_6 hg21
        replace hb21 := hbn
        clear hbn
        have hy16 := Ext.over hx16_5 hF16_6 hs21
        replace hB := hB.ext hy16
        replace hq1 := hq1.ext hy16
        replace hq2 := hq2.ext hy16
        replace hq3 := hq3.ext hy16
        refine Wl.val rfl rfl rfl (Gives.assign rfl rfl) ?_
        refine Wl.nil ?_
        refine Wx.thenN (hK19 _ _ ?_)
        refine Wc.seq (fun K20 hK20 => ?_)
        refine Wc.keep [(5, _), (15, _), (17, _), (18, _), (19, _), (20, _), (21, _), (22, _)] (.cons rfl (.cons rfl (.cons rfl (.cons rfl (.cons rfl (.cons rfl (.cons rfl (.cons rfl (.nil))))))))) ?_
        refine Wc.region ?_
        refine Wl.val rfl rfl rfl (Gives.move rfl rfl) ?_
        refine Wl.call rfl rfl rfl rfl Tryd.func23 rfl (by kernel_rfl) rfl (decodeR_calls (P := fun _ => True) _ R rn rc raw (hr.ext hE) (by omega)) ?_
        rintro x7 w17 ⟨r4, rfl, hq4, hx7⟩
        refine ⟨_, rfl, ?_⟩
        rw [dec_eq] at hq4
        rw [dec_eq]
        replace hB := hB.ext hx7
        replace hq1 := hq1.ext hx7
        replace hq2 := hq2.ext hx7
        replace hq3 := hq3.ext hx7
        replace hb17 := hb17.ext hx7
        replace hb19 := hb19.ext hx7
        replace hb21 := hb21.ext hx7
        replace hE := hE.trans hx7
        refine Wl.val rfl rfl rfl (Gives.move rfl rfl) ?_
        refine Wl.val rfl rfl rfl (Gives.extract rfl rfl rfl) ?_
        refine Wl.val rfl rfl rfl (Gives.extract rfl rfl rfl) ?_
        refine Wl.does rfl rfl rfl (Does.alB (.agg #[(.int .i64 0), (.slice none 0 0), (.slice none 0 0), (.slice none 0 0), (.slice none 0 0)]) rfl (by kernel_rfl) rfl) ?_
        rintro _ w17_5 ⟨b23, rfl, hs23, hb23, hx17_5⟩
        have hn17_23 : b17 ≠ b23 := hb17.ne hs23
        have hn19_23 : b19 ≠ b23 := hb19.ne hs23
        have hn21_23 : b21 ≠ b23 := hb21.ne hs23
        have hg23 : w.heap.size ≤ b23 := Nat.le_trans hE.size hs23
        replace hb17 := hb17.ext hx17_5
        replace hb19 := hb19.ext hx17_5
        replace hb21 := hb21.ext hx17_5
        replace hE := hE.trans hx17_5
        refine Wl.acts rfl rfl (Does.stL 5 rfl rfl rfl hb23 (by kernel_rfl) rfl rfl rfl) ?_
        rintro _ w17_6 ⟨hbn, hF17_6⟩
        replace hb17 := hb17.fr hF17_6 (by first | assumption | exact Ne.symm (by assumption))
        replace hb19 := hb19.fr hF17_6 (by first | assumption | exact Ne.symm (by assumption))
        replace hb21 := hb21.fr hF17_6 (by first | assumption | exact Ne.symm (by assumption))
        replace hE := Ext.over hE hF17_6 hg23
        replace hb23 := hbn
        clear hbn
        have hy17 := Ext.over hx17_5 hF17_6 hs23
        replace hB := hB.ext hy17
        replace hq1 := hq1.ext hy17
        replace hq2 := hq2.ext hy17
        replace hq3 := hq3.ext hy17
        replace hq4 := hq4.ext hy17
        refine Wl.val rfl rfl rfl (Gives.assign rfl rfl) ?_
        refine Wl.nil ?_
        refine Wx.thenN (hK20 _ _ ?_)
        refine Wc.seq (fun K21 hK21 => ?_)
        refine Wc.seq (fun K22 hK22 => ?_)
        refine Wc.keep [(15, _), (17, _), (18, _), (19, _), (20, _), (21, _), (22, _), (23, _), (24, _)] (.cons rfl (.cons rfl (.cons rfl (.cons rfl (.cons rfl (.cons rfl (.cons rfl (.cons rfl (.cons rfl (.nil)))))))))) ?_
        refine Wc.region ?_
        refine Wl.val rfl rfl rfl (Gives.move rfl rfl) ?_
        refine Wl.val rfl rfl rfl (Gives.move rfl rfl) ?_
        refine Wl.val rfl rfl rfl (Gives.neq rfl rfl rfl) ?_
        refine Wl.val rfl rfl rfl (Gives.move rfl rfl) ?_
        refine Wl.guardT rfl rfl rfl (by simp) ?_
        refine Wl.val rfl rfl rfl (Gives.ldW rfl (by kernel_rfl) rfl hb17 (by kernel_rfl)) ?_
        refine Wl.val rfl rfl rfl (Gives.ldW rfl (by kernel_rfl) rfl hb19 (by kernel_rfl)) ?_
        refine Wl.call rfl rfl rfl rfl Tryd.func22 rfl (by kernel_rfl) rfl (sameQ_calls (P := fun _ => True) (P' := fun _ => True) _ _ r1 r2 hq1 hq2) ?_
        rintro x8 w18 ⟨rfl, hx8⟩
        refine ⟨_, rfl, ?_⟩
        replace hB := hB.ext hx8
        replace hq1 := hq1.ext hx8
        replace hq3 := hq3.ext hx8
        replace hq4 := hq4.ext hx8
        replace hb17 := hb17.ext hx8
        replace hb19 := hb19.ext hx8
        replace hb21 := hb21.ext hx8
        replace hb23 := hb23.ext hx8
        replace hE := hE.trans hx8
        refine Wl.val rfl rfl rfl (Gives.not rfl rfl) ?_
        refine Wl.val rfl rfl rfl (Gives.pickF rfl rfl rfl rfl) ?_
        refine Wl.val rfl rfl rfl (Gives.move rfl rfl) ?_
        refine Wl.guardT rfl rfl rfl rfl ?_
        refine Wl.val rfl rfl rfl (Gives.move rfl rfl) ?_
        refine Wl.val rfl rfl rfl (Gives.move rfl rfl) ?_
        refine Wl.val rfl rfl rfl (Gives.neq rfl rfl rfl) ?_
        refine Wl.val rfl rfl rfl (Gives.pickF rfl rfl rfl rfl) ?_
        refine Wl.val rfl rfl rfl (Gives.move rfl rfl) ?_
        refine Wl.guardT rfl rfl rfl (by simp) ?_
        refine Wl.val rfl rfl rfl (Gives.ldW rfl (by kernel_rfl) rfl hb21 (by kernel_rfl)) ?_
        refine Wl.val rfl rfl rfl (Gives.ldW rfl (by kernel_rfl) rfl hb23 (by kernel_rfl)) ?_
        refine Wl.call rfl rfl rfl rfl Tryd.func22 rfl (by kernel_rfl) rfl (sameQ_calls (P := fun _ => True) (P' := fun _ => True) _ _ r3 r4 hq3 hq4) ?_
        rintro x9 w19 ⟨rfl, hx9⟩
        refine ⟨_, rfl, ?_⟩
        replace hB := hB.ext hx9
        replace hq1 := hq1.ext hx9
        replace hb17 := hb17.ext hx9
        replace hb19 := hb19.ext hx9
        replace hb21 := hb21.ext hx9
        replace hb23 := hb23.ext hx9
        replace hE := hE.trans hx9
        refine Wl.val rfl rfl rfl (Gives.not rfl rfl) ?_
        refine Wl.val rfl rfl rfl (Gives.pickF rfl rfl rfl rfl) ?_
        refine Wl.nil ?_
        refine Wx.thenN (hK22 _ _ ?_)
        refine Wc.condF rfl rfl ?_
        refine Wc.skip ?_
        refine Wx.thenN (hK21 _ _ ?_)
        refine Wc.seq (fun K23 hK23 => ?_)
        refine Wc.seq (fun K24 hK24 => ?_)
        refine Wc.keep [(15, _), (17, _), (18, _)] (.cons rfl (.cons rfl (.cons rfl (.nil)))) ?_
        refine Wc.region ?_
        refine Wl.val rfl rfl rfl (Gives.move rfl rfl) ?_
        refine Wl.val rfl rfl rfl (Gives.neq rfl rfl rfl) ?_
        refine Wl.nil ?_
        refine Wx.thenN (hK24 _ _ ?_)
        refine Wc.cond _ rfl (fun h133 => ?_) (fun h133 => ?_)
        · (first | replace h133 := of_decide_eq_true h133 | replace h133 := nd_true h133 | skip)
          refine Wc.seq (fun K25 hK25 => ?_)
          refine Wc.keep [] (.nil) ?_
          refine Wc.region ?_
          refine Wl.val rfl rfl rfl (Gives.assign rfl rfl) ?_
          refine Wl.nil ?_
          refine Wx.thenN (hK25 _ _ ?_)
          refine Wc.ret ?_
          refine Wx.thenR ?_
          refine Wx.ret [_] ⟨rfl, trivial⟩ ?_
          first | exact ⟨rfl, hE⟩ | exact ⟨rb (decide_eq_true rfl), hE⟩
        · (first | replace h133 := of_decide_eq_false h133 | replace h133 := nd_false h133 | skip)
          refine Wc.skip ?_
          refine Wx.thenN (hK23 _ _ ?_)
          refine Wc.seq (fun K26 hK26 => ?_)
          refine Wc.keep [(15, _), (17, _)] (.cons rfl (.cons rfl (.nil))) ?_
          obtain ⟨hc0, he0⟩ := enc_back h133
          have hsm := (Fine.small (dec_back h133).1).few
          refine Wc.region ?_
          refine Wl.val rfl rfl rfl (Gives.ldW rfl (by kernel_rfl) rfl hb17 (by kernel_rfl)) ?_
          refine Wl.call rfl rfl rfl rfl Tryd.func16 rfl (by kernel_rfl) rfl (encodeP_calls (P := fun _ => True) _ (hT.ext hE) _ r1 hq1 hsm) ?_
          rintro x10 w22 ⟨S9, m9, c9, rfl, hO9, hx10⟩
          refine ⟨_, rfl, ?_⟩
          rw [hc0]
          rw [he0] at hO9
          replace hB := hB.ext hx10
          have hB9 := hO9.bv (P := fun _ => True) (fun _ _ => trivial)
          replace hb17 := hb17.ext hx10
          replace hb19 := hb19.ext hx10
          replace hb21 := hb21.ext hx10
          replace hb23 := hb23.ext hx10
          replace hE := hE.trans hx10
          refine Wl.val rfl rfl rfl (Gives.move rfl rfl) ?_
          refine Wl.val rfl rfl rfl (Gives.extract rfl rfl rfl) ?_
          refine Wl.val rfl rfl rfl (Gives.extract rfl rfl rfl) ?_
          refine Wl.val rfl rfl rfl (Gives.assign rfl rfl) ?_
          refine Wl.val rfl rfl rfl (Gives.assign rfl rfl) ?_
          refine Wl.nil ?_
          refine Wx.thenN (hK26 _ _ ?_)
          refine Wc.seq (fun K27 hK27 => ?_)
          refine Wc.keep [(15, _), (25, _), (26, _)] (.cons rfl (.cons rfl (.cons rfl (.nil)))) ?_
          refine Wc.region ?_
          refine Wl.val rfl rfl rfl (Gives.move rfl rfl) ?_
          refine Wl.val rfl rfl rfl (Gives.eql rfl rfl rfl) ?_
          refine Wl.val rfl rfl rfl (Gives.move rfl rfl) ?_
          refine Wl.guardT rfl rfl rfl rfl ?_
          refine Wl.val rfl rfl rfl (Gives.move rfl rfl) ?_
          refine Wl.val rfl rfl rfl (Gives.move rfl rfl) ?_
          refine Wl.call rfl rfl rfl rfl Tryd.func20 rfl (by kernel_rfl) rfl (same_calls _ _ _ _ _ _ _ _ _ hB hB9) ?_
          rintro x11 w23 ⟨rfl, hQ11⟩
          refine ⟨_, rfl, ?_⟩
          have hx11 := hQ11.ext
          replace hb17 := hb17.ext hx11
          replace hb19 := hb19.ext hx11
          replace hb21 := hb21.ext hx11
          replace hb23 := hb23.ext hx11
          replace hE := hE.trans hx11
          refine Wl.val rfl rfl rfl (Gives.pickT rfl rfl rfl rfl) ?_
          refine Wl.val rfl rfl rfl (Gives.assign rfl rfl) ?_
          refine Wl.nil ?_
          refine Wx.thenN (hK27 _ _ ?_)
          refine Wc.ret ?_
          refine Wx.ret [_] ⟨rfl, trivial⟩ ?_
          first | exact ⟨rfl, hE⟩ | exact ⟨rb (decide_eq_true rfl), hE⟩
  · (first | replace h32 := of_decide_eq_true h32 | replace h32 := nd_true h32 | skip)
    refine Wl.pass rfl rfl rfl ?_
    refine Wl.pass rfl rfl rfl ?_
    refine Wl.pass rfl rfl rfl ?_
    refine Wl.val rfl rfl rfl (Gives.pickT rfl rfl rfl rfl) ?_
    refine Wl.nil ?_
    refine Wx.thenN (hK5 _ _ ?_)
    refine Wc.condT rfl rfl ?_
    refine Wc.seq (fun K28 hK28 => ?_)
    refine Wc.keep [] (.nil) ?_
    refine Wc.region ?_
    refine Wl.val rfl rfl rfl (Gives.assign rfl rfl) ?_
    refine Wl.nil ?_
    refine Wx.thenN (hK28 _ _ ?_)
    refine Wc.ret ?_
    refine Wx.thenR ?_
    refine Wx.ret [_] ⟨rfl, trivial⟩ ?_
    first | exact ⟨rfl, hE⟩ | exact ⟨rb (decide_eq_true rfl), hE⟩
end Go.Proofs.YtaekpiejdgahfaaDoor
