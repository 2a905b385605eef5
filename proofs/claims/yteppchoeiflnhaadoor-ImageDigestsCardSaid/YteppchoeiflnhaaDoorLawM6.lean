/- ImageDigests: the walk. -/
import Derived.Test.YteppchoeiflnhaaDoorImgR
import Derived.Test.YteppchoeiflnhaaDoorSha1
namespace Go.Proofs.YteppchoeiflnhaaDoor
set_option linter.all false
set_option maxRecDepth 20000
open Go.RowKit
theorem sumP0 : SumC 35 0 sha1S := fun P w hT A n c l hl hn => (sum1P w A n c l hl (by omega)).mono fun e w' ⟨S, k, h1, h2, h3⟩ => ⟨S, 20, k, h1, h2, h3⟩
set_option maxRecDepth 20000 in
theorem sumR0 : SumC 64 0 sha1S := fun P w hT A n c l hl hn => by
  refine calls_enter Tryd.func64 rfl Tryd.ntmps64 rfl ?_
  have hE : Ext w w := Ext.refl w
  refine Wc.seq (fun K1 hK1 => ?_)
  refine Wc.keep [(0, _), (1, _)] (.cons rfl (.cons rfl (.nil))) ?_
  refine Wc.region ?_
  refine Wl.val rfl rfl rfl (Gives.assign rfl rfl) ?_
  refine Wl.nil ?_
  refine Wx.thenN (hK1 _ _ ?_)
  refine Wc.seq (fun K2 hK2 => ?_)
  refine Wc.seq (fun K3 hK3 => ?_)
  refine Wc.keep [(0, _), (1, _)] (.cons rfl (.cons rfl (.nil))) ?_
  refine Wc.region ?_
  refine Wl.val rfl rfl rfl (Gives.move rfl rfl) ?_
  refine Wl.nil ?_
  refine Wx.thenN (hK3 _ _ ?_)
  refine Wc.block ?_
  refine Wc.seq (fun K4 hK4 => ?_)
  refine Wc.keep [(1, _), (5, _)] (.cons rfl (.cons rfl (.nil))) ?_
  refine Wc.region ?_
  refine Wl.val rfl rfl rfl (Gives.eql rfl rfl rfl) ?_
  refine Wl.val rfl rfl rfl (Gives.assign rfl rfl) ?_
  refine Wl.nil ?_
  refine Wx.thenN (hK4 _ _ ?_)
  refine Wc.condT rfl (by decide) ?_
  refine Wc.seq (fun K5 hK5 => ?_)
  refine Wc.keep [(1, _)] (.cons rfl (.nil)) ?_
  refine Wc.region ?_
  refine Wl.val rfl rfl rfl (Gives.move rfl rfl) ?_
  refine Wl.call rfl rfl rfl rfl Tryd.func76 rfl (by kernel_rfl) rfl (sum1R _ A n c l (hl.ext hE) (by omega)) ?_
  rintro x1 w1 ⟨S, k, rfl, hO, hx1⟩
  refine ⟨_, rfl, ?_⟩
  have hzE := hE.size
  replace hE := hE.trans hx1
  refine Wl.val rfl rfl rfl (Gives.assign rfl rfl) ?_
  refine Wl.nil ?_
  refine Wx.thenN (hK5 _ _ ?_)
  refine Wc.ret ?_
  refine Wx.blockR ?_
  refine Wx.thenR ?_
  refine Wx.ret [_] ⟨rfl, trivial⟩ ?_
  exact ⟨S, 20, k, rfl, hO.mono hzE, hE⟩
theorem cell_goI {w0 wc wS : World} {b o : Nat} {v : Value} (h : w0.cell? ⟨b, o, none⟩ = some v) (hb : b < w0.heap.size) (hX : Ext w0 wc) (hS : Fr (Old w0.heap.size []) wc wS) : wS.cell? ⟨b, o, none⟩ = some v :=
  (World.cell?_of_block (w := wc) (a := ⟨b, o, none⟩) (hS.block b (Nat.lt_of_lt_of_le hb hX.size) ⟨hb, trivial⟩)).trans ((hX.cells.1 b o hb).trans h)
def sumI (i : Nat) : List UInt8 → List UInt8 := if i = 0 then sha1S else sha256S
theorem sumPI {i : Nat} (hi : i < 2) : SumC 35 (i : Int) (sumI i) := by
  rcases (show i = 0 ∨ i = 1 by omega) with rfl | rfl
  · exact sumP0
  · exact sumP1
theorem digI {bb : List UInt8} {act : Int} {i : Nat} {f : List UInt8} (hi : i < 2) (h : (digS sha1S bb act)[i]? = some f) : f = dig1 (sumI i) bb act i := by
  rcases (show i = 0 ∨ i = 1 by omega) with rfl | rfl
  · exact (Option.some.inj h).symm
  · exact (Option.some.inj h).symm
set_option maxRecDepth 20000 in
set_option maxHeartbeats 4000000 in
theorem imageDigests_walk {P P' : Nat → Prop} (w : World) (hTM : Tab w ∧ TabM w) (r v : Int) (nm : List UInt8) (A : Option Addr) (n c : Nat) (pay : List UInt8) (hp : BV w P A n c pay) (C : Option Addr) (cn cc : Nat) (codes : List UInt8) (hc : BV w P' C cn cc codes) (role act : Int) :
    Calls Tryd.prog 8 #[.agg #[.int .i64 r, txt nm, .int .i64 v, .slice A n c], .slice C cn cc, .int .i64 role, .int .i64 act] w fun e w' => e = .returned (.bool true) ∧ Ext w w' := by
  obtain ⟨hT, hM⟩ := hTM
  have hle := hp.le
  have hq := hp.cutS 300
  have hm4 := Int.emod_nonneg role (show (4 : Int) ≠ 0 by decide)
  have hm4' := Int.emod_lt_of_pos role (show (0 : Int) < 4 by decide)
  refine calls_enter Tryd.func8 rfl Tryd.ntmps8 rfl ?_
  have hE : Ext w w := Ext.refl w
  refine Wc.seq (fun K1 hK1 => ?_)
  refine Wc.keep [(0, _), (1, _), (2, _), (3, _)] (.cons rfl (.cons rfl (.cons rfl (.cons rfl (.nil))))) ?_
  refine Wc.region ?_
  refine Wl.does rfl rfl rfl (Does.boxA rfl rfl) ?_
  rintro _ w0_0 ⟨b4, rfl, hs4, hb4, hx0_0⟩
  have hg4 : w.heap.size ≤ b4 := Nat.le_trans hE.size hs4
  replace hE := hE.trans hx0_0
  refine Wl.val rfl rfl rfl (Gives.assign rfl rfl) ?_
  refine Wl.nil ?_
  refine Wx.thenN (hK1 _ _ ?_)
  refine Wc.seq (fun K2 hK2 => ?_)
  refine Wc.seq (fun K3 hK3 => ?_)
  refine Wc.keep [(1, _), (2, _), (3, _), (4, _)] (.cons rfl (.cons rfl (.cons rfl (.cons rfl (.nil))))) ?_
  refine Wc.region ?_
  refine Wl.call rfl rfl rfl rfl Tryd.func13 rfl (by kernel_rfl) rfl (awakeI _ (hT.ext hE) (hM.ext hE)) ?_
  rintro x0 w0 ⟨rfl, hx0⟩
  refine ⟨_, rfl, ?_⟩
  replace hb4 := hb4.ext hx0
  replace hE := hE.trans hx0
  refine Wl.val rfl rfl rfl (Gives.not rfl rfl) ?_
  refine Wl.nil ?_
  refine Wx.thenN (hK3 _ _ ?_)
  refine Wc.condF rfl rfl ?_
  refine Wc.skip ?_
  refine Wx.thenN (hK2 _ _ ?_)
  refine Wc.seq (fun K4 hK4 => ?_)
  refine Wc.keep [(1, _), (2, _), (3, _), (4, _)] (.cons rfl (.cons rfl (.cons rfl (.cons rfl (.nil))))) ?_
  refine Wc.region ?_
  refine Wl.val rfl rfl rfl (Gives.ldW rfl (by kernel_rfl) rfl hb4 (by kernel_rfl)) ?_
  refine Wl.call rfl rfl rfl rfl Tryd.func21 rfl (by kernel_rfl) rfl (fewI _ r v nm A n c hle) ?_
  rintro x1 w31 ⟨nm', rfl, hnm', hx31⟩
  refine ⟨_, rfl, ?_⟩
  replace hb4 := hb4.ext hx31
  replace hE := hE.trans hx31
  refine Wl.acts rfl rfl (Does.stL 4 rfl rfl rfl hb4 (by kernel_rfl) rfl rfl rfl) ?_
  rintro _ w3_2 ⟨hbn, hF3_2⟩
  replace hE := Ext.over hE hF3_2 hg4
  replace hb4 := hbn
  clear hbn
  refine Wl.nil ?_
  refine Wx.thenN (hK4 _ _ ?_)
  refine Wc.seq (fun K5 hK5 => ?_)
  refine Wc.keep [(1, _), (2, _), (3, _), (4, _)] (.cons rfl (.cons rfl (.cons rfl (.cons rfl (.nil))))) ?_
  refine Wc.region ?_
  refine Wl.val rfl rfl rfl (Gives.move rfl rfl) ?_
  refine Wl.call rfl rfl rfl rfl Tryd.func20 rfl (by kernel_rfl) rfl (mod_calls _ act 16 (by omega) (by omega)) ?_
  rintro x2 w41 ⟨rfl, rfl⟩
  refine ⟨_, rfl, ?_⟩
  generalize act % 16 = ac at *
  refine Wl.val rfl rfl rfl (Gives.assign rfl rfl) ?_
  refine Wl.nil ?_
  refine Wx.thenN (hK5 _ _ ?_)
  refine Wc.seq (fun K6 hK6 => ?_)
  refine Wc.keep [(1, _), (2, _), (3, _), (4, _)] (.cons rfl (.cons rfl (.cons rfl (.cons rfl (.nil))))) ?_
  refine Wc.region ?_
  refine Wl.val rfl rfl rfl (Gives.move rfl rfl) ?_
  refine Wl.call rfl rfl rfl rfl Tryd.func18 rfl (by kernel_rfl) rfl (newD _ C cn cc codes (hc.ext hE) 40) ?_
  rintro x3 w51 ⟨gC, rfl, hgC, hC, hx51⟩
  refine ⟨_, rfl, ?_⟩
  have hgw : w.heap.size ≤ gC := Nat.le_trans hE.size hgC
  have hn4g : b4 ≠ gC := by { have := hb4.lt; omega }
  replace hb4 := hb4.ext hx51
  replace hE := hE.trans hx51
  refine Wl.val rfl rfl rfl (Gives.move rfl rfl) ?_
  refine Wl.call rfl rfl rfl rfl Tryd.func20 rfl (by kernel_rfl) rfl (mod_calls _ role 4 (by omega) (by omega)) ?_
  rintro x4 w53 ⟨rfl, rfl⟩
  refine ⟨_, rfl, ?_⟩
  refine Wl.val rfl rfl rfl (Gives.add rfl rfl rfl (by first | exact IntWalk.i64_in _ (by omega) | exact u64_in _ (by omega) | exact u32_in _ (by omega) | exact u8_in _ (by omega) | exact rfl)) ?_
  refine Wl.call rfl rfl rfl rfl Tryd.func22 rfl (by kernel_rfl) rfl (imageD _ gC _ hC (Nat.le_refl _) (1 + role % 4) (by omega)) ?_
  rintro x5 w55 ⟨x, S1, m1, k1, rfl, hO1, hxe, hrole, hC2, hF55⟩
  refine ⟨_, rfl, ?_⟩
  have hm1 := hO1.len
  have hx64 := (img_ok hxe).2.2.1
  replace hb4 := hb4.fr hF55 (by first | assumption | exact Ne.symm (by assumption))
  replace hE := Ext.over hE hF55 hgw
  refine Wl.does rfl rfl rfl (Does.alB (.agg #[(.int .i64 0), (.string ByteArray.empty), (.int .i64 0), (.slice none 0 0)]) rfl (by kernel_rfl) rfl) ?_
  rintro _ w5_6 ⟨b9, rfl, hs9, hb9, hx5_6⟩
  have hn4_9 : b4 ≠ b9 := hb4.ne hs9
  have hg9 : w.heap.size ≤ b9 := Nat.le_trans hE.size hs9
  replace hb4 := hb4.ext hx5_6
  replace hE := hE.trans hx5_6
  refine Wl.acts rfl rfl (Does.stL 4 rfl rfl rfl hb9 (by kernel_rfl) rfl rfl rfl) ?_
  rintro _ w5_7 ⟨hbn, hF5_7⟩
  replace hb4 := hb4.fr hF5_7 (by first | assumption | exact Ne.symm (by assumption))
  replace hE := Ext.over hE hF5_7 hg9
  replace hb9 := hbn
  clear hbn
  have hP1 : BV w5_7 (fun _ => True) S1 m1 k1 x.pay := (((((hO1.bv (P := fun _ => True) fun _ _ => trivial).bd).mono (P' := fun q => q ≠ b9) fun q hq => by omega).ext hx5_6).fr hF5_7).mono fun _ _ => trivial
  have hbl : 0 < (imgB x).length := by rw [imgB_len hxe]; omega
  refine Wl.nil ?_
  refine Wx.thenN (hK6 _ _ ?_)
  refine Wc.seq (fun K7 hK7 => ?_)
  refine Wc.seq (fun K8 hK8 => ?_)
  refine Wc.keep [(2, _), (3, _), (4, _), (9, _)] (.cons rfl (.cons rfl (.cons rfl (.cons rfl (.nil))))) ?_
  refine Wc.regionB (fun q => [0, 2, 3, 5, 6, 10].contains q) [] (.read 0 (.read 1 (.read 3 (.read 4 (.call false 2 (.call true 5 (.call true 6 (.read 7 (.read 8 (.read 9 (.read 11 (.call true 10 .tail .none))))) .none) .none) .none))))) 12 (by kernel_rfl) (by kernel_rfl) (by kernel_rfl) ?_
  intro w6 hR6
  replace hb4 := hb4.ext hR6.ext
  replace hb9 := hb9.ext hR6.ext
  replace hE := hE.trans hR6.ext
  have hO6_4 : Old w6.heap.size [] b4 := ⟨hb4.lt, trivial⟩
  have hO6_9 : Old w6.heap.size [] b9 := ⟨hb9.lt, trivial⟩
  have hX := Ext.refl w6
  replace hP1 := hP1.ext hR6.ext
  refine RunE.readM rfl rfl rfl rfl rfl (fun wS hS => (Gives.ldW rfl (by kernel_rfl) rfl ((hb4.ext hX).fr hS hO6_4) (by kernel_rfl))) ?_
  refine RunE.read rfl rfl rfl rfl (fun wS _ => (Gives.move rfl rfl)) ?_
  refine RunE.readM rfl rfl rfl rfl rfl (fun wS hS => (Gives.ldW rfl (by kernel_rfl) rfl ((hb4.ext hX).fr hS hO6_4) (by kernel_rfl))) ?_
  refine RunE.read rfl rfl rfl rfl (fun wS _ => (Gives.move rfl rfl)) ?_
  refine RunE.turnC rfl rfl rfl rfl rfl Tryd.func31 rfl (by kernel_rfl) rfl (digestsP _ (hT.ext (hE.trans hX)) r v nm' A (min n 300) c (pay.take 300) (hq.ext (hE.trans hX)) (by omega) ac sha1S (fun _ => sumP0)) ?_ RunE.none
  rintro x6 w62 ⟨S2, k2, rfl, hD2, hx62⟩
  refine ⟨_, rfl, ?_⟩
  have hP2 := hP1.ext (hX.trans hx62)
  refine ⟨hx62.fr, ?_⟩
  replace hX := hX.trans hx62
  refine RunE.freeC rfl rfl rfl rfl rfl Tryd.func32 rfl (by kernel_rfl) rfl (digestsR _ (hT.ext (hE.trans hX)) r v nm' A (min n 300) c (pay.take 300) (hq.ext (hE.trans hX)) (by omega) ac sha1S (fun _ => sumR0)) ?_ RunE.none
  rintro x7 w65 ⟨S3, k3, rfl, hD3, hx65⟩
  refine ⟨_, rfl, ?_⟩
  replace hP2 := hP2.ext hx65
  replace hD2 := hD2.ext hx65
  replace hX := hX.trans hx65
  refine RunE.freeC rfl rfl rfl rfl rfl Tryd.func15 rfl (by kernel_rfl) rfl (lists_calls _ _ _ _ _ _ _ _ _ hD2 hD3) ?_ RunE.none
  rintro x8 w66 ⟨rfl, hq66⟩
  refine ⟨_, rfl, ?_⟩
  replace hP2 := hP2.ext hq66.ext
  replace hD2 := hD2.ext hq66.ext
  replace hX := hX.trans hq66.ext
  refine RunE.read rfl rfl rfl rfl (fun wS _ => (Gives.not rfl rfl)) ?_
  refine RunE.read rfl rfl rfl rfl (fun wS _ => (Gives.move rfl rfl)) ?_
  refine RunE.fix (t := 32) false rfl (by simp) ?_
  refine RunE.read rfl rfl rfl rfl (fun wS _ => (Gives.move rfl rfl)) ?_
  refine RunE.read rfl rfl rfl rfl (fun wS _ => (Gives.move rfl rfl)) ?_
  refine RunE.freeC rfl rfl rfl rfl rfl Tryd.func33 rfl (by kernel_rfl) rfl (regP _ (hM.ext (hE.trans hX)) role) ?_ RunE.none
  rintro x9 w610 ⟨rfl, rfl⟩
  refine ⟨_, rfl, ?_⟩
  refine RunE.tail rfl ?_
  replace hb4 := hb4.ext hX
  replace hb9 := hb9.ext hX
  replace hE := hE.trans hX
  refine Wl.call rfl rfl rfl rfl Tryd.func34 rfl (by kernel_rfl) rfl (regR _ role) ?_
  rintro x10 w612 ⟨rfl, rfl⟩
  refine ⟨_, rfl, ?_⟩
  refine Wl.val rfl rfl rfl (Gives.neq rfl rfl rfl) ?_
  refine Wl.val rfl rfl rfl (Gives.pickF rfl rfl rfl rfl) ?_
  refine Wl.nil ?_
  refine Wx.thenN (hK8 _ _ ?_)
  refine Wc.condF rfl (by simp) ?_
  refine Wc.skip ?_
  refine Wx.thenN (hK7 _ _ ?_)
  refine Wc.seq (fun K9 hK9 => ?_)
  refine Wc.keep [(3, _), (9, _)] (.cons rfl (.cons rfl (.nil))) ?_
  refine Wc.region ?_
  refine Wl.val rfl rfl rfl (Gives.ldW rfl (by kernel_rfl) rfl hb9 (by kernel_rfl)) ?_
  refine Wl.val rfl rfl rfl (Gives.move rfl rfl) ?_
  refine Wl.call rfl rfl rfl rfl Tryd.func31 rfl (by kernel_rfl) rfl (digestsP _ (hT.ext hE) x.role x.ver x.name S1 m1 k1 x.pay hP2 (by omega) ac sha1S (fun _ => sumP0)) ?_
  rintro x11 w82 ⟨S4, k4, rfl, hD4, hx82⟩
  refine ⟨_, rfl, ?_⟩
  replace hP2 := hP2.ext hx82
  replace hD4 : BL w82 (fun _ => True) S4 2 k4 (digS sha1S (imgB x) ac) := hD4.mono fun _ _ => trivial
  replace hb4 := hb4.ext hx82
  replace hb9 := hb9.ext hx82
  replace hE := hE.trans hx82
  refine Wl.val rfl rfl rfl (Gives.assign rfl rfl) ?_
  refine Wl.nil ?_
  refine Wx.thenN (hK9 _ _ ?_)
  refine Wc.seq (fun K10 hK10 => ?_)
  refine Wc.seq (fun K11 hK11 => ?_)
  refine Wc.keep [(3, _), (9, _), (10, _)] (.cons rfl (.cons rfl (.cons rfl (.nil)))) ?_
  refine Wc.region ?_
  refine Wl.val rfl rfl rfl (Gives.move rfl rfl) ?_
  refine Wl.val rfl rfl rfl (Gives.lenS rfl Tryd.underlying28 rfl) ?_
  refine Wl.val rfl rfl rfl (Gives.neq rfl rfl rfl) ?_
  refine Wl.nil ?_
  refine Wx.thenN (hK11 _ _ ?_)
  refine Wc.condF rfl rfl ?_
  refine Wc.skip ?_
  refine Wx.thenN (hK10 _ _ ?_)
  refine Wc.seq (fun K12 hK12 => ?_)
  refine Wc.seq (fun K13 hK13 => ?_)
  refine Wc.keep [(3, _), (9, _), (10, _)] (.cons rfl (.cons rfl (.cons rfl (.nil)))) ?_
  refine Wc.region ?_
  refine Wl.val rfl rfl rfl (Gives.assign rfl rfl) ?_
  refine Wl.nil ?_
  refine Wx.thenN (hK13 _ _ ?_)
  refine Wc.block ?_
  refine Wc.keep [(3, _), (9, _), (10, _), (11, _)] (.cons rfl (.cons rfl (.cons rfl (.cons rfl (.nil))))) ?_
  refine Wc.loopC (ι := Nat) [(3, _), (9, _), (10, _)] (fun i => [(11, .int .i64 (i : Int))]) (fun i wr => i ≤ 2 ∧ BV wr (fun _ => True) S1 m1 k1 x.pay ∧ BL wr (fun _ => True) S4 2 k4 (digS sha1S (imgB x) ac) ∧ Blk wr b9 26 #[.int .i64 x.role, txt x.name, .int .i64 x.ver, .slice S1 m1 k1] ∧ Ext w wr) (fun i => 2 - i) (0) (.cons (by first | exact rfl | exact look_int rfl (by omega) | exact look_slice rfl (by omega)) (.cons rfl (.cons rfl (.cons rfl (.nil))))) (⟨by omega, hP2, hD4, hb9, hE⟩) ?_
  intro i wr hJ KL1 hKL1
  clear hE hP2 hD4 hb9
  obtain ⟨hi, hP2, hD4, hb9, hE⟩ := hJ
  refine Wc.seq (fun K14 hK14 => ?_)
  refine Wc.seq (fun K15 hK15 => ?_)
  refine Wc.keep [(3, _), (9, _), (10, _), (11, _)] (.cons rfl (.cons rfl (.cons rfl (.cons rfl (.nil))))) ?_
  refine Wc.region ?_
  refine Wl.val rfl rfl rfl (Gives.move rfl rfl) ?_
  refine Wl.val rfl rfl rfl (Gives.lss rfl rfl rfl) ?_
  refine Wl.nil ?_
  refine Wx.thenN (hK15 _ _ ?_)
  refine Wc.cond _ rfl (fun h46 => ?_) (fun h46 => ?_)
  · (first | replace h46 := of_decide_eq_true h46 | replace h46 := nd_true h46 | skip)
    refine Wc.skip ?_
    refine Wx.thenN (hK14 _ _ ?_)
    refine Wc.seq (fun K16 hK16 => ?_)
    refine Wc.block ?_
    refine Wc.seq (fun K17 hK17 => ?_)
    refine Wc.keep [(3, _), (9, _), (10, _), (11, _)] (.cons rfl (.cons rfl (.cons rfl (.cons rfl (.nil))))) ?_
    refine Wc.regionB (fun q => [10, 12, 13, 14, 15].contains q) [] (.read 0 (.read 1 (.read 2 (.read 3 (.read 4 (.read 5 (.read 6 (.read 7 (.read 8 (.read 9 (.read 10 (.read 11 (.read 12 (.call false 13 (.call false 14 (.call true 15 (.read 16 (.read 17 (.read 18 (.read 19 (.read 20 (.read 21 (.read 22 (.read 23 (.read 24 (.read 25 (.read 26 (.read 27 .tail)))))))))))) .none) .none) .none)))))))))))))) 28 (by kernel_rfl) (by kernel_rfl) (by kernel_rfl) ?_
    intro w14 hR14
    replace hb9 := hb9.ext hR14.ext
    replace hE := hE.trans hR14.ext
    have hO14_9 : Old w14.heap.size [] b9 := ⟨hb9.lt, trivial⟩
    have hX := Ext.refl w14
    replace hP2 := hP2.ext hR14.ext
    replace hD4 := hD4.ext hR14.ext
    obtain ⟨xb, xo, rfl, hbw, f, fA, fn, fc, hz, hcell, hF⟩ := hD4.at'' (show i < 2 by omega)
    have hfi := digI (by omega) hz
    have hfl := hF.len
    refine RunE.read rfl rfl rfl rfl (fun wS _ => (Gives.move rfl rfl)) ?_
    refine RunE.read rfl rfl rfl rfl (fun wS _ => (Gives.move rfl rfl)) ?_
    refine RunE.read rfl rfl rfl rfl (fun wS _ => (Gives.conv rfl Tryd.underlying3 Tryd.underlying46 rfl (u64_in _ (by omega)))) ?_
    refine RunE.read rfl rfl rfl rfl (fun wS _ => (Gives.shr rfl rfl rfl (by omega) rfl)) ?_
    refine RunE.read rfl rfl rfl rfl (fun wS _ => (Gives.bits .and (by simp) rfl rfl rfl rfl)) ?_
    refine RunE.read rfl rfl rfl rfl (fun wS _ => (Gives.eql rfl rfl rfl)) ?_
    refine RunE.read rfl rfl rfl rfl (fun wS _ => (Gives.move rfl rfl)) ?_
    refine RunE.split (t := 55) rfl (fun h55 => ?_) (fun h55 => ?_)
    · (first | replace h55 := of_decide_eq_true h55 | replace h55 := nd_true h55 | skip)
      refine RunE.read rfl rfl rfl rfl (fun wS _ => (Gives.move rfl rfl)) ?_
      refine RunE.read rfl rfl rfl rfl (fun wS _ => (Gives.move rfl rfl)) ?_
      refine RunE.read rfl rfl rfl rfl (fun wS _ => (Gives.ixS (i := _) rfl Tryd.underlying28 (by kernel_rfl) rfl rfl rfl (by omega))) ?_
      refine RunE.readM rfl rfl rfl rfl rfl (fun wS hS => (Gives.ldC rfl (by kernel_rfl) rfl ((cell_goI hcell hbw hX hS)))) ?_
      refine RunE.read rfl rfl rfl rfl (fun wS _ => (Gives.move rfl rfl)) ?_
      refine RunE.readM rfl rfl rfl rfl rfl (fun wS hS => (Gives.ldW rfl (by kernel_rfl) rfl ((hb9.ext hX).fr hS hO14_9) (by kernel_rfl))) ?_
      refine RunE.turnC rfl rfl rfl rfl rfl Tryd.func25 rfl (by kernel_rfl) rfl (encP _ x.role x.ver x.name S1 m1 k1 x.pay (hP2.ext hX) (by omega)) ?_ RunE.none
      rintro x12 w1413 ⟨S5, m5, k5, rfl, hO5, hx1413⟩
      refine ⟨_, rfl, ?_⟩
      have hB5 : BV w1413 (fun _ => True) S5 m5 k5 (imgB x) := hO5.bv fun _ _ => trivial
      have hm5 : (imgB x).length = m5 := hO5.len
      have hm5' := imgB_le x
      have hxa := hX.trans hx1413
      refine ⟨hx1413.fr, ?_⟩
      replace hX := hX.trans hx1413
      refine RunE.turnC rfl rfl rfl rfl rfl Tryd.func35 rfl (by kernel_rfl) rfl (sumPI (show i < 2 by omega) _ _ (hT.ext (hE.trans hX)) S5 m5 k5 (imgB x) hB5 (by omega)) ?_ RunE.none
      rintro x13 w1414 ⟨S6, m6, k6, rfl, hO6, hx1414⟩
      refine ⟨_, rfl, ?_⟩
      have hB6 : BV w1414 (fun _ => True) S6 m6 k6 (sumI i (imgB x)) := hO6.bv fun _ _ => trivial
      have hxb := hxa.trans hx1414
      refine ⟨hx1414.fr, ?_⟩
      replace hB5 := hB5.ext hx1414
      replace hX := hX.trans hx1414
      refine RunE.freeC rfl rfl rfl rfl rfl Tryd.func27 rfl (by kernel_rfl) rfl (same_calls _ _ _ _ _ _ _ _ _ (hF.ext hxb) hB6) ?_ RunE.none
      rintro x14 w1415 ⟨rfl, hq1415⟩
      refine ⟨_, rfl, ?_⟩
      have hx1415 := hq1415.ext
      have hxc := hxb.trans hx1415
      replace hB5 := hB5.ext hx1415
      replace hB6 := hB6.ext hx1415
      replace hX := hX.trans hx1415
      refine RunE.read rfl rfl rfl rfl (fun wS _ => (Gives.not rfl rfl)) ?_
      refine RunE.read rfl rfl rfl rfl (fun wS _ => (Gives.pickT rfl rfl rfl rfl)) ?_
      refine RunE.read rfl rfl rfl rfl (fun wS _ => (Gives.move rfl rfl)) ?_
      refine RunE.fix (t := 67) false rfl (by first | rfl | (rw [hfi, dig_yes hbl (decide_eq_true h55)]; simp)) ?_
      refine RunE.read rfl rfl rfl rfl (fun wS _ => (Gives.move rfl rfl)) ?_
      refine RunE.read rfl rfl rfl rfl (fun wS _ => (Gives.move rfl rfl)) ?_
      refine RunE.read rfl rfl rfl rfl (fun wS _ => (Gives.conv rfl Tryd.underlying3 Tryd.underlying46 rfl (u64_in _ (by omega)))) ?_
      refine RunE.read rfl rfl rfl rfl (fun wS _ => (Gives.shr rfl rfl rfl (by omega) rfl)) ?_
      refine RunE.read rfl rfl rfl rfl (fun wS _ => (Gives.bits .and (by simp) rfl rfl rfl rfl)) ?_
      refine RunE.read rfl rfl rfl rfl (fun wS _ => (Gives.eql rfl rfl rfl)) ?_
      refine RunE.read rfl rfl rfl rfl (fun wS _ => (Gives.move rfl rfl)) ?_
      refine RunE.split (t := 74) rfl (fun h74 => ?_) (fun h74 => ?_)
      · (first | replace h74 := of_decide_eq_true h74 | replace h74 := nd_true h74 | skip)
        refine RunE.read rfl rfl rfl rfl (fun wS _ => (Gives.move rfl rfl)) ?_
        refine RunE.read rfl rfl rfl rfl (fun wS _ => (Gives.move rfl rfl)) ?_
        refine RunE.tail rfl ?_
        replace hb9 := hb9.ext hX
        replace hE := hE.trans hX
        refine Wl.val rfl rfl rfl (Gives.ixS (i := _) rfl Tryd.underlying28 (by kernel_rfl) rfl rfl rfl (by omega)) ?_
        refine Wl.val rfl rfl rfl (Gives.ldC rfl (by kernel_rfl) rfl ((hX.cells.1 xb _ hbw).trans hcell)) ?_
        refine Wl.val rfl rfl rfl (Gives.lenS rfl Tryd.underlying22 rfl) ?_
        refine Wl.val rfl rfl rfl (Gives.gtr rfl rfl rfl) ?_
        refine Wl.val rfl rfl rfl (Gives.pickT rfl rfl rfl rfl) ?_
        refine Wl.val rfl rfl rfl (Gives.pickF rfl rfl rfl rfl) ?_
        refine Wl.nil ?_
        refine Wx.thenN (hK17 _ _ ?_)
        refine Wc.condF rfl (by first | rfl | exact decide_eq_false (by omega) | (rw [← hfl, hfi, dig_no (fun hh => h55 (of_decide_eq_true hh.2))]; rfl)) ?_
        refine Wc.skip ?_
        refine Wx.blockN ?_
        refine Wx.thenN (hK16 _ _ ?_)
        refine Wc.keep [(3, _), (9, _), (10, _), (11, _)] (.cons rfl (.cons rfl (.cons rfl (.cons rfl (.nil))))) ?_
        refine Wc.region ?_
        refine Wl.val rfl rfl rfl (Gives.move rfl rfl) ?_
        refine Wl.val rfl rfl rfl (Gives.add rfl rfl rfl (by first | exact IntWalk.i64_in _ (by omega) | exact u64_in _ (by omega) | exact u32_in _ (by omega) | exact u8_in _ (by omega) | exact rfl)) ?_
        refine Wl.val rfl rfl rfl (Gives.assign rfl rfl) ?_
        refine Wl.nil ?_
        refine Wx.thenN ?_
        exact hKL1 (i + 1) _ _ (.cons (by first | exact rfl | exact look_int rfl (by omega) | exact look_slice rfl (by omega)) (.cons rfl (.cons rfl (.cons rfl (.nil))))) ⟨by omega, hP2.ext hX, hD4.ext hX, hb9, hE⟩ (by show 2 - (i + 1) < 2 - i; omega)
      · (first | replace h74 := of_decide_eq_false h74 | replace h74 := nd_false h74 | skip)
        refine RunE.pass rfl rfl rfl rfl ?_
        refine RunE.pass rfl rfl rfl rfl ?_
        refine RunE.tail rfl ?_
        replace hb9 := hb9.ext hX
        replace hE := hE.trans hX
        refine Wl.pass rfl rfl rfl ?_
        refine Wl.pass rfl rfl rfl ?_
        refine Wl.pass rfl rfl rfl ?_
        refine Wl.pass rfl rfl rfl ?_
        refine Wl.val rfl rfl rfl (Gives.pickF rfl rfl rfl rfl) ?_
        refine Wl.val rfl rfl rfl (Gives.pickF rfl rfl rfl rfl) ?_
        refine Wl.nil ?_
        refine Wx.thenN (hK17 _ _ ?_)
        refine Wc.condF rfl rfl ?_
        refine Wc.skip ?_
        refine Wx.blockN ?_
        refine Wx.thenN (hK16 _ _ ?_)
        refine Wc.keep [(3, _), (9, _), (10, _), (11, _)] (.cons rfl (.cons rfl (.cons rfl (.cons rfl (.nil))))) ?_
        refine Wc.region ?_
        refine Wl.val rfl rfl rfl (Gives.move rfl rfl) ?_
        refine Wl.val rfl rfl rfl (Gives.add rfl rfl rfl (by first | exact IntWalk.i64_in _ (by omega) | exact u64_in _ (by omega) | exact u32_in _ (by omega) | exact u8_in _ (by omega) | exact rfl)) ?_
        refine Wl.val rfl rfl rfl (Gives.assign rfl rfl) ?_
        refine Wl.nil ?_
        refine Wx.thenN ?_
        exact hKL1 (i + 1) _ _ (.cons (by first | exact rfl | exact look_int rfl (by omega) | exact look_slice rfl (by omega)) (.cons rfl (.cons rfl (.cons rfl (.nil))))) ⟨by omega, hP2.ext hX, hD4.ext hX, hb9, hE⟩ (by show 2 - (i + 1) < 2 - i; omega)
    · (first | replace h55 := of_decide_eq_false h55 | replace h55 := nd_false h55 | skip)
      refine RunE.pass rfl rfl rfl rfl ?_
      refine RunE.pass rfl rfl rfl rfl ?_
      refine RunE.pass rfl rfl rfl rfl ?_
      refine RunE.pass rfl rfl rfl rfl ?_
      refine RunE.pass rfl rfl rfl rfl ?_
      refine RunE.pass rfl rfl rfl rfl ?_
      refine RunE.passC (fun _ => Fr.refl _ _) rfl rfl rfl rfl ?_ RunE.none
      refine RunE.passC (fun _ => Fr.refl _ _) rfl rfl rfl rfl ?_ RunE.none
      refine RunE.passC (fun _ => Fr.refl _ _) rfl rfl rfl rfl ?_ RunE.none
      refine RunE.pass rfl rfl rfl rfl ?_
      refine RunE.read rfl rfl rfl rfl (fun wS _ => (Gives.pickF rfl rfl rfl rfl)) ?_
      refine RunE.read rfl rfl rfl rfl (fun wS _ => (Gives.move rfl rfl)) ?_
      refine RunE.fix (t := 67) false rfl rfl ?_
      refine RunE.read rfl rfl rfl rfl (fun wS _ => (Gives.move rfl rfl)) ?_
      refine RunE.read rfl rfl rfl rfl (fun wS _ => (Gives.move rfl rfl)) ?_
      refine RunE.read rfl rfl rfl rfl (fun wS _ => (Gives.conv rfl Tryd.underlying3 Tryd.underlying46 rfl (u64_in _ (by omega)))) ?_
      refine RunE.read rfl rfl rfl rfl (fun wS _ => (Gives.shr rfl rfl rfl (by omega) rfl)) ?_
      refine RunE.read rfl rfl rfl rfl (fun wS _ => (Gives.bits .and (by simp) rfl rfl rfl rfl)) ?_
      refine RunE.read rfl rfl rfl rfl (fun wS _ => (Gives.eql rfl rfl rfl)) ?_
      refine RunE.read rfl rfl rfl rfl (fun wS _ => (Gives.move rfl rfl)) ?_
      refine RunE.split (t := 74) rfl (fun h74 => ?_) (fun h74 => ?_)
      · (first | replace h74 := of_decide_eq_true h74 | replace h74 := nd_true h74 | skip)
        refine RunE.read rfl rfl rfl rfl (fun wS _ => (Gives.move rfl rfl)) ?_
        refine RunE.read rfl rfl rfl rfl (fun wS _ => (Gives.move rfl rfl)) ?_
        refine RunE.tail rfl ?_
        replace hb9 := hb9.ext hX
        replace hE := hE.trans hX
        refine Wl.val rfl rfl rfl (Gives.ixS (i := _) rfl Tryd.underlying28 (by kernel_rfl) rfl rfl rfl (by omega)) ?_
        refine Wl.val rfl rfl rfl (Gives.ldC rfl (by kernel_rfl) rfl ((hX.cells.1 xb _ hbw).trans hcell)) ?_
        refine Wl.val rfl rfl rfl (Gives.lenS rfl Tryd.underlying22 rfl) ?_
        refine Wl.val rfl rfl rfl (Gives.gtr rfl rfl rfl) ?_
        refine Wl.val rfl rfl rfl (Gives.pickT rfl rfl rfl rfl) ?_
        refine Wl.val rfl rfl rfl (Gives.pickF rfl rfl rfl rfl) ?_
        refine Wl.nil ?_
        refine Wx.thenN (hK17 _ _ ?_)
        refine Wc.condF rfl (by first | rfl | exact decide_eq_false (by omega) | (rw [← hfl, hfi, dig_no (fun hh => h55 (of_decide_eq_true hh.2))]; rfl)) ?_
        refine Wc.skip ?_
        refine Wx.blockN ?_
        refine Wx.thenN (hK16 _ _ ?_)
        refine Wc.keep [(3, _), (9, _), (10, _), (11, _)] (.cons rfl (.cons rfl (.cons rfl (.cons rfl (.nil))))) ?_
        refine Wc.region ?_
        refine Wl.val rfl rfl rfl (Gives.move rfl rfl) ?_
        refine Wl.val rfl rfl rfl (Gives.add rfl rfl rfl (by first | exact IntWalk.i64_in _ (by omega) | exact u64_in _ (by omega) | exact u32_in _ (by omega) | exact u8_in _ (by omega) | exact rfl)) ?_
        refine Wl.val rfl rfl rfl (Gives.assign rfl rfl) ?_
        refine Wl.nil ?_
        refine Wx.thenN ?_
        exact hKL1 (i + 1) _ _ (.cons (by first | exact rfl | exact look_int rfl (by omega) | exact look_slice rfl (by omega)) (.cons rfl (.cons rfl (.cons rfl (.nil))))) ⟨by omega, hP2.ext hX, hD4.ext hX, hb9, hE⟩ (by show 2 - (i + 1) < 2 - i; omega)
      · (first | replace h74 := of_decide_eq_false h74 | replace h74 := nd_false h74 | skip)
        refine RunE.pass rfl rfl rfl rfl ?_
        refine RunE.pass rfl rfl rfl rfl ?_
        refine RunE.tail rfl ?_
        replace hb9 := hb9.ext hX
        replace hE := hE.trans hX
        refine Wl.pass rfl rfl rfl ?_
        refine Wl.pass rfl rfl rfl ?_
        refine Wl.pass rfl rfl rfl ?_
        refine Wl.pass rfl rfl rfl ?_
        refine Wl.val rfl rfl rfl (Gives.pickF rfl rfl rfl rfl) ?_
        refine Wl.val rfl rfl rfl (Gives.pickF rfl rfl rfl rfl) ?_
        refine Wl.nil ?_
        refine Wx.thenN (hK17 _ _ ?_)
        refine Wc.condF rfl rfl ?_
        refine Wc.skip ?_
        refine Wx.blockN ?_
        refine Wx.thenN (hK16 _ _ ?_)
        refine Wc.keep [(3, _), (9, _), (10, _), (11, _)] (.cons rfl (.cons rfl (.cons rfl (.cons rfl (.nil))))) ?_
        refine Wc.region ?_
        refine Wl.val rfl rfl rfl (Gives.move rfl rfl) ?_
        refine Wl.val rfl rfl rfl (Gives.add rfl rfl rfl (by first | exact IntWalk.i64_in _ (by omega) | exact u64_in _ (by omega) | exact u32_in _ (by omega) | exact u8_in _ (by omega) | exact rfl)) ?_
        refine Wl.val rfl rfl rfl (Gives.assign rfl rfl) ?_
        refine Wl.nil ?_
        refine Wx.thenN ?_
        exact hKL1 (i + 1) _ _ (.cons (by first | exact rfl | exact look_int rfl (by omega) | exact look_slice rfl (by omega)) (.cons rfl (.cons rfl (.cons rfl (.nil))))) ⟨by omega, hP2.ext hX, hD4.ext hX, hb9, hE⟩ (by show 2 - (i + 1) < 2 - i; omega)
  · (first | replace h46 := of_decide_eq_false h46 | replace h46 := nd_false h46 | skip)
    refine Wc.exit ?_
    refine Wx.thenE ?_
    refine Wx.thenE ?_
    refine Wx.hit ?_
    refine Wx.thenN (hK12 _ _ ?_)
    refine Wc.seq (fun K18 hK18 => ?_)
    refine Wc.keep [] (.nil) ?_
    refine Wc.region ?_
    refine Wl.val rfl rfl rfl (Gives.assign rfl rfl) ?_
    refine Wl.nil ?_
    refine Wx.thenN (hK18 _ _ ?_)
    refine Wc.ret ?_
    refine Wx.ret [_] ⟨rfl, trivial⟩ ?_
    first | exact ⟨rfl, hE⟩ | exact ⟨ret_bool (by simp), hE⟩
end Go.Proofs.YteppchoeiflnhaaDoor
