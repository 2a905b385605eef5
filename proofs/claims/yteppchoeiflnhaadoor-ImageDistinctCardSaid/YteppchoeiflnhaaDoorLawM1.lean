/- ImageEncode, ImageDistinct: the walks. -/
import Derived.Test.YteppchoeiflnhaaDoorImgR
namespace Go.Proofs.YteppchoeiflnhaaDoor
set_option linter.all false
set_option maxRecDepth 20000
open Go.RowKit
theorem decV {P : Nat → Prop} (w : World) {x : Im} (hx : imgE x = 0) (A : Option Addr) (n c : Nat) (ha : BV w P A n c (imgB x)) : Calls Tryd.prog 26 #[.slice A n c] w (DecR w x 0) := by
  have hl := ha.len
  have := imgB_le x
  have h := decP w A n c _ ha (by omega)
  have h1 := (dec_enc hx).1
  have h2 := (dec_enc hx).2
  unfold decI decE at h
  rw [if_pos h1, if_pos h1, h2] at h
  exact h
set_option maxRecDepth 20000 in
set_option maxHeartbeats 2000000 in
theorem imageEncode_walk {P P' : Nat → Prop} (w : World) (hTM : Tab w ∧ TabM w) (r v : Int) (nm : List UInt8) (A : Option Addr) (n c : Nat) (pay : List UInt8) (hp : BV w P A n c pay) (C : Option Addr) (cn cc : Nat) (codes : List UInt8) (hc : BV w P' C cn cc codes) (role : Int) :
    Calls Tryd.prog 5 #[.agg #[.int .i64 r, txt nm, .int .i64 v, .slice A n c], .slice C cn cc, .int .i64 role] w fun e w' => e = .returned (.bool true) ∧ Ext w w' := by
  obtain ⟨hT, hM⟩ := hTM
  have hle := hp.le
  have hq := hp.cutS 300
  have hm4 := Int.emod_nonneg role (show (4 : Int) ≠ 0 by decide)
  have hm4' := Int.emod_lt_of_pos role (show (0 : Int) < 4 by decide)
  refine calls_enter Tryd.func5 rfl Tryd.ntmps5 rfl ?_
  have hE : Ext w w := Ext.refl w
  refine Wc.seq (fun K1 hK1 => ?_)
  refine Wc.keep [(0, _), (1, _), (2, _)] (.cons rfl (.cons rfl (.cons rfl (.nil)))) ?_
  refine Wc.region ?_
  refine Wl.does rfl rfl rfl (Does.boxA rfl rfl) ?_
  rintro _ w0_0 ⟨b3, rfl, hs3, hb3, hx0_0⟩
  have hg3 : w.heap.size ≤ b3 := Nat.le_trans hE.size hs3
  replace hE := hE.trans hx0_0
  refine Wl.val rfl rfl rfl (Gives.assign rfl rfl) ?_
  refine Wl.nil ?_
  refine Wx.thenN (hK1 _ _ ?_)
  refine Wc.seq (fun K2 hK2 => ?_)
  refine Wc.seq (fun K3 hK3 => ?_)
  refine Wc.keep [(1, _), (2, _), (3, _)] (.cons rfl (.cons rfl (.cons rfl (.nil)))) ?_
  refine Wc.region ?_
  refine Wl.call rfl rfl rfl rfl Tryd.func13 rfl (by kernel_rfl) rfl (awakeI _ (hT.ext hE) (hM.ext hE)) ?_
  rintro x0 w0 ⟨rfl, hx0⟩
  refine ⟨_, rfl, ?_⟩
  replace hb3 := hb3.ext hx0
  replace hE := hE.trans hx0
  refine Wl.val rfl rfl rfl (Gives.not rfl rfl) ?_
  refine Wl.nil ?_
  refine Wx.thenN (hK3 _ _ ?_)
  refine Wc.condF rfl rfl ?_
  refine Wc.skip ?_
  refine Wx.thenN (hK2 _ _ ?_)
  refine Wc.seq (fun K4 hK4 => ?_)
  refine Wc.keep [(1, _), (2, _), (3, _)] (.cons rfl (.cons rfl (.cons rfl (.nil)))) ?_
  refine Wc.region ?_
  refine Wl.val rfl rfl rfl (Gives.ldW rfl (by kernel_rfl) rfl hb3 (by kernel_rfl)) ?_
  refine Wl.call rfl rfl rfl rfl Tryd.func21 rfl (by kernel_rfl) rfl (fewI _ r v nm A n c hle) ?_
  rintro x1 w31 ⟨nm', rfl, hnm', hx31⟩
  refine ⟨_, rfl, ?_⟩
  replace hb3 := hb3.ext hx31
  replace hE := hE.trans hx31
  refine Wl.acts rfl rfl (Does.stL 4 rfl rfl rfl hb3 (by kernel_rfl) rfl rfl rfl) ?_
  rintro _ w3_2 ⟨hbn, hF3_2⟩
  replace hE := Ext.over hE hF3_2 hg3
  replace hb3 := hbn
  clear hbn
  refine Wl.nil ?_
  refine Wx.thenN (hK4 _ _ ?_)
  refine Wc.seq (fun K5 hK5 => ?_)
  refine Wc.keep [(1, _), (2, _), (3, _)] (.cons rfl (.cons rfl (.cons rfl (.nil)))) ?_
  refine Wc.region ?_
  refine Wl.val rfl rfl rfl (Gives.move rfl rfl) ?_
  refine Wl.call rfl rfl rfl rfl Tryd.func18 rfl (by kernel_rfl) rfl (newD _ C cn cc codes (hc.ext hE) 40) ?_
  rintro x2 w41 ⟨gC, rfl, hgC, hC, hx41⟩
  refine ⟨_, rfl, ?_⟩
  have hgw : w.heap.size ≤ gC := Nat.le_trans hE.size hgC
  have hn3g : b3 ≠ gC := by { have := hb3.lt; omega }
  replace hb3 := hb3.ext hx41
  replace hE := hE.trans hx41
  refine Wl.val rfl rfl rfl (Gives.move rfl rfl) ?_
  refine Wl.call rfl rfl rfl rfl Tryd.func20 rfl (by kernel_rfl) rfl (mod_calls _ role 4 (by omega) (by omega)) ?_
  rintro x3 w43 ⟨rfl, rfl⟩
  refine ⟨_, rfl, ?_⟩
  refine Wl.val rfl rfl rfl (Gives.add rfl rfl rfl (by first | exact IntWalk.i64_in _ (by omega) | exact u64_in _ (by omega) | exact u32_in _ (by omega) | exact u8_in _ (by omega) | exact rfl)) ?_
  refine Wl.call rfl rfl rfl rfl Tryd.func22 rfl (by kernel_rfl) rfl (imageD _ gC _ hC (Nat.le_refl _) (1 + role % 4) (by omega)) ?_
  rintro x4 w45 ⟨x, S1, m1, k1, rfl, hO1, hxe, hrole, hC2, hF45⟩
  refine ⟨_, rfl, ?_⟩
  have hm1 := hO1.len
  have hx64 := (img_ok hxe).2.2.1
  replace hb3 := hb3.fr hF45 (by first | assumption | exact Ne.symm (by assumption))
  replace hE := Ext.over hE hF45 hgw
  refine Wl.does rfl rfl rfl (Does.alB (.agg #[(.int .i64 0), (.string ByteArray.empty), (.int .i64 0), (.slice none 0 0)]) rfl (by kernel_rfl) rfl) ?_
  rintro _ w4_6 ⟨b7, rfl, hs7, hb7, hx4_6⟩
  have hn3_7 : b3 ≠ b7 := hb3.ne hs7
  have hg7 : w.heap.size ≤ b7 := Nat.le_trans hE.size hs7
  replace hb3 := hb3.ext hx4_6
  replace hE := hE.trans hx4_6
  refine Wl.acts rfl rfl (Does.stL 4 rfl rfl rfl hb7 (by kernel_rfl) rfl rfl rfl) ?_
  rintro _ w4_7 ⟨hbn, hF4_7⟩
  replace hb3 := hb3.fr hF4_7 (by first | assumption | exact Ne.symm (by assumption))
  replace hE := Ext.over hE hF4_7 hg7
  replace hb7 := hbn
  clear hbn
  have hP1 : BV w4_7 (fun _ => True) S1 m1 k1 x.pay := (((((hO1.bv (P := fun _ => True) fun _ _ => trivial).bd).mono (P' := fun q => q ≠ b7) fun q hq => by omega).ext hx4_6).fr hF4_7).mono fun _ _ => trivial
  refine Wl.nil ?_
  refine Wx.thenN (hK5 _ _ ?_)
  refine Wc.seq (fun K6 hK6 => ?_)
  refine Wc.keep [(3, _), (7, _)] (.cons rfl (.cons rfl (.nil))) ?_
  refine Wc.region ?_
  refine Wl.val rfl rfl rfl (Gives.ldW rfl (by kernel_rfl) rfl hb7 (by kernel_rfl)) ?_
  refine Wl.call rfl rfl rfl rfl Tryd.func25 rfl (by kernel_rfl) rfl (encP _ x.role x.ver x.name S1 m1 k1 x.pay hP1 (by omega)) ?_
  rintro x5 w51 ⟨S2, m2, k2, rfl, hO2, hx51⟩
  refine ⟨_, rfl, ?_⟩
  have hB2 : BV w51 (fun _ => True) S2 m2 k2 (imgB x) := hO2.bv fun _ _ => trivial
  replace hP1 := hP1.ext hx51
  replace hb3 := hb3.ext hx51
  replace hb7 := hb7.ext hx51
  replace hE := hE.trans hx51
  refine Wl.val rfl rfl rfl (Gives.assign rfl rfl) ?_
  refine Wl.nil ?_
  refine Wx.thenN (hK6 _ _ ?_)
  refine Wc.seq (fun K7 hK7 => ?_)
  refine Wc.keep [(3, _), (7, _), (8, _)] (.cons rfl (.cons rfl (.cons rfl (.nil)))) ?_
  refine Wc.region ?_
  refine Wl.val rfl rfl rfl (Gives.move rfl rfl) ?_
  refine Wl.call rfl rfl rfl rfl Tryd.func26 rfl (by kernel_rfl) rfl (decV _ hxe S2 m2 k2 hB2) ?_
  rintro x6 w61 ⟨S3, m3, k3, rfl, hO3, hx61⟩
  refine ⟨_, rfl, ?_⟩
  replace hB2 := hB2.ext hx61
  replace hP1 := hP1.ext hx61
  have hB3 : BV w61 (fun _ => True) S3 m3 k3 x.pay := hO3.bv fun _ _ => trivial
  replace hb3 := hb3.ext hx61
  replace hb7 := hb7.ext hx61
  replace hE := hE.trans hx61
  refine Wl.val rfl rfl rfl (Gives.move rfl rfl) ?_
  refine Wl.val rfl rfl rfl (Gives.extract rfl rfl rfl) ?_
  refine Wl.val rfl rfl rfl (Gives.extract rfl rfl rfl) ?_
  refine Wl.does rfl rfl rfl (Does.alB (.agg #[(.int .i64 0), (.string ByteArray.empty), (.int .i64 0), (.slice none 0 0)]) rfl (by kernel_rfl) rfl) ?_
  rintro _ w6_5 ⟨b9, rfl, hs9, hb9, hx6_5⟩
  have hn3_9 : b3 ≠ b9 := hb3.ne hs9
  have hn7_9 : b7 ≠ b9 := hb7.ne hs9
  have hg9 : w.heap.size ≤ b9 := Nat.le_trans hE.size hs9
  replace hb3 := hb3.ext hx6_5
  replace hb7 := hb7.ext hx6_5
  replace hE := hE.trans hx6_5
  refine Wl.acts rfl rfl (Does.stL 4 rfl rfl rfl hb9 (by kernel_rfl) rfl rfl rfl) ?_
  rintro _ w6_6 ⟨hbn, hF6_6⟩
  replace hb3 := hb3.fr hF6_6 (by first | assumption | exact Ne.symm (by assumption))
  replace hb7 := hb7.fr hF6_6 (by first | assumption | exact Ne.symm (by assumption))
  replace hE := Ext.over hE hF6_6 hg9
  replace hb9 := hbn
  clear hbn
  replace hB2 := (((hB2.bd.mono (P' := fun q => q ≠ b9) fun q hq => by omega).ext hx6_5).fr hF6_6)
  replace hB3 := (((hB3.bd.mono (P' := fun q => q ≠ b9) fun q hq => by omega).ext hx6_5).fr hF6_6)
  replace hP1 := (((hP1.bd.mono (P' := fun q => q ≠ b9) fun q hq => by omega).ext hx6_5).fr hF6_6)
  refine Wl.val rfl rfl rfl (Gives.assign rfl rfl) ?_
  refine Wl.nil ?_
  refine Wx.thenN (hK7 _ _ ?_)
  refine Wc.seq (fun K8 hK8 => ?_)
  refine Wc.keep [(3, _), (7, _), (8, _), (9, _), (10, _)] (.cons rfl (.cons rfl (.cons rfl (.cons rfl (.cons rfl (.nil)))))) ?_
  refine Wc.regionB (fun q => [0, 1, 2, 3, 4, 7, 8, 9, 16, 17].contains q) [] (.read 0 (.read 2 (.call false 1 (.call true 3 (.call true 4 (.read 5 (.read 6 (.read 7 (.call true 8 (.call true 9 (.read 10 (.read 11 (.read 12 (.read 13 (.read 14 (.read 15 (.read 16 (.read 17 .tail)))))))) .none) .none)))) .none) .none) .none))) 18 (by kernel_rfl) (by kernel_rfl) (by kernel_rfl) ?_
  intro w7 hR7
  replace hb3 := hb3.ext hR7.ext
  replace hb7 := hb7.ext hR7.ext
  replace hb9 := hb9.ext hR7.ext
  replace hE := hE.trans hR7.ext
  have hO7_3 : Old w7.heap.size [] b3 := ⟨hb3.lt, trivial⟩
  have hO7_7 : Old w7.heap.size [] b7 := ⟨hb7.lt, trivial⟩
  have hO7_9 : Old w7.heap.size [] b9 := ⟨hb9.lt, trivial⟩
  have hX := Ext.refl w7
  replace hB2 := hB2.ext hR7.ext
  replace hB3 := hB3.ext hR7.ext
  replace hP1 := hP1.ext hR7.ext
  refine RunE.readM rfl rfl rfl rfl rfl (fun wS hS => (Gives.ldW rfl (by kernel_rfl) rfl ((hb3.ext hX).fr hS hO7_3) (by kernel_rfl))) ?_
  refine RunE.readM rfl rfl rfl rfl rfl (fun wS hS => (Gives.ldW rfl (by kernel_rfl) rfl ((hb3.ext hX).fr hS hO7_3) (by kernel_rfl))) ?_
  refine RunE.turnC rfl rfl rfl rfl rfl Tryd.func25 rfl (by kernel_rfl) rfl (encP _ r v nm' A (min n 300) c (pay.take 300) (hq.ext (hE.trans hX)) (by omega)) ?_ RunE.none
  rintro x7 w71 ⟨S4, m4, k4, rfl, hO4, hx71⟩
  refine ⟨_, rfl, ?_⟩
  have hB4 : BV w71 (fun _ => True) S4 m4 k4 (imgB ⟨r, nm', v, pay.take 300⟩) := hO4.bv fun _ _ => trivial
  refine ⟨hx71.fr, ?_⟩
  replace hX := hX.trans hx71
  refine RunE.freeC rfl rfl rfl rfl rfl Tryd.func28 rfl (by kernel_rfl) rfl (encR _ r v nm' A (min n 300) c (pay.take 300) (hq.ext (hE.trans hX)) (by omega)) ?_ RunE.none
  rintro x8 w73 ⟨S5, m5, k5, rfl, hO5, hx73⟩
  refine ⟨_, rfl, ?_⟩
  have hB5 : BV w73 (fun _ => True) S5 m5 k5 (imgB ⟨r, nm', v, pay.take 300⟩) := hO5.bv fun _ _ => trivial
  replace hB4 := hB4.ext hx73
  replace hX := hX.trans hx73
  refine RunE.freeC rfl rfl rfl rfl rfl Tryd.func27 rfl (by kernel_rfl) rfl (same_calls _ _ _ _ _ _ _ _ _ hB4 hB5) ?_ RunE.none
  rintro x9 w74 ⟨rfl, hq74⟩
  refine ⟨_, rfl, ?_⟩
  have hx74 := hq74.ext
  replace hB4 := hB4.ext hx74
  replace hB5 := hB5.ext hx74
  replace hX := hX.trans hx74
  refine RunE.read rfl rfl rfl rfl (fun wS _ => (Gives.move rfl rfl)) ?_
  refine RunE.fix (t := 33) true rfl (by simp) ?_
  refine RunE.read rfl rfl rfl rfl (fun wS _ => (Gives.move rfl rfl)) ?_
  refine RunE.readM rfl rfl rfl rfl rfl (fun wS hS => (Gives.ldW rfl (by kernel_rfl) rfl ((hb7.ext hX).fr hS hO7_7) (by kernel_rfl))) ?_
  refine RunE.freeC rfl rfl rfl rfl rfl Tryd.func28 rfl (by kernel_rfl) rfl (encR _ x.role x.ver x.name S1 m1 k1 x.pay (hP1.ext hX) (by omega)) ?_ RunE.none
  rintro x10 w78 ⟨S6, m6, k6, rfl, hO6, hx78⟩
  refine ⟨_, rfl, ?_⟩
  have hB6 : BV w78 (fun _ => True) S6 m6 k6 (imgB x) := hO6.bv fun _ _ => trivial
  replace hB4 := hB4.ext hx78
  replace hB5 := hB5.ext hx78
  replace hX := hX.trans hx78
  refine RunE.freeC rfl rfl rfl rfl rfl Tryd.func27 rfl (by kernel_rfl) rfl (same_calls _ _ _ _ _ _ _ _ _ (hB2.ext hX) hB6) ?_ RunE.none
  rintro x11 w79 ⟨rfl, hq79⟩
  refine ⟨_, rfl, ?_⟩
  have hx79 := hq79.ext
  replace hB4 := hB4.ext hx79
  replace hB5 := hB5.ext hx79
  replace hB6 := hB6.ext hx79
  replace hX := hX.trans hx79
  refine RunE.read rfl rfl rfl rfl (fun wS _ => (Gives.pickT rfl rfl rfl rfl)) ?_
  refine RunE.read rfl rfl rfl rfl (fun wS _ => (Gives.move rfl rfl)) ?_
  refine RunE.fix (t := 39) true rfl (by simp) ?_
  refine RunE.read rfl rfl rfl rfl (fun wS _ => (Gives.move rfl rfl)) ?_
  refine RunE.read rfl rfl rfl rfl (fun wS _ => (Gives.eql rfl rfl rfl)) ?_
  refine RunE.read rfl rfl rfl rfl (fun wS _ => (Gives.pickT rfl rfl rfl rfl)) ?_
  refine RunE.read rfl rfl rfl rfl (fun wS _ => (Gives.move rfl rfl)) ?_
  refine RunE.fix (t := 43) true rfl rfl ?_
  refine RunE.readM rfl rfl rfl rfl rfl (fun wS hS => (Gives.ldW rfl (by kernel_rfl) rfl ((hb7.ext hX).fr hS hO7_7) (by kernel_rfl))) ?_
  refine RunE.readM rfl rfl rfl rfl rfl (fun wS hS => (Gives.ldW rfl (by kernel_rfl) rfl ((hb9.ext hX).fr hS hO7_9) (by kernel_rfl))) ?_
  refine RunE.tail rfl ?_
  replace hb3 := hb3.ext hX
  replace hb7 := hb7.ext hX
  replace hb9 := hb9.ext hX
  replace hE := hE.trans hX
  refine Wl.call rfl rfl rfl rfl Tryd.func29 rfl (by kernel_rfl) rfl (sameI _ x.role x.ver x.name S1 m1 k1 x.pay (hP1.ext hX) x.role x.ver x.name S3 m3 k3 x.pay (hB3.ext hX)) ?_
  rintro x12 w7a ⟨rfl, hx7a⟩
  refine ⟨_, rfl, ?_⟩
  replace hb3 := hb3.ext hx7a
  replace hb7 := hb7.ext hx7a
  replace hb9 := hb9.ext hx7a
  replace hE := hE.trans hx7a
  refine Wl.val rfl rfl rfl (Gives.pickT rfl rfl rfl rfl) ?_
  refine Wl.val rfl rfl rfl (Gives.assign rfl rfl) ?_
  refine Wl.nil ?_
  refine Wx.thenN (hK8 _ _ ?_)
  refine Wc.ret ?_
  refine Wx.ret [_] ⟨rfl, trivial⟩ ?_
  exact ⟨ret_bool (by simp), hE⟩
set_option maxRecDepth 20000 in
set_option maxHeartbeats 2000000 in
theorem imageDistinct_walk {P P' : Nat → Prop} (w : World) (hTM : Tab w ∧ TabM w) (C : Option Addr) (cn cc : Nat) (codes : List UInt8) (hc : BV w P C cn cc codes) (D : Option Addr) (dn dc : Nat) (codes2 : List UInt8) (hd : BV w P' D dn dc codes2) (role other : Int) :
    Calls Tryd.prog 7 #[.slice C cn cc, .slice D dn dc, .int .i64 role, .int .i64 other] w fun e w' => e = .returned (.bool true) ∧ Ext w w' := by
  obtain ⟨hT, hM⟩ := hTM
  have hm4 := Int.emod_nonneg role (show (4 : Int) ≠ 0 by decide)
  have hm4' := Int.emod_lt_of_pos role (show (0 : Int) < 4 by decide)
  have ho4 := Int.emod_nonneg other (show (4 : Int) ≠ 0 by decide)
  have ho4' := Int.emod_lt_of_pos other (show (0 : Int) < 4 by decide)
  refine calls_enter Tryd.func7 rfl Tryd.ntmps7 rfl ?_
  have hE : Ext w w := Ext.refl w
  refine Wc.seq (fun K1 hK1 => ?_)
  refine Wc.keep [(0, _), (1, _), (2, _), (3, _)] (.cons rfl (.cons rfl (.cons rfl (.cons rfl (.nil))))) ?_
  refine Wc.region ?_
  refine Wl.val rfl rfl rfl (Gives.assign rfl rfl) ?_
  refine Wl.nil ?_
  refine Wx.thenN (hK1 _ _ ?_)
  refine Wc.seq (fun K2 hK2 => ?_)
  refine Wc.seq (fun K3 hK3 => ?_)
  refine Wc.keep [(0, _), (1, _), (2, _), (3, _)] (.cons rfl (.cons rfl (.cons rfl (.cons rfl (.nil))))) ?_
  refine Wc.region ?_
  refine Wl.call rfl rfl rfl rfl Tryd.func13 rfl (by kernel_rfl) rfl (awakeI _ (hT.ext hE) (hM.ext hE)) ?_
  rintro x0 w0 ⟨rfl, hx0⟩
  refine ⟨_, rfl, ?_⟩
  replace hE := hE.trans hx0
  refine Wl.val rfl rfl rfl (Gives.not rfl rfl) ?_
  refine Wl.nil ?_
  refine Wx.thenN (hK3 _ _ ?_)
  refine Wc.condF rfl rfl ?_
  refine Wc.skip ?_
  refine Wx.thenN (hK2 _ _ ?_)
  refine Wc.seq (fun K4 hK4 => ?_)
  refine Wc.keep [(0, _), (1, _), (2, _), (3, _)] (.cons rfl (.cons rfl (.cons rfl (.cons rfl (.nil))))) ?_
  refine Wc.region ?_
  refine Wl.val rfl rfl rfl (Gives.move rfl rfl) ?_
  refine Wl.call rfl rfl rfl rfl Tryd.func18 rfl (by kernel_rfl) rfl (newD _ C cn cc codes (hc.ext hE) 40) ?_
  rintro x2 w41 ⟨gC, rfl, hgC, hC, hx41⟩
  refine ⟨_, rfl, ?_⟩
  have hgw : w.heap.size ≤ gC := Nat.le_trans hE.size hgC
  replace hE := hE.trans hx41
  refine Wl.val rfl rfl rfl (Gives.move rfl rfl) ?_
  refine Wl.call rfl rfl rfl rfl Tryd.func20 rfl (by kernel_rfl) rfl (mod_calls _ role 4 (by omega) (by omega)) ?_
  rintro x3 w43 ⟨rfl, rfl⟩
  refine ⟨_, rfl, ?_⟩
  refine Wl.val rfl rfl rfl (Gives.add rfl rfl rfl (by first | exact IntWalk.i64_in _ (by omega) | exact u64_in _ (by omega) | exact u32_in _ (by omega) | exact u8_in _ (by omega) | exact rfl)) ?_
  refine Wl.call rfl rfl rfl rfl Tryd.func22 rfl (by kernel_rfl) rfl (imageD _ gC _ hC (Nat.le_refl _) (1 + role % 4) (by omega)) ?_
  rintro x4 w45 ⟨x, S1, m1, k1, rfl, hO1, hxe, hrole, hC2, hF45⟩
  refine ⟨_, rfl, ?_⟩
  have hm1 := hO1.len
  have hx64 := (img_ok hxe).2.2.1
  replace hE := Ext.over hE hF45 hgw
  refine Wl.does rfl rfl rfl (Does.alB (.agg #[(.int .i64 0), (.string ByteArray.empty), (.int .i64 0), (.slice none 0 0)]) rfl (by kernel_rfl) rfl) ?_
  rintro _ w3_6 ⟨b9, rfl, hs9, hb9, hx3_6⟩
  have hg9 : w.heap.size ≤ b9 := Nat.le_trans hE.size hs9
  replace hE := hE.trans hx3_6
  refine Wl.acts rfl rfl (Does.stL 4 rfl rfl rfl hb9 (by kernel_rfl) rfl rfl rfl) ?_
  rintro _ w3_7 ⟨hbn, hF3_7⟩
  replace hE := Ext.over hE hF3_7 hg9
  replace hb9 := hbn
  clear hbn
  have hP1 : BV w3_7 (fun _ => True) S1 m1 k1 x.pay := (((((hO1.bv (P := fun _ => True) fun _ _ => trivial).bd).mono (P' := fun q => q ≠ b9) fun q hq => by omega).ext hx3_6).fr hF3_7).mono fun _ _ => trivial
  refine Wl.nil ?_
  refine Wx.thenN (hK4 _ _ ?_)
  refine Wc.seq (fun K5 hK5 => ?_)
  refine Wc.keep [(1, _), (3, _), (9, _)] (.cons rfl (.cons rfl (.cons rfl (.nil)))) ?_
  refine Wc.region ?_
  refine Wl.val rfl rfl rfl (Gives.move rfl rfl) ?_
  refine Wl.call rfl rfl rfl rfl Tryd.func18 rfl (by kernel_rfl) rfl (newD _ D dn dc codes2 (hd.ext hE) 40) ?_
  rintro x5 w51 ⟨gD, rfl, hgD, hD, hx51⟩
  refine ⟨_, rfl, ?_⟩
  have hgw2 : w.heap.size ≤ gD := Nat.le_trans hE.size hgD
  have hn9g : b9 ≠ gD := by { have := hb9.lt; omega }
  have hP1b := hP1.bd.ext hx51
  replace hb9 := hb9.ext hx51
  replace hE := hE.trans hx51
  refine Wl.val rfl rfl rfl (Gives.move rfl rfl) ?_
  refine Wl.call rfl rfl rfl rfl Tryd.func20 rfl (by kernel_rfl) rfl (mod_calls _ other 4 (by omega) (by omega)) ?_
  rintro x6 w53 ⟨rfl, rfl⟩
  refine ⟨_, rfl, ?_⟩
  refine Wl.val rfl rfl rfl (Gives.add rfl rfl rfl (by first | exact IntWalk.i64_in _ (by omega) | exact u64_in _ (by omega) | exact u32_in _ (by omega) | exact u8_in _ (by omega) | exact rfl)) ?_
  refine Wl.call rfl rfl rfl rfl Tryd.func22 rfl (by kernel_rfl) rfl (imageD _ gD _ hD (Nat.le_refl _) (1 + other % 4) (by omega)) ?_
  rintro x7 w55 ⟨y, S2, m2, k2, rfl, hO2, hye, hrole2, hD2, hF55⟩
  refine ⟨_, rfl, ?_⟩
  have hm2 := hO2.len
  have hy64 := (img_ok hye).2.2.1
  have hP1c := hP1b.fr (hF55.mono fun q hq => by omega)
  replace hb9 := hb9.fr hF55 (by first | assumption | exact Ne.symm (by assumption))
  replace hE := Ext.over hE hF55 hgw2
  refine Wl.does rfl rfl rfl (Does.alB (.agg #[(.int .i64 0), (.string ByteArray.empty), (.int .i64 0), (.slice none 0 0)]) rfl (by kernel_rfl) rfl) ?_
  rintro _ w4_6 ⟨b10, rfl, hs10, hb10, hx4_6⟩
  have hn9_10 : b9 ≠ b10 := hb9.ne hs10
  have hg10 : w.heap.size ≤ b10 := Nat.le_trans hE.size hs10
  replace hb9 := hb9.ext hx4_6
  replace hE := hE.trans hx4_6
  refine Wl.acts rfl rfl (Does.stL 4 rfl rfl rfl hb10 (by kernel_rfl) rfl rfl rfl) ?_
  rintro _ w4_7 ⟨hbn, hF4_7⟩
  replace hb9 := hb9.fr hF4_7 (by first | assumption | exact Ne.symm (by assumption))
  replace hE := Ext.over hE hF4_7 hg10
  replace hb10 := hbn
  clear hbn
  have hP2 : BV w4_7 (fun _ => True) S2 m2 k2 y.pay := (((((hO2.bv (P := fun _ => True) fun _ _ => trivial).bd).mono (P' := fun q => q ≠ b10) fun q hq => by omega).ext hx4_6).fr hF4_7).mono fun _ _ => trivial
  have hP3 : BV w4_7 (fun _ => True) S1 m1 k1 x.pay := ((((hP1c.bd).mono (P' := fun q => q ≠ b10) fun q hq => by omega).ext hx4_6).fr hF4_7).mono fun _ _ => trivial
  refine Wl.nil ?_
  refine Wx.thenN (hK5 _ _ ?_)
  refine Wc.seq (fun K6 hK6 => ?_)
  refine Wc.keep [(9, _), (10, _)] (.cons rfl (.cons rfl (.nil))) ?_
  refine Wc.regionB (fun q => [0, 1, 2, 3, 4, 5, 6].contains q) [] (.read 0 (.read 2 (.read 5 (.read 6 (.call false 1 (.call false 3 (.call false 4 .tail .none) .none) .none))))) 7 (by kernel_rfl) (by kernel_rfl) (by kernel_rfl) ?_
  intro w5 hR5
  replace hb9 := hb9.ext hR5.ext
  replace hb10 := hb10.ext hR5.ext
  replace hE := hE.trans hR5.ext
  have hO5_9 : Old w5.heap.size [] b9 := ⟨hb9.lt, trivial⟩
  have hO5_10 : Old w5.heap.size [] b10 := ⟨hb10.lt, trivial⟩
  have hX := Ext.refl w5
  replace hP2 := hP2.ext hR5.ext
  replace hP3 := hP3.ext hR5.ext
  refine RunE.readM rfl rfl rfl rfl rfl (fun wS hS => (Gives.ldW rfl (by kernel_rfl) rfl ((hb9.ext hX).fr hS hO5_9) (by kernel_rfl))) ?_
  refine RunE.readM rfl rfl rfl rfl rfl (fun wS hS => (Gives.ldW rfl (by kernel_rfl) rfl ((hb10.ext hX).fr hS hO5_10) (by kernel_rfl))) ?_
  refine RunE.readM rfl rfl rfl rfl rfl (fun wS hS => (Gives.ldW rfl (by kernel_rfl) rfl ((hb9.ext hX).fr hS hO5_9) (by kernel_rfl))) ?_
  refine RunE.readM rfl rfl rfl rfl rfl (fun wS hS => (Gives.ldW rfl (by kernel_rfl) rfl ((hb10.ext hX).fr hS hO5_10) (by kernel_rfl))) ?_
  refine RunE.turnC rfl rfl rfl rfl rfl Tryd.func25 rfl (by kernel_rfl) rfl (encP _ x.role x.ver x.name S1 m1 k1 x.pay (hP3.ext hX) (by omega)) ?_ RunE.none
  rintro x8 w81 ⟨S4, m4, k4, rfl, hO4, hx81⟩
  refine ⟨_, rfl, ?_⟩
  have hB4 : BV w81 (fun _ => True) S4 m4 k4 (imgB x) := hO4.bv fun _ _ => trivial
  refine ⟨hx81.fr, ?_⟩
  replace hX := hX.trans hx81
  refine RunE.turnC rfl rfl rfl rfl rfl Tryd.func25 rfl (by kernel_rfl) rfl (encP _ y.role y.ver y.name S2 m2 k2 y.pay (hP2.ext hX) (by omega)) ?_ RunE.none
  rintro x9 w83 ⟨S5, m5, k5, rfl, hO5, hx83⟩
  refine ⟨_, rfl, ?_⟩
  have hB5 : BV w83 (fun _ => True) S5 m5 k5 (imgB y) := hO5.bv fun _ _ => trivial
  refine ⟨hx83.fr, ?_⟩
  replace hB4 := hB4.ext hx83
  replace hX := hX.trans hx83
  refine RunE.turnC rfl rfl rfl rfl rfl Tryd.func27 rfl (by kernel_rfl) rfl (same_calls _ _ _ _ _ _ _ _ _ hB4 hB5) ?_ RunE.none
  rintro x10 w84 ⟨rfl, hq84⟩
  refine ⟨_, rfl, ?_⟩
  have hx84 := hq84.ext
  refine ⟨hx84.fr, ?_⟩
  replace hB4 := hB4.ext hx84
  replace hB5 := hB5.ext hx84
  replace hX := hX.trans hx84
  refine RunE.tail rfl ?_
  replace hb9 := hb9.ext hX
  replace hb10 := hb10.ext hX
  replace hE := hE.trans hX
  refine Wl.call rfl rfl rfl rfl Tryd.func29 rfl (by kernel_rfl) rfl (sameI _ x.role x.ver x.name S1 m1 k1 x.pay (hP3.ext hX) y.role y.ver y.name S2 m2 k2 y.pay (hP2.ext hX)) ?_
  rintro x12 w8a ⟨rfl, hx8a⟩
  refine ⟨_, rfl, ?_⟩
  replace hb9 := hb9.ext hx8a
  replace hb10 := hb10.ext hx8a
  replace hE := hE.trans hx8a
  refine Wl.val rfl rfl rfl (Gives.boolEql rfl rfl rfl Tryd.underlying4) ?_
  refine Wl.val rfl rfl rfl (Gives.assign rfl rfl) ?_
  refine Wl.nil ?_
  refine Wx.thenN (hK6 _ _ ?_)
  refine Wc.ret ?_
  refine Wx.ret [_] ⟨rfl, trivial⟩ ?_
  refine ⟨ret_bool ?_, hE⟩
  rw [beq_iff_eq, decide_eq_decide]
  constructor
  · intro h
    rw [imgB_inj hxe hye h]; exact ⟨rfl, rfl, rfl, rfl⟩
  · rintro ⟨h1, h2, h3, h4⟩
    have : x = y := by obtain ⟨a, b, c, d⟩ := x; obtain ⟨a2, b2, c2, d2⟩ := y; simp only at h1 h2 h3 h4; rw [h1, h2, h3, h4]
    rw [this]
end Go.Proofs.YteppchoeiflnhaaDoor
