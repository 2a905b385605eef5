/- Chains of images: EncodeChain, SameChain. -/
import Derived.Test.YteppchoeiflnhaaDoorImgT
namespace Go.Proofs.YteppchoeiflnhaaDoor
set_option linter.all false
set_option maxRecDepth 20000
open Go.RowKit
def chF (b : List UInt8) (x : Im) : List UInt8 := blobS b (imgB x)
def chB (l : List Im) : List UInt8 := if chainE l = 0 then l.foldl chF (uintS [] 1 (l.length : Int)) else []
theorem chB_y {l : List Im} (h : chainE l = 0) : chB l = l.foldl chF (uintS [] 1 (l.length : Int)) := by unfold chB; rw [if_pos h]
theorem chB_no {l : List Im} (h : ¬ chainE l = 0) : chB l = [] := by unfold chB; rw [if_neg h]
/-- the blobs of the images -/
def chT (l : List Im) : List UInt8 := l.flatMap fun x => blobT (imgB x)
theorem chF_T : ∀ (l : List Im) (b : List UInt8), (∀ x ∈ l, imgE x = 0) → l.foldl chF b = b ++ chT l
  | [], b, _ => by simp [chT]
  | x :: r, b, h => by
    rw [List.foldl_cons, chF_T r _ (fun y hy => h y (List.mem_cons_of_mem _ hy))]
    unfold chF
    rw [blobS_eq _ _ (by have := imgB_le x; omega), List.append_assoc]
    rfl
theorem chB_eq {l : List Im} (h : chainE l = 0) : chB l = beS (l.length : Int) 1 ++ chT l := by
  obtain ⟨_, _, _, hx⟩ := chain_ok h
  rw [chB_y h, chF_T l _ hx, uintS_ok _ _ 1 (by omega) (by omega), List.nil_append]
  rfl
theorem chB_pos {l : List Im} (h : chainE l = 0) : 0 < (chB l).length := by rw [chB_eq h, List.length_append, beS_len]; omega
theorem range_goI {w0 wc wS : World} {b o : Nat} {cs : List Value} (h : w0.rangeAt b o cs) (hb : b < w0.heap.size) (hX : Ext w0 wc) (hS : Fr (Old w0.heap.size []) wc wS) : wS.rangeAt b o cs := fun j v hj =>
  (World.cell?_of_block (w := wc) (a := ⟨b, o + j, none⟩) (hS.block b (Nat.lt_of_lt_of_le hb hX.size) ⟨hb, trivial⟩)).trans ((hX.cells.1 b (o + j) hb).trans (h j v hj))
set_option maxRecDepth 20000 in
set_option maxHeartbeats 2000000 in
theorem encChainP {P : Nat → Prop} (w : World) (A : Option Addr) (n c : Nat) (l : List Im) (hl : SL Rp.img w P A n c l) :
    Calls Tryd.prog 39 #[.slice A n c] w fun e w' => ∃ S m k, e = .returned (.slice S m k) ∧ OB w' w.heap.size 5 S m k (chB l) ∧ Ext w w' := by
  have hln := hl.len
  have hle := hl.le
  refine calls_enter Tryd.func39 rfl Tryd.ntmps39 rfl ?_
  have hE : Ext w w := Ext.refl w
  refine Wc.seq (fun K1 hK1 => ?_)
  refine Wc.keep [(0, _)] (.cons rfl (.nil)) ?_
  refine Wc.region ?_
  refine Wl.val rfl rfl rfl (Gives.assign rfl rfl) ?_
  refine Wl.nil ?_
  refine Wx.thenN (hK1 _ _ ?_)
  refine Wc.seq (fun K2 hK2 => ?_)
  refine Wc.seq (fun K3 hK3 => ?_)
  refine Wc.keep [(0, _)] (.cons rfl (.nil)) ?_
  refine Wc.region ?_
  refine Wl.val rfl rfl rfl (Gives.move rfl rfl) ?_
  refine Wl.call rfl rfl rfl rfl Tryd.func37 rfl (by kernel_rfl) rfl (chainP _ A n c l hl) ?_
  rintro x0 w11 ⟨rfl, hx11⟩
  refine ⟨_, rfl, ?_⟩
  replace hE := hE.trans hx11
  refine Wl.val rfl rfl rfl (Gives.neq rfl rfl rfl) ?_
  refine Wl.nil ?_
  refine Wx.thenN (hK3 _ _ ?_)
  refine Wc.cond _ rfl (fun h8 => ?_) (fun h8 => ?_)
  · (first | replace h8 := of_decide_eq_true h8 | replace h8 := nd_true h8 | skip)
    refine Wc.seq (fun K4 hK4 => ?_)
    refine Wc.keep [] (.nil) ?_
    refine Wc.region ?_
    refine Wl.val rfl rfl rfl (Gives.assign rfl rfl) ?_
    refine Wl.nil ?_
    refine Wx.thenN (hK4 _ _ ?_)
    refine Wc.ret ?_
    refine Wx.thenR ?_
    refine Wx.ret [_] ⟨rfl, trivial⟩ ?_
    first | exact ⟨none, 0, 0, rfl, by rw [chB_no h8]; exact OB.nil_ _ _ _, hE⟩ | exact ⟨S, m, k, rfl, by rw [chB_y hce, hln]; rw [List.take_of_length_le (by omega)] at hO; exact hO, hE⟩
  · (first | replace h8 := of_decide_eq_false h8 | replace h8 := nd_false h8 | skip)
    refine Wc.skip ?_
    refine Wx.thenN (hK2 _ _ ?_)
    refine Wc.seq (fun K5 hK5 => ?_)
    refine Wc.keep [(0, _)] (.cons rfl (.nil)) ?_
    have hce : chainE l = 0 := h8
    obtain ⟨⟨hl1, hl8⟩, _, _, hok⟩ := chain_ok hce
    refine Wc.region ?_
    refine Wl.val rfl rfl rfl (Gives.move rfl rfl) ?_
    refine Wl.val rfl rfl rfl (Gives.lenS rfl Tryd.underlying52 rfl) ?_
    refine Wl.call rfl rfl rfl rfl Tryd.func51 rfl (by kernel_rfl) rfl (uint_calls _ none 0 0 [] (BV.nil_ _ (fun _ => True)) (by omega) 1 (n : Int)) ?_
    rintro x1 w32 ⟨S1, m1, k1, rfl, hO1, hx32⟩
    refine ⟨_, rfl, ?_⟩
    have hzE := hE.size
    replace hO1 := hO1.mono hzE
    have hm1 := hO1.len
    have hm1' := uintS_len [] 1 (n : Int)
    replace hE := hE.trans hx32
    refine Wl.val rfl rfl rfl (Gives.assign rfl rfl) ?_
    refine Wl.nil ?_
    refine Wx.thenN (hK5 _ _ ?_)
    refine Wc.seq (fun K6 hK6 => ?_)
    refine Wc.seq (fun K7 hK7 => ?_)
    refine Wc.keep [(0, _), (3, _)] (.cons rfl (.cons rfl (.nil))) ?_
    refine Wc.region ?_
    refine Wl.val rfl rfl rfl (Gives.move rfl rfl) ?_
    refine Wl.val rfl rfl rfl (Gives.lenS rfl Tryd.underlying52 rfl) ?_
    refine Wl.val rfl rfl rfl (Gives.move rfl rfl) ?_
    refine Wl.nil ?_
    refine Wx.thenN (hK7 _ _ ?_)
    refine Wc.block ?_
    refine Wc.keep [(3, _), (12, _), (13, _), (14, _)] (.cons rfl (.cons rfl (.cons rfl (.cons rfl (.nil))))) ?_
    refine Wc.loopC (ι := Nat × Option Addr × Nat × Nat) [(12, _), (13, _)] (fun | (i, S, m, k) => [(14, .int .i64 (i : Int)), (3, .slice S m k)]) (fun | (i, S, m, k), wr => i ≤ n ∧ m ≤ 8 + 65543 * i ∧ OB wr w.heap.size 5 S m k ((l.take i).foldl chF (uintS [] 1 (n : Int))) ∧ Ext w wr) (fun | (i, _) => n - i) ((0, S1, m1, k1)) (.cons (by first | exact rfl | exact look_int rfl (by omega) | exact look_slice rfl (by omega)) (.cons (by first | exact rfl | exact look_int rfl (by omega) | exact look_slice rfl (by omega)) (.cons rfl (.cons rfl (.nil))))) (⟨by omega, by simp only [List.length_nil] at hm1'; omega, by rw [List.take_zero]; exact hO1, hE⟩) ?_
    intro ⟨i, S, m, k⟩ wr hJ KL1 hKL1
    clear hE hO1
    obtain ⟨hi, hm, hO, hE⟩ := hJ
    refine Wc.seq (fun K8 hK8 => ?_)
    refine Wc.keep [(3, _), (12, _), (13, _), (14, _)] (.cons rfl (.cons rfl (.cons rfl (.cons rfl (.nil))))) ?_
    refine Wc.region ?_
    refine Wl.val rfl rfl rfl (Gives.lss rfl rfl rfl) ?_
    refine Wl.nil ?_
    refine Wx.thenN (hK8 _ _ ?_)
    refine Wc.seq (fun K9 hK9 => ?_)
    refine Wc.cond _ rfl (fun h15 => ?_) (fun h15 => ?_)
    · (first | replace h15 := of_decide_eq_true h15 | replace h15 := nd_true h15 | skip)
      refine Wc.skip ?_
      refine Wx.thenN (hK9 _ _ ?_)
      refine Wc.seq (fun K10 hK10 => ?_)
      refine Wc.block ?_
      refine Wc.seq (fun K11 hK11 => ?_)
      refine Wc.keep [(3, _), (12, _), (13, _), (14, _)] (.cons rfl (.cons rfl (.cons rfl (.cons rfl (.nil))))) ?_
      obtain ⟨xb, xo, rfl, hbw, x, S2, m2, k2, hz, hr0, hp⟩ := IL.at_ hl (show i < n by omega)
      have hr := range_ext hr0 hbw hE
      have hxe := hok x (List.mem_of_getElem? hz)
      have hx64 := (img_ok hxe).2.2.1
      have hpl := hp.len
      refine Wc.region ?_
      refine Wl.val rfl rfl rfl (Gives.ixSZ (i := _) (sz := 4) rfl Tryd.underlying52 (by kernel_rfl) rfl rfl rfl (by omega)) ?_
      refine Wl.val rfl rfl rfl (Gives.ldM rfl (by kernel_rfl) rfl hr (by kernel_rfl)) ?_
      refine Wl.does rfl rfl rfl (Does.alB (.agg #[(.int .i64 0), (.string ByteArray.empty), (.int .i64 0), (.slice none 0 0)]) rfl (by kernel_rfl) rfl) ?_
      rintro _ w6_2 ⟨b5, rfl, hs5, hb5, hx6_2⟩
      have hg5 : w.heap.size ≤ b5 := Nat.le_trans hE.size hs5
      replace hE := hE.trans hx6_2
      refine Wl.acts rfl rfl (Does.stL 4 rfl rfl rfl hb5 (by kernel_rfl) rfl rfl rfl) ?_
      rintro _ w6_3 ⟨hbn, hF6_3⟩
      replace hE := Ext.over hE hF6_3 hg5
      replace hb5 := hbn
      clear hbn
      replace hO := hO.ext (Ext.over hx6_2 hF6_3 hs5)
      refine Wl.nil ?_
      refine Wx.thenN (hK11 _ _ ?_)
      refine Wc.keep [(3, _), (5, _), (12, _), (13, _), (14, _)] (.cons rfl (.cons rfl (.cons rfl (.cons rfl (.cons rfl (.nil)))))) ?_
      refine Wc.region ?_
      refine Wl.val rfl rfl rfl (Gives.move rfl rfl) ?_
      refine Wl.val rfl rfl rfl (Gives.ldW rfl (by kernel_rfl) rfl hb5 (by kernel_rfl)) ?_
      refine Wl.call rfl rfl rfl rfl Tryd.func25 rfl (by kernel_rfl) rfl (encP _ x.role x.ver x.name S2 m2 k2 x.pay (hp.ext hE) (by omega)) ?_
      rintro x2 w72 ⟨S3, m3, k3, rfl, hO3, hx72⟩
      refine ⟨_, rfl, ?_⟩
      replace hO := hO.ext hx72
      have hB3 : BV w72 (fun _ => True) S3 m3 k3 (imgB x) := hO3.bv fun _ _ => trivial
      have hm3 := hB3.len
      have hm3' := imgB_le x
      have hml := hO.len
      replace hb5 := hb5.ext hx72
      replace hE := hE.trans hx72
      refine Wl.call rfl rfl rfl rfl Tryd.func52 rfl (by kernel_rfl) rfl (blob_calls _ S m k _ (hO.bv (P := fun _ => True) fun _ _ => trivial) (by omega) S3 m3 k3 (imgB x) hB3 (by omega)) ?_
      rintro x3 w73 ⟨S4, m4, k4, rfl, hO4, hx73⟩
      refine ⟨_, rfl, ?_⟩
      have hm4 := hO4.len
      have hm4' := blob_len ((l.take i).foldl chF (uintS [] 1 (n : Int))) (imgB x)
      have hzE2 := hE.size
      replace hO4 := hO4.mono hzE2
      replace hb5 := hb5.ext hx73
      replace hE := hE.trans hx73
      refine Wl.val rfl rfl rfl (Gives.assign rfl rfl) ?_
      refine Wl.nil ?_
      refine Wx.blockN ?_
      refine Wx.thenN (hK10 _ _ ?_)
      refine Wc.keep [(3, _), (12, _), (13, _), (14, _)] (.cons rfl (.cons rfl (.cons rfl (.cons rfl (.nil))))) ?_
      refine Wc.region ?_
      refine Wl.val rfl rfl rfl (Gives.add rfl rfl rfl (by first | exact IntWalk.i64_in _ (by omega) | exact u64_in _ (by omega) | exact u32_in _ (by omega) | exact u8_in _ (by omega) | exact rfl)) ?_
      refine Wl.val rfl rfl rfl (Gives.move rfl rfl) ?_
      refine Wl.nil ?_
      refine Wx.thenN ?_
      exact hKL1 (i + 1, S4, m4, k4) _ _ (.cons (by first | exact rfl | exact look_int rfl (by omega) | exact look_slice rfl (by omega)) (.cons (by first | exact rfl | exact look_int rfl (by omega) | exact look_slice rfl (by omega)) (.cons rfl (.cons rfl (.nil))))) ⟨by omega, by omega, by rw [fold_take' _ _ _ _ _ hz]; exact hO4, hE⟩ (by show n - (i + 1) < n - i; omega)
    · (first | replace h15 := of_decide_eq_false h15 | replace h15 := nd_false h15 | skip)
      refine Wc.exit ?_
      refine Wx.thenE ?_
      refine Wx.thenE ?_
      refine Wx.hit ?_
      refine Wx.thenN (hK6 _ _ ?_)
      refine Wc.seq (fun K12 hK12 => ?_)
      refine Wc.keep [(3, _)] (.cons rfl (.nil)) ?_
      refine Wc.region ?_
      refine Wl.val rfl rfl rfl (Gives.move rfl rfl) ?_
      refine Wl.val rfl rfl rfl (Gives.assign rfl rfl) ?_
      refine Wl.nil ?_
      refine Wx.thenN (hK12 _ _ ?_)
      refine Wc.ret ?_
      refine Wx.ret [_] ⟨rfl, trivial⟩ ?_
      first | exact ⟨none, 0, 0, rfl, by rw [chB_no h8]; exact OB.nil_ _ _ _, hE⟩ | exact ⟨S, m, k, rfl, by rw [chB_y hce, hln]; rw [List.take_of_length_le (by omega)] at hO; exact hO, hE⟩
set_option maxRecDepth 20000 in
set_option maxHeartbeats 2000000 in
theorem encChainR {P : Nat → Prop} (w : World) (A : Option Addr) (n c : Nat) (l : List Im) (hl : SL Rp.img w P A n c l) :
    Calls Tryd.prog 42 #[.slice A n c] w fun e w' => ∃ S m k, e = .returned (.slice S m k) ∧ OB w' w.heap.size 5 S m k (chB l) ∧ Ext w w' := by
  have hln := hl.len
  have hle := hl.le
  refine calls_enter Tryd.func42 rfl Tryd.ntmps42 rfl ?_
  have hE : Ext w w := Ext.refl w
  refine Wc.seq (fun K1 hK1 => ?_)
  refine Wc.keep [(0, _)] (.cons rfl (.nil)) ?_
  refine Wc.region ?_
  refine Wl.val rfl rfl rfl (Gives.assign rfl rfl) ?_
  refine Wl.nil ?_
  refine Wx.thenN (hK1 _ _ ?_)
  refine Wc.seq (fun K2 hK2 => ?_)
  refine Wc.seq (fun K3 hK3 => ?_)
  refine Wc.keep [(0, _)] (.cons rfl (.nil)) ?_
  refine Wc.region ?_
  refine Wl.val rfl rfl rfl (Gives.move rfl rfl) ?_
  refine Wl.call rfl rfl rfl rfl Tryd.func38 rfl (by kernel_rfl) rfl (chainR _ A n c l hl) ?_
  rintro x0 w11 ⟨rfl, hx11⟩
  refine ⟨_, rfl, ?_⟩
  replace hE := hE.trans hx11
  refine Wl.val rfl rfl rfl (Gives.neq rfl rfl rfl) ?_
  refine Wl.nil ?_
  refine Wx.thenN (hK3 _ _ ?_)
  refine Wc.cond _ rfl (fun h8 => ?_) (fun h8 => ?_)
  · (first | replace h8 := of_decide_eq_true h8 | replace h8 := nd_true h8 | skip)
    refine Wc.seq (fun K4 hK4 => ?_)
    refine Wc.keep [] (.nil) ?_
    refine Wc.region ?_
    refine Wl.val rfl rfl rfl (Gives.assign rfl rfl) ?_
    refine Wl.nil ?_
    refine Wx.thenN (hK4 _ _ ?_)
    refine Wc.ret ?_
    refine Wx.thenR ?_
    refine Wx.ret [_] ⟨rfl, trivial⟩ ?_
    first | exact ⟨none, 0, 0, rfl, by rw [chB_no h8]; exact OB.nil_ _ _ _, hE⟩ | exact ⟨S, m, k, rfl, by rw [chB_y hce, hln]; rw [List.take_of_length_le (by omega)] at hO; exact hO, hE⟩
  · (first | replace h8 := of_decide_eq_false h8 | replace h8 := nd_false h8 | skip)
    refine Wc.skip ?_
    refine Wx.thenN (hK2 _ _ ?_)
    refine Wc.seq (fun K5 hK5 => ?_)
    refine Wc.keep [(0, _)] (.cons rfl (.nil)) ?_
    have hce : chainE l = 0 := h8
    obtain ⟨⟨hl1, hl8⟩, _, _, hok⟩ := chain_ok hce
    refine Wc.region ?_
    refine Wl.val rfl rfl rfl (Gives.move rfl rfl) ?_
    refine Wl.val rfl rfl rfl (Gives.lenS rfl Tryd.underlying52 rfl) ?_
    refine Wl.call rfl rfl rfl rfl Tryd.func57 rfl (by kernel_rfl) rfl (uintR_calls _ none 0 0 [] (BV.nil_ _ (fun _ => True)) (by omega) 1 (n : Int)) ?_
    rintro x1 w32 ⟨S1, m1, k1, rfl, hO1, hx32⟩
    refine ⟨_, rfl, ?_⟩
    have hzE := hE.size
    replace hO1 := hO1.mono hzE
    have hm1 := hO1.len
    have hm1' := uintS_len [] 1 (n : Int)
    replace hE := hE.trans hx32
    refine Wl.val rfl rfl rfl (Gives.assign rfl rfl) ?_
    refine Wl.nil ?_
    refine Wx.thenN (hK5 _ _ ?_)
    refine Wc.seq (fun K6 hK6 => ?_)
    refine Wc.seq (fun K7 hK7 => ?_)
    refine Wc.keep [(0, _), (3, _)] (.cons rfl (.cons rfl (.nil))) ?_
    refine Wc.region ?_
    refine Wl.val rfl rfl rfl (Gives.assign rfl rfl) ?_
    refine Wl.nil ?_
    refine Wx.thenN (hK7 _ _ ?_)
    refine Wc.block ?_
    refine Wc.keep [(0, _), (3, _), (4, _)] (.cons rfl (.cons rfl (.cons rfl (.nil)))) ?_
    refine Wc.loopC (ι := Nat × Option Addr × Nat × Nat) [(0, _)] (fun | (i, S, m, k) => [(4, .int .i64 (i : Int)), (3, .slice S m k)]) (fun | (i, S, m, k), wr => i ≤ n ∧ m ≤ 8 + 65543 * i ∧ OB wr w.heap.size 5 S m k ((l.take i).foldl chF (uintS [] 1 (n : Int))) ∧ Ext w wr) (fun | (i, _) => n - i) ((0, S1, m1, k1)) (.cons (by first | exact rfl | exact look_int rfl (by omega) | exact look_slice rfl (by omega)) (.cons (by first | exact rfl | exact look_int rfl (by omega) | exact look_slice rfl (by omega)) (.cons rfl (.nil)))) (⟨by omega, by simp only [List.length_nil] at hm1'; omega, by rw [List.take_zero]; exact hO1, hE⟩) ?_
    intro ⟨i, S, m, k⟩ wr hJ KL1 hKL1
    clear hE hO1
    obtain ⟨hi, hm, hO, hE⟩ := hJ
    refine Wc.seq (fun K8 hK8 => ?_)
    refine Wc.seq (fun K9 hK9 => ?_)
    refine Wc.keep [(0, _), (3, _), (4, _)] (.cons rfl (.cons rfl (.cons rfl (.nil)))) ?_
    refine Wc.region ?_
    refine Wl.val rfl rfl rfl (Gives.move rfl rfl) ?_
    refine Wl.val rfl rfl rfl (Gives.move rfl rfl) ?_
    refine Wl.val rfl rfl rfl (Gives.lenS rfl Tryd.underlying52 rfl) ?_
    refine Wl.val rfl rfl rfl (Gives.lss rfl rfl rfl) ?_
    refine Wl.nil ?_
    refine Wx.thenN (hK9 _ _ ?_)
    refine Wc.cond _ rfl (fun h15 => ?_) (fun h15 => ?_)
    · (first | replace h15 := of_decide_eq_true h15 | replace h15 := nd_true h15 | skip)
      refine Wc.skip ?_
      refine Wx.thenN (hK8 _ _ ?_)
      refine Wc.seq (fun K10 hK10 => ?_)
      refine Wc.block ?_
      refine Wc.keep [(0, _), (3, _), (4, _)] (.cons rfl (.cons rfl (.cons rfl (.nil)))) ?_
      obtain ⟨xb, xo, rfl, hbw, x, S2, m2, k2, hz, hr0, hp⟩ := IL.at_ hl (show i < n by omega)
      have hr := range_ext hr0 hbw hE
      have hxe := hok x (List.mem_of_getElem? hz)
      have hx64 := (img_ok hxe).2.2.1
      have hpl := hp.len
      refine Wc.region ?_
      refine Wl.val rfl rfl rfl (Gives.move rfl rfl) ?_
      refine Wl.val rfl rfl rfl (Gives.move rfl rfl) ?_
      refine Wl.val rfl rfl rfl (Gives.move rfl rfl) ?_
      refine Wl.val rfl rfl rfl (Gives.ixSZ (i := _) (sz := 4) rfl Tryd.underlying52 (by kernel_rfl) rfl rfl rfl (by omega)) ?_
      refine Wl.val rfl rfl rfl (Gives.ldM rfl (by kernel_rfl) rfl hr (by kernel_rfl)) ?_
      refine Wl.call rfl rfl rfl rfl Tryd.func28 rfl (by kernel_rfl) rfl (encR _ x.role x.ver x.name S2 m2 k2 x.pay (hp.ext hE) (by omega)) ?_
      rintro x2 w72 ⟨S3, m3, k3, rfl, hO3, hx72⟩
      refine ⟨_, rfl, ?_⟩
      replace hO := hO.ext hx72
      have hB3 : BV w72 (fun _ => True) S3 m3 k3 (imgB x) := hO3.bv fun _ _ => trivial
      have hm3 := hB3.len
      have hm3' := imgB_le x
      have hml := hO.len
      replace hE := hE.trans hx72
      refine Wl.call rfl rfl rfl rfl Tryd.func58 rfl (by kernel_rfl) rfl (blobR_calls _ S m k _ (hO.bv (P := fun _ => True) fun _ _ => trivial) (by omega) S3 m3 k3 (imgB x) hB3 (by omega)) ?_
      rintro x3 w73 ⟨S4, m4, k4, rfl, hO4, hx73⟩
      refine ⟨_, rfl, ?_⟩
      have hm4 := hO4.len
      have hm4' := blob_len ((l.take i).foldl chF (uintS [] 1 (n : Int))) (imgB x)
      have hzE2 := hE.size
      replace hO4 := hO4.mono hzE2
      replace hE := hE.trans hx73
      refine Wl.val rfl rfl rfl (Gives.assign rfl rfl) ?_
      refine Wl.nil ?_
      refine Wx.blockN ?_
      refine Wx.thenN (hK10 _ _ ?_)
      refine Wc.keep [(0, _), (3, _), (4, _)] (.cons rfl (.cons rfl (.cons rfl (.nil)))) ?_
      refine Wc.region ?_
      refine Wl.val rfl rfl rfl (Gives.move rfl rfl) ?_
      refine Wl.val rfl rfl rfl (Gives.add rfl rfl rfl (by first | exact IntWalk.i64_in _ (by omega) | exact u64_in _ (by omega) | exact u32_in _ (by omega) | exact u8_in _ (by omega) | exact rfl)) ?_
      refine Wl.val rfl rfl rfl (Gives.assign rfl rfl) ?_
      refine Wl.nil ?_
      refine Wx.thenN ?_
      exact hKL1 (i + 1, S4, m4, k4) _ _ (.cons (by first | exact rfl | exact look_int rfl (by omega) | exact look_slice rfl (by omega)) (.cons (by first | exact rfl | exact look_int rfl (by omega) | exact look_slice rfl (by omega)) (.cons rfl (.nil)))) ⟨by omega, by omega, by rw [fold_take' _ _ _ _ _ hz]; exact hO4, hE⟩ (by show n - (i + 1) < n - i; omega)
    · (first | replace h15 := of_decide_eq_false h15 | replace h15 := nd_false h15 | skip)
      refine Wc.exit ?_
      refine Wx.thenE ?_
      refine Wx.thenE ?_
      refine Wx.hit ?_
      refine Wx.thenN (hK6 _ _ ?_)
      refine Wc.seq (fun K11 hK11 => ?_)
      refine Wc.keep [(3, _)] (.cons rfl (.nil)) ?_
      refine Wc.region ?_
      refine Wl.val rfl rfl rfl (Gives.move rfl rfl) ?_
      refine Wl.val rfl rfl rfl (Gives.assign rfl rfl) ?_
      refine Wl.nil ?_
      refine Wx.thenN (hK11 _ _ ?_)
      refine Wc.ret ?_
      refine Wx.ret [_] ⟨rfl, trivial⟩ ?_
      first | exact ⟨none, 0, 0, rfl, by rw [chB_no h8]; exact OB.nil_ _ _ _, hE⟩ | exact ⟨S, m, k, rfl, by rw [chB_y hce, hln]; rw [List.take_of_length_le (by omega)] at hO; exact hO, hE⟩
theorem take_eq_step {l r : List Im} {i : Nat} {x y : Im} (h : l.take i = r.take i) (hx : l[i]? = some x) (hy : r[i]? = some y) (hxy : x = y) : l.take (i + 1) = r.take (i + 1) := by
  rw [← take_im hx, ← take_im hy, h, hxy]
theorem im_ext {x y : Im} : (x.role = y.role ∧ x.name = y.name ∧ x.ver = y.ver ∧ x.pay = y.pay) ↔ x = y := by
  constructor
  · rintro ⟨h1, h2, h3, h4⟩
    obtain ⟨a, b, c, d⟩ := x; obtain ⟨a2, b2, c2, d2⟩ := y; simp only at h1 h2 h3 h4; rw [h1, h2, h3, h4]
  · rintro rfl; exact ⟨rfl, rfl, rfl, rfl⟩
set_option maxRecDepth 20000 in
set_option maxHeartbeats 2000000 in
theorem sameChain {P P' : Nat → Prop} (w : World) (A B : Option Addr) (n c m d : Nat) (l r : List Im) (hl : SL Rp.img w P A n c l) (hr : SL Rp.img w P' B m d r) :
    Calls Tryd.prog 40 #[.slice A n c, .slice B m d] w fun e w' => e = .returned (.bool (decide (l = r))) ∧ Ext w w' := by
  have hln := hl.len
  have hle := hl.le
  have hrn := hr.len
  refine calls_enter Tryd.func40 rfl Tryd.ntmps40 rfl ?_
  have hE : Ext w w := Ext.refl w
  refine Wc.seq (fun K1 hK1 => ?_)
  refine Wc.keep [(0, _), (1, _)] (.cons rfl (.cons rfl (.nil))) ?_
  refine Wc.region ?_
  refine Wl.val rfl rfl rfl (Gives.assign rfl rfl) ?_
  refine Wl.nil ?_
  refine Wx.thenN (hK1 _ _ ?_)
  refine Wc.seq (fun K2 hK2 => ?_)
  refine Wc.seq (fun K3 hK3 => ?_)
  refine Wc.keep [(0, _), (1, _)] (.cons rfl (.cons rfl (.nil))) ?_
  refine Wc.region ?_
  refine Wl.val rfl rfl rfl (Gives.move rfl rfl) ?_
  refine Wl.val rfl rfl rfl (Gives.lenS rfl Tryd.underlying52 rfl) ?_
  refine Wl.val rfl rfl rfl (Gives.move rfl rfl) ?_
  refine Wl.val rfl rfl rfl (Gives.lenS rfl Tryd.underlying52 rfl) ?_
  refine Wl.val rfl rfl rfl (Gives.neq rfl rfl rfl) ?_
  refine Wl.nil ?_
  refine Wx.thenN (hK3 _ _ ?_)
  refine Wc.cond _ rfl (fun h10 => ?_) (fun h10 => ?_)
  · (first | replace h10 := of_decide_eq_true h10 | replace h10 := nd_true h10 | skip)
    refine Wc.seq (fun K4 hK4 => ?_)
    refine Wc.keep [] (.nil) ?_
    refine Wc.region ?_
    refine Wl.val rfl rfl rfl (Gives.assign rfl rfl) ?_
    refine Wl.nil ?_
    refine Wx.thenN (hK4 _ _ ?_)
    refine Wc.ret ?_
    refine Wx.thenR ?_
    refine Wx.ret [_] ⟨rfl, trivial⟩ ?_
    first | exact ⟨by rw [decide_eq_false (fun hh => by rw [hh] at hln; omega)]; rfl, hE⟩ | exact ⟨by rw [decide_eq_false (fun hh => by rw [hh, hz3] at hz; cases hz; simp at h26)]; rfl, hE⟩ | exact ⟨by rw [decide_eq_true (by rw [List.take_of_length_le (by omega), List.take_of_length_le (by omega)] at hlr; exact hlr)]; rfl, hE⟩
  · (first | replace h10 := of_decide_eq_false h10 | replace h10 := nd_false h10 | skip)
    refine Wc.skip ?_
    refine Wx.thenN (hK2 _ _ ?_)
    refine Wc.seq (fun K5 hK5 => ?_)
    refine Wc.seq (fun K6 hK6 => ?_)
    refine Wc.keep [(0, _), (1, _)] (.cons rfl (.cons rfl (.nil))) ?_
    refine Wc.region ?_
    refine Wl.val rfl rfl rfl (Gives.assign rfl rfl) ?_
    refine Wl.nil ?_
    refine Wx.thenN (hK6 _ _ ?_)
    refine Wc.block ?_
    refine Wc.keep [(0, _), (1, _), (5, _)] (.cons rfl (.cons rfl (.cons rfl (.nil)))) ?_
    refine Wc.loopC (ι := Nat) [(0, _), (1, _)] (fun i => [(5, .int .i64 (i : Int))]) (fun i wr => i ≤ n ∧ l.take i = r.take i ∧ Ext w wr) (fun i => n - i) (0) (.cons (by first | exact rfl | exact look_int rfl (by omega) | exact look_slice rfl (by omega)) (.cons rfl (.cons rfl (.nil)))) (⟨by omega, by rw [List.take_zero, List.take_zero], hE⟩) ?_
    intro i wr hJ KL1 hKL1
    clear hE
    obtain ⟨hi, hlr, hE⟩ := hJ
    refine Wc.seq (fun K7 hK7 => ?_)
    refine Wc.seq (fun K8 hK8 => ?_)
    refine Wc.keep [(0, _), (1, _), (5, _)] (.cons rfl (.cons rfl (.cons rfl (.nil)))) ?_
    refine Wc.region ?_
    refine Wl.val rfl rfl rfl (Gives.move rfl rfl) ?_
    refine Wl.val rfl rfl rfl (Gives.move rfl rfl) ?_
    refine Wl.val rfl rfl rfl (Gives.lenS rfl Tryd.underlying52 rfl) ?_
    refine Wl.val rfl rfl rfl (Gives.lss rfl rfl rfl) ?_
    refine Wl.nil ?_
    refine Wx.thenN (hK8 _ _ ?_)
    refine Wc.cond _ rfl (fun h14 => ?_) (fun h14 => ?_)
    · (first | replace h14 := of_decide_eq_true h14 | replace h14 := nd_true h14 | skip)
      refine Wc.skip ?_
      refine Wx.thenN (hK7 _ _ ?_)
      refine Wc.seq (fun K9 hK9 => ?_)
      refine Wc.block ?_
      refine Wc.seq (fun K10 hK10 => ?_)
      refine Wc.keep [(0, _), (1, _), (5, _)] (.cons rfl (.cons rfl (.cons rfl (.nil)))) ?_
      refine Wc.regionD (fun _ => true) Eq (.read 0 (.read 1 (.read 2 (.read 3 (.read 4 (.read 5 (.read 6 (.read 7 .tail)))))))) 8 (by kernel_rfl) (by kernel_rfl) (by kernel_rfl) (fun _ => rfl) (fun _ _ _ h k => h.trans k) Quiet ⟨1, rfl⟩ ?_
      intro w6 hR6
      replace hE := hE.trans hR6.ext
      obtain ⟨xb, xo, rfl, hbw, x, S2, m2, k2, hz, hr0, hp⟩ := IL.at_ (hl.ext hE) (show i < n by omega)
      obtain ⟨yb, yo, rfl, hbw2, y, S3, m3, k3, hz3, hr3, hp3⟩ := IL.at_ (hr.ext hE) (show i < m by omega)
      refine RunE.readE rfl rfl rfl rfl (Gives.move rfl rfl) ?_
      refine RunE.readE rfl rfl rfl rfl (Gives.move rfl rfl) ?_
      refine RunE.readE rfl rfl rfl rfl (Gives.ixSZ (i := _) (sz := 4) rfl Tryd.underlying52 (by kernel_rfl) rfl rfl rfl (by omega)) ?_
      refine RunE.readE rfl rfl rfl rfl (Gives.ldM rfl (by kernel_rfl) rfl hr0 (by kernel_rfl)) ?_
      refine RunE.readE rfl rfl rfl rfl (Gives.move rfl rfl) ?_
      refine RunE.readE rfl rfl rfl rfl (Gives.move rfl rfl) ?_
      refine RunE.readE rfl rfl rfl rfl (Gives.ixSZ (i := _) (sz := 4) rfl Tryd.underlying52 (by kernel_rfl) rfl rfl rfl (by omega)) ?_
      refine RunE.readE rfl rfl rfl rfl (Gives.ldM rfl (by kernel_rfl) rfl hr3 (by kernel_rfl)) ?_
      refine RunE.tail rfl ?_
      refine Wl.call rfl rfl rfl rfl Tryd.func29 rfl (by kernel_rfl) rfl (sameI _ x.role x.ver x.name S2 m2 k2 x.pay hp y.role y.ver y.name S3 m3 k3 y.pay hp3) ?_
      rintro x1 w68 ⟨rfl, hx68⟩
      refine ⟨_, rfl, ?_⟩
      replace hE := hE.trans hx68
      refine Wl.val rfl rfl rfl (Gives.not rfl rfl) ?_
      refine Wl.nil ?_
      refine Wx.thenN (hK10 _ _ ?_)
      refine Wc.cond _ rfl (fun h26 => ?_) (fun h26 => ?_)
      · (first | replace h26 := of_decide_eq_true h26 | replace h26 := nd_true h26 | skip)
        refine Wc.seq (fun K11 hK11 => ?_)
        refine Wc.keep [] (.nil) ?_
        refine Wc.region ?_
        refine Wl.val rfl rfl rfl (Gives.assign rfl rfl) ?_
        refine Wl.nil ?_
        refine Wx.thenN (hK11 _ _ ?_)
        refine Wc.ret ?_
        refine Wx.blockR ?_
        refine Wx.thenR ?_
        refine Wx.thenR ?_
        refine Wx.blockR ?_
        refine Wx.thenR ?_
        refine Wx.ret [_] ⟨rfl, trivial⟩ ?_
        first | exact ⟨by rw [decide_eq_false (fun hh => by rw [hh] at hln; omega)]; rfl, hE⟩ | exact ⟨by rw [decide_eq_false (fun hh => by rw [hh, hz3] at hz; cases hz; simp at h26)]; rfl, hE⟩ | exact ⟨by rw [decide_eq_true (by rw [List.take_of_length_le (by omega), List.take_of_length_le (by omega)] at hlr; exact hlr)]; rfl, hE⟩
      · (first | replace h26 := of_decide_eq_false h26 | replace h26 := nd_false h26 | skip)
        refine Wc.skip ?_
        refine Wx.blockN ?_
        refine Wx.thenN (hK9 _ _ ?_)
        refine Wc.keep [(0, _), (1, _), (5, _)] (.cons rfl (.cons rfl (.cons rfl (.nil)))) ?_
        refine Wc.region ?_
        refine Wl.val rfl rfl rfl (Gives.move rfl rfl) ?_
        refine Wl.val rfl rfl rfl (Gives.add rfl rfl rfl (by first | exact IntWalk.i64_in _ (by omega) | exact u64_in _ (by omega) | exact u32_in _ (by omega) | exact u8_in _ (by omega) | exact rfl)) ?_
        refine Wl.val rfl rfl rfl (Gives.assign rfl rfl) ?_
        refine Wl.nil ?_
        refine Wx.thenN ?_
        have hxy : x = y := im_ext.1 (by simpa using h26)
        exact hKL1 (i + 1) _ _ (.cons (by first | exact rfl | exact look_int rfl (by omega) | exact look_slice rfl (by omega)) (.cons rfl (.cons rfl (.nil)))) ⟨by omega, take_eq_step hlr hz hz3 hxy, hE⟩ (by show n - (i + 1) < n - i; omega)
    · (first | replace h14 := of_decide_eq_false h14 | replace h14 := nd_false h14 | skip)
      refine Wc.exit ?_
      refine Wx.thenE ?_
      refine Wx.thenE ?_
      refine Wx.hit ?_
      refine Wx.thenN (hK5 _ _ ?_)
      refine Wc.seq (fun K12 hK12 => ?_)
      refine Wc.keep [] (.nil) ?_
      refine Wc.region ?_
      refine Wl.val rfl rfl rfl (Gives.assign rfl rfl) ?_
      refine Wl.nil ?_
      refine Wx.thenN (hK12 _ _ ?_)
      refine Wc.ret ?_
      refine Wx.ret [_] ⟨rfl, trivial⟩ ?_
      first | exact ⟨by rw [decide_eq_false (fun hh => by rw [hh] at hln; omega)]; rfl, hE⟩ | exact ⟨by rw [decide_eq_false (fun hh => by rw [hh, hz3] at hz; cases hz; simp at h26)]; rfl, hE⟩ | exact ⟨by rw [decide_eq_true (by rw [List.take_of_length_le (by omega), List.take_of_length_le (by omega)] at hlr; exact hlr)]; rfl, hE⟩
end Go.Proofs.YteppchoeiflnhaaDoor
