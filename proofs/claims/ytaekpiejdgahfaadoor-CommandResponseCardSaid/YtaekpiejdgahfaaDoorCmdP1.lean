/- Commands: shapes, of the program and of the reference. -/
import Derived.Test.YtaekpiejdgahfaaDoorCmdS
import Derived.Test.YtaekpiejdgahfaaDoorVc5
import Derived.Test.YtaekpiejdgahfaaDoorVcA
namespace Go.Proofs.YtaekpiejdgahfaaDoor
set_option linter.all false
open Go.RowKit
def formCells (f : Int × Shp) : List Value := [.int .i64 f.1, .int .i64 f.2.h, .int .i64 f.2.a, .int .i64 f.2.i, .int .i64 f.2.b]
def formsL : List Value := formsT.flatMap formCells
/-- What the program's variables hold. -/
def Tabs (w : World) : Prop := GV w 1 [.int .u8 83, .int .u8 87] ∧ GV w 0 formsL
theorem Tabs.ext {w w' : World} (h : Tabs w) (e : Ext w w') : Tabs w' := ⟨h.1.ext e, h.2.ext e⟩
theorem flat_at {α β : Type} (f : α → List β) (n : Nat) (hf : ∀ a, (f a).length = n) : ∀ (l : List α) (k : Nat) (a : α), l[k]? = some a → ((l.flatMap f).drop (k * n)).take n = f a
  | [], k, a, h => by simp at h
  | b :: r, 0, a, h => by
    simp at h; subst h
    rw [Nat.zero_mul, List.drop_zero, List.flatMap_cons, List.take_left' (hf b)]
  | b :: r, k + 1, a, h => by
    have := flat_at f n hf r k a (by simpa using h)
    rw [List.flatMap_cons, Nat.succ_mul, Nat.add_comm, ← List.drop_drop, List.drop_left' (hf b)]
    exact this
theorem extract_flat {α : Type} (f : α → List Value) (n : Nat) (hf : ∀ a, (f a).length = n) (l : List α) (k : Nat) (a : α) (h : l[k]? = some a) : (l.flatMap f).toArray.extract (k * n) (k * n + n) = (f a).toArray := by
  apply Array.ext'
  have := flat_at f n hf l k a h
  simp only [Array.toList_extract, List.extract]
  rw [Nat.add_sub_cancel_left]
  exact this
theorem fT_at (i : Nat) (h : i < 32) : formsT[i]? = some (fT i) := by
  have hl : formsT.length = 32 := rfl
  rw [List.getElem?_eq_getElem (by omega)]
  unfold fT
  simp [List.getD, List.getElem?_eq_getElem (show i < formsT.length by omega)]
def shpV (s : Shp) : Value := .tuple #[.int .i64 s.h, .int .i64 s.a, .int .i64 s.i, .int .i64 s.b, .bool s.ok]
theorem shpV_eq {s : Shp} {a : Value} (h : a = shpV s) : Ending.returned a = .returned (shpV s) := by rw [h]
set_option maxRecDepth 10000 in
theorem shapeP_calls (w : World) (hT : Tabs w) (code : Int) :
    Calls Tryd.prog 11 #[.int .i64 code] w fun e w' => e = .returned (shpV (shapeS code)) ∧ Ext w w' := by
  refine calls_enter Tryd.func11 rfl Tryd.ntmps11 rfl ?_
  have hE : Ext w w := Ext.refl w
  refine Wc.seq (fun K1 hK1 => ?_)
  refine Wc.keep [(0, _)] (.cons rfl (.nil)) ?_
  refine Wc.region ?_
  refine Wl.val rfl rfl rfl (Gives.assign rfl rfl) ?_
  refine Wl.val rfl rfl rfl (Gives.assign rfl rfl) ?_
  refine Wl.val rfl rfl rfl (Gives.assign rfl rfl) ?_
  refine Wl.val rfl rfl rfl (Gives.assign rfl rfl) ?_
  refine Wl.val rfl rfl rfl (Gives.assign rfl rfl) ?_
  refine Wl.nil ?_
  refine Wx.thenN (hK1 _ _ ?_)
  refine Wc.seq (fun K2 hK2 => ?_)
  refine Wc.seq (fun K3 hK3 => ?_)
  refine Wc.keep [(0, _)] (.cons rfl (.nil)) ?_
  refine Wc.region ?_
  refine Wl.val rfl rfl rfl (Gives.ldM rfl (by kernel_rfl) rfl hT.2.range (by kernel_rfl)) ?_
  refine Wl.val rfl rfl rfl (Gives.move rfl rfl) ?_
  refine Wl.nil ?_
  refine Wx.thenN (hK3 _ _ ?_)
  refine Wc.block ?_
  refine Wc.keep [(0, _), (9, _), (10, _)] (.cons rfl (.cons rfl (.cons rfl (.nil)))) ?_
  refine Wc.loopC (ι := Nat) [(0, _), (9, _)] (fun i => [(10, .int .i64 (i : Int))]) (fun i wr => i ≤ 32 ∧ (∀ j < i, (fT j).1 ≠ code) ∧ Ext w wr) (fun i => 32 - i) (0) (.cons (by first | exact rfl | exact look_int rfl (by omega) | exact look_slice rfl (by omega)) (.cons rfl (.cons rfl (.nil)))) (⟨by omega, fun j hj => absurd hj (by omega), hE⟩) ?_
  intro i wr hJ KL1 hKL1
  clear hE
  obtain ⟨hi, hno, hE⟩ := hJ
  refine Wc.seq (fun K4 hK4 => ?_)
  refine Wc.keep [(0, _), (9, _), (10, _)] (.cons rfl (.cons rfl (.cons rfl (.nil)))) ?_
  refine Wc.region ?_
  refine Wl.val rfl rfl rfl (Gives.lss rfl rfl rfl) ?_
  refine Wl.nil ?_
  refine Wx.thenN (hK4 _ _ ?_)
  refine Wc.seq (fun K5 hK5 => ?_)
  refine Wc.cond _ rfl (fun h11 => ?_) (fun h11 => ?_)
  · (first | replace h11 := of_decide_eq_true h11 | replace h11 := nd_true h11 | skip)
    refine Wc.skip ?_
    refine Wx.thenN (hK5 _ _ ?_)
    refine Wc.seq (fun K6 hK6 => ?_)
    refine Wc.block ?_
    refine Wc.seq (fun K7 hK7 => ?_)
    refine Wc.keep [(0, _), (9, _), (10, _)] (.cons rfl (.cons rfl (.cons rfl (.nil)))) ?_
    have hi32 : i < 32 := by omega
    have hx := extract_flat formCells 5 (fun _ => rfl) formsT i _ (fT_at i hi32)
    have hrange := form_found i hi32
    have hok := form_range i hi32
    generalize hfi : fT i = f at *
    refine Wc.region ?_
    refine Wl.val rfl rfl rfl (Gives.idxA (i := i) rfl Tryd.underlying65 (by kernel_rfl) (by kernel_rfl) rfl rfl rfl (by omega) hx) ?_
    refine Wl.does rfl rfl rfl (Does.alB (.agg #[(.int .i64 0), (.int .i64 0), (.int .i64 0), (.int .i64 0), (.int .i64 0)]) rfl (by kernel_rfl) rfl) ?_
    rintro _ w3_1 ⟨b8, rfl, hs8, hb8, hx3_1⟩
    have hg8 : w.heap.size ≤ b8 := Nat.le_trans hE.size hs8
    replace hE := hE.trans hx3_1
    refine Wl.acts rfl rfl (Does.stL 5 rfl rfl rfl hb8 (by kernel_rfl) rfl rfl rfl) ?_
    rintro _ w3_2 ⟨hbn, hF3_2⟩
    replace hE := Ext.over hE hF3_2 hg8
    replace hb8 := hbn
    clear hbn
    refine Wl.nil ?_
    refine Wx.thenN (hK7 _ _ ?_)
    refine Wc.seq (fun K8 hK8 => ?_)
    refine Wc.keep [(0, _), (8, _), (9, _), (10, _)] (.cons rfl (.cons rfl (.cons rfl (.cons rfl (.nil))))) ?_
    refine Wc.region ?_
    refine Wl.val rfl rfl rfl (Gives.fieldAt 0 rfl Tryd.underlying64 rfl (by kernel_rfl) rfl rfl) ?_
    refine Wl.val rfl rfl rfl (Gives.ldK rfl (by kernel_rfl) rfl hb8 rfl) ?_
    refine Wl.val rfl rfl rfl (Gives.move rfl rfl) ?_
    refine Wl.val rfl rfl rfl (Gives.eql rfl rfl rfl) ?_
    refine Wl.nil ?_
    refine Wx.thenN (hK8 _ _ ?_)
    refine Wc.cond _ rfl (fun h16 => ?_) (fun h16 => ?_)
    · (first | replace h16 := of_decide_eq_true h16 | replace h16 := nd_true h16 | skip)
      refine Wc.seq (fun K9 hK9 => ?_)
      refine Wc.keep [(8, _)] (.cons rfl (.nil)) ?_
      refine Wc.regionD (fun _ => true) Eq (.read 0 (.read 1 (.read 2 (.read 3 (.read 4 (.read 5 (.read 6 (.read 7 (.read 8 (.read 9 (.read 10 .tail))))))))))) 11 (by kernel_rfl) (by kernel_rfl) (by kernel_rfl) (fun _ => rfl) (fun _ _ _ h k => h.trans k) Quiet ⟨1, rfl⟩ ?_
      intro w5 hR5
      replace hb8 := hb8.ext hR5.ext
      replace hE := hE.trans hR5.ext
      refine RunE.readE rfl rfl rfl rfl (Gives.fieldAt 1 rfl Tryd.underlying64 rfl (by kernel_rfl) rfl rfl) ?_
      refine RunE.readE rfl rfl rfl rfl (Gives.ldK rfl (by kernel_rfl) rfl hb8 rfl) ?_
      refine RunE.readE rfl rfl rfl rfl (Gives.fieldAt 2 rfl Tryd.underlying64 rfl (by kernel_rfl) rfl rfl) ?_
      refine RunE.readE rfl rfl rfl rfl (Gives.ldK rfl (by kernel_rfl) rfl hb8 rfl) ?_
      refine RunE.readE rfl rfl rfl rfl (Gives.fieldAt 3 rfl Tryd.underlying64 rfl (by kernel_rfl) rfl rfl) ?_
      refine RunE.readE rfl rfl rfl rfl (Gives.ldK rfl (by kernel_rfl) rfl hb8 rfl) ?_
      refine RunE.readE rfl rfl rfl rfl (Gives.fieldAt 4 rfl Tryd.underlying64 rfl (by kernel_rfl) rfl rfl) ?_
      refine RunE.readE rfl rfl rfl rfl (Gives.ldK rfl (by kernel_rfl) rfl hb8 rfl) ?_
      refine RunE.readE rfl rfl rfl rfl (Gives.assign rfl rfl) ?_
      refine RunE.readE rfl rfl rfl rfl (Gives.assign rfl rfl) ?_
      refine RunE.readE rfl rfl rfl rfl (Gives.assign rfl rfl) ?_
      refine RunE.tail rfl ?_
      refine Wl.val rfl rfl rfl (Gives.assign rfl rfl) ?_
      refine Wl.val rfl rfl rfl (Gives.assign rfl rfl) ?_
      refine Wl.nil ?_
      refine Wx.thenN (hK9 _ _ ?_)
      refine Wc.ret ?_
      refine Wx.blockR ?_
      refine Wx.thenR ?_
      refine Wx.thenR ?_
      refine Wx.blockR ?_
      refine Wx.thenR ?_
      refine Wx.ret [_, _, _, _, _] ⟨rfl, ⟨rfl, ⟨rfl, ⟨rfl, ⟨rfl, trivial⟩⟩⟩⟩⟩ ?_
      refine ⟨shpV_eq ?_, hE⟩
      rw [← h16, hrange]
      unfold shpV
      rw [hok]
      rfl
    · (first | replace h16 := of_decide_eq_false h16 | replace h16 := nd_false h16 | skip)
      refine Wc.skip ?_
      refine Wx.blockN ?_
      refine Wx.thenN (hK6 _ _ ?_)
      refine Wc.keep [(0, _), (9, _), (10, _)] (.cons rfl (.cons rfl (.cons rfl (.nil)))) ?_
      refine Wc.region ?_
      refine Wl.val rfl rfl rfl (Gives.add rfl rfl rfl (by first | exact IntWalk.i64_in _ (by omega) | exact u64_in _ (by omega) | exact u32_in _ (by omega) | exact u8_in _ (by omega) | exact rfl)) ?_
      refine Wl.val rfl rfl rfl (Gives.move rfl rfl) ?_
      refine Wl.nil ?_
      refine Wx.thenN ?_
      have hno2 : ∀ j < i + 1, (fT j).1 ≠ code := by
        intro j hj
        rcases Nat.lt_or_ge j i with h | h
        · exact hno j h
        · obtain rfl : j = i := by omega
          rw [hfi]; exact h16
      refine hKL1 (i + 1) _ _ (.cons (by first | exact rfl | exact look_int rfl (by omega) | exact look_slice rfl (by omega)) (.cons rfl (.cons rfl (.nil)))) ⟨by omega, hno2, hE⟩ (by omega)
  · (first | replace h11 := of_decide_eq_false h11 | replace h11 := nd_false h11 | skip)
    refine Wc.exit ?_
    refine Wx.thenE ?_
    refine Wx.thenE ?_
    refine Wx.hit ?_
    refine Wx.thenN (hK2 _ _ ?_)
    refine Wc.seq (fun K10 hK10 => ?_)
    refine Wc.keep [] (.nil) ?_
    refine Wc.region ?_
    refine Wl.val rfl rfl rfl (Gives.assign rfl rfl) ?_
    refine Wl.val rfl rfl rfl (Gives.assign rfl rfl) ?_
    refine Wl.val rfl rfl rfl (Gives.assign rfl rfl) ?_
    refine Wl.val rfl rfl rfl (Gives.assign rfl rfl) ?_
    refine Wl.val rfl rfl rfl (Gives.assign rfl rfl) ?_
    refine Wl.nil ?_
    refine Wx.thenN (hK10 _ _ ?_)
    refine Wc.ret ?_
    refine Wx.ret [_, _, _, _, _] ⟨rfl, ⟨rfl, ⟨rfl, ⟨rfl, ⟨rfl, trivial⟩⟩⟩⟩⟩ ?_
    obtain rfl : i = 32 := by omega
    exact ⟨shpV_eq (by rw [form_none code hno]; rfl), hE⟩
/-! the reference -/
def rowH (s : Shp) : Int := if s.ok = true then s.h else -2
def rowCells (s : Shp) : List Value := [.int .i64 (rowH s), .int .i64 s.a, .int .i64 s.i, .int .i64 s.b]
def rowsL : List Value := [.int .i64 (-2), .int .i64 0, .int .i64 0, .int .i64 0, .int .i64 0, .int .i64 0, .int .i64 1, .int .i64 0, .int .i64 0, .int .i64 0, .int .i64 1, .int .i64 0, .int .i64 (-2), .int .i64 0, .int .i64 0, .int .i64 0, .int .i64 0, .int .i64 0, .int .i64 0, .int .i64 0, .int .i64 0, .int .i64 0, .int .i64 2, .int .i64 0, .int .i64 0, .int .i64 0, .int .i64 1, .int .i64 2, .int .i64 0, .int .i64 0, .int .i64 1, .int .i64 1, .int .i64 0, .int .i64 0, .int .i64 1, .int .i64 0, .int .i64 1, .int .i64 1, .int .i64 3, .int .i64 3, .int .i64 1, .int .i64 1, .int .i64 3, .int .i64 3, .int .i64 1, .int .i64 1, .int .i64 0, .int .i64 2, .int .i64 0, .int .i64 0, .int .i64 1, .int .i64 0, .int .i64 1, .int .i64 1, .int .i64 0, .int .i64 0, .int .i64 1, .int .i64 1, .int .i64 0, .int .i64 1, .int .i64 1, .int .i64 1, .int .i64 2, .int .i64 1, .int .i64 0, .int .i64 0, .int .i64 1, .int .i64 0, .int .i64 0, .int .i64 0, .int .i64 6, .int .i64 (-1), .int .i64 1, .int .i64 1, .int .i64 2, .int .i64 1, .int .i64 0, .int .i64 0, .int .i64 1, .int .i64 3, .int .i64 0, .int .i64 0, .int .i64 1, .int .i64 0, .int .i64 1, .int .i64 1, .int .i64 4, .int .i64 2, .int .i64 1, .int .i64 1, .int .i64 1, .int .i64 0, .int .i64 2, .int .i64 1, .int .i64 1, .int .i64 1, .int .i64 2, .int .i64 1, .int .i64 2, .int .i64 0, .int .i64 2, .int .i64 1, .int .i64 0, .int .i64 0, .int .i64 2, .int .i64 1, .int .i64 0, .int .i64 1, .int .i64 2, .int .i64 1, .int .i64 0, .int .i64 1, .int .i64 2, .int .i64 1, .int .i64 0, .int .i64 0, .int .i64 2, .int .i64 1, .int .i64 0, .int .i64 0, .int .i64 1, .int .i64 1, .int .i64 0, .int .i64 1, .int .i64 1, .int .i64 1, .int .i64 0, .int .i64 0, .int .i64 1, .int .i64 1, .int .i64 0, .int .i64 0, .int .i64 1, .int .i64 1, .int .i64 3, .int .i64 0]
def zShapes : Value := .agg #[.int .i64 0, .int .i64 0, .int .i64 0, .int .i64 0, .int .i64 0, .int .i64 0, .int .i64 0, .int .i64 0, .int .i64 0, .int .i64 0, .int .i64 0, .int .i64 0, .int .i64 0, .int .i64 0, .int .i64 0, .int .i64 0, .int .i64 0, .int .i64 0, .int .i64 0, .int .i64 0, .int .i64 0, .int .i64 0, .int .i64 0, .int .i64 0, .int .i64 0, .int .i64 0, .int .i64 0, .int .i64 0, .int .i64 0, .int .i64 0, .int .i64 0, .int .i64 0, .int .i64 0, .int .i64 0, .int .i64 0, .int .i64 0, .int .i64 0, .int .i64 0, .int .i64 0, .int .i64 0, .int .i64 0, .int .i64 0, .int .i64 0, .int .i64 0, .int .i64 0, .int .i64 0, .int .i64 0, .int .i64 0, .int .i64 0, .int .i64 0, .int .i64 0, .int .i64 0, .int .i64 0, .int .i64 0, .int .i64 0, .int .i64 0, .int .i64 0, .int .i64 0, .int .i64 0, .int .i64 0, .int .i64 0, .int .i64 0, .int .i64 0, .int .i64 0, .int .i64 0, .int .i64 0, .int .i64 0, .int .i64 0, .int .i64 0, .int .i64 0, .int .i64 0, .int .i64 0, .int .i64 0, .int .i64 0, .int .i64 0, .int .i64 0, .int .i64 0, .int .i64 0, .int .i64 0, .int .i64 0, .int .i64 0, .int .i64 0, .int .i64 0, .int .i64 0, .int .i64 0, .int .i64 0, .int .i64 0, .int .i64 0, .int .i64 0, .int .i64 0, .int .i64 0, .int .i64 0, .int .i64 0, .int .i64 0, .int .i64 0, .int .i64 0, .int .i64 0, .int .i64 0, .int .i64 0, .int .i64 0, .int .i64 0, .int .i64 0, .int .i64 0, .int .i64 0, .int .i64 0, .int .i64 0, .int .i64 0, .int .i64 0, .int .i64 0, .int .i64 0, .int .i64 0, .int .i64 0, .int .i64 0, .int .i64 0, .int .i64 0, .int .i64 0, .int .i64 0, .int .i64 0, .int .i64 0, .int .i64 0, .int .i64 0, .int .i64 0, .int .i64 0, .int .i64 0, .int .i64 0, .int .i64 0, .int .i64 0, .int .i64 0, .int .i64 0, .int .i64 0, .int .i64 0, .int .i64 0, .int .i64 0, .int .i64 0, .int .i64 0, .int .i64 0]
theorem shapes_calls (w : World) : Calls Tryd.prog 30 #[] w fun e w' => e = .returned (.agg rowsL.toArray) ∧ Ext w w' := by
  refine calls_enter Tryd.func30 rfl Tryd.ntmps30 rfl ?_
  have hE : Ext w w := Ext.refl w
  refine Wc.seq (fun K1 hK1 => ?_)
  refine Wc.keep [] (.nil) ?_
  refine Wc.region ?_
  refine Wl.does rfl rfl rfl (Does.alB (.agg #[(.int .i64 0), (.int .i64 0), (.int .i64 0), (.int .i64 0), (.int .i64 0), (.int .i64 0), (.int .i64 0), (.int .i64 0), (.int .i64 0), (.int .i64 0), (.int .i64 0), (.int .i64 0), (.int .i64 0), (.int .i64 0), (.int .i64 0), (.int .i64 0), (.int .i64 0), (.int .i64 0), (.int .i64 0), (.int .i64 0), (.int .i64 0), (.int .i64 0), (.int .i64 0), (.int .i64 0), (.int .i64 0), (.int .i64 0), (.int .i64 0), (.int .i64 0), (.int .i64 0), (.int .i64 0), (.int .i64 0), (.int .i64 0), (.int .i64 0), (.int .i64 0), (.int .i64 0), (.int .i64 0), (.int .i64 0), (.int .i64 0), (.int .i64 0), (.int .i64 0), (.int .i64 0), (.int .i64 0), (.int .i64 0), (.int .i64 0), (.int .i64 0), (.int .i64 0), (.int .i64 0), (.int .i64 0), (.int .i64 0), (.int .i64 0), (.int .i64 0), (.int .i64 0), (.int .i64 0), (.int .i64 0), (.int .i64 0), (.int .i64 0), (.int .i64 0), (.int .i64 0), (.int .i64 0), (.int .i64 0), (.int .i64 0), (.int .i64 0), (.int .i64 0), (.int .i64 0), (.int .i64 0), (.int .i64 0), (.int .i64 0), (.int .i64 0), (.int .i64 0), (.int .i64 0), (.int .i64 0), (.int .i64 0), (.int .i64 0), (.int .i64 0), (.int .i64 0), (.int .i64 0), (.int .i64 0), (.int .i64 0), (.int .i64 0), (.int .i64 0), (.int .i64 0), (.int .i64 0), (.int .i64 0), (.int .i64 0), (.int .i64 0), (.int .i64 0), (.int .i64 0), (.int .i64 0), (.int .i64 0), (.int .i64 0), (.int .i64 0), (.int .i64 0), (.int .i64 0), (.int .i64 0), (.int .i64 0), (.int .i64 0), (.int .i64 0), (.int .i64 0), (.int .i64 0), (.int .i64 0), (.int .i64 0), (.int .i64 0), (.int .i64 0), (.int .i64 0), (.int .i64 0), (.int .i64 0), (.int .i64 0), (.int .i64 0), (.int .i64 0), (.int .i64 0), (.int .i64 0), (.int .i64 0), (.int .i64 0), (.int .i64 0), (.int .i64 0), (.int .i64 0), (.int .i64 0), (.int .i64 0), (.int .i64 0), (.int .i64 0), (.int .i64 0), (.int .i64 0), (.int .i64 0), (.int .i64 0), (.int .i64 0), (.int .i64 0), (.int .i64 0), (.int .i64 0), (.int .i64 0), (.int .i64 0), (.int .i64 0), (.int .i64 0), (.int .i64 0), (.int .i64 0), (.int .i64 0), (.int .i64 0)]) rfl (by kernel_rfl) rfl) ?_
  rintro _ w0_0 ⟨b0, rfl, hs0, hb0, hx0_0⟩
  have hg0 : w.heap.size ≤ b0 := Nat.le_trans hE.size hs0
  replace hE := hE.trans hx0_0
  refine Wl.nil ?_
  refine Wx.thenN (hK1 _ _ ?_)
  refine Wc.seq (fun K2 hK2 => ?_)
  refine Wc.keep [(0, _)] (.cons rfl (.nil)) ?_
  refine Wc.region ?_
  refine Wl.val rfl rfl rfl (Gives.buildA (sz := 1) (zv := (.agg #[(.int .i64 0), (.int .i64 0), (.int .i64 0), (.int .i64 0)])) rfl Tryd.underlying25 (by kernel_rfl) (by kernel_rfl) rfl rfl) ?_
  refine Wl.val rfl rfl rfl (Gives.buildA1 rfl Tryd.underlying25 (by kernel_rfl) (by kernel_rfl) rfl rfl rfl) ?_
  refine Wl.val rfl rfl rfl (Gives.buildA1 rfl Tryd.underlying25 (by kernel_rfl) (by kernel_rfl) rfl rfl rfl) ?_
  refine Wl.val rfl rfl rfl (Gives.buildA (sz := 1) (zv := (.agg #[(.int .i64 0), (.int .i64 0), (.int .i64 0), (.int .i64 0)])) rfl Tryd.underlying25 (by kernel_rfl) (by kernel_rfl) rfl rfl) ?_
  refine Wl.val rfl rfl rfl (Gives.buildA1 rfl Tryd.underlying25 (by kernel_rfl) (by kernel_rfl) rfl rfl rfl) ?_
  refine Wl.val rfl rfl rfl (Gives.buildA1 rfl Tryd.underlying25 (by kernel_rfl) (by kernel_rfl) rfl rfl rfl) ?_
  refine Wl.val rfl rfl rfl (Gives.buildA1 rfl Tryd.underlying25 (by kernel_rfl) (by kernel_rfl) rfl rfl rfl) ?_
  refine Wl.val rfl rfl rfl (Gives.buildA1 rfl Tryd.underlying25 (by kernel_rfl) (by kernel_rfl) rfl rfl rfl) ?_
  refine Wl.val rfl rfl rfl (Gives.buildA1 rfl Tryd.underlying25 (by kernel_rfl) (by kernel_rfl) rfl rfl rfl) ?_
  refine Wl.val rfl rfl rfl (Gives.buildA1 rfl Tryd.underlying25 (by kernel_rfl) (by kernel_rfl) rfl rfl rfl) ?_
  refine Wl.val rfl rfl rfl (Gives.buildA1 rfl Tryd.underlying25 (by kernel_rfl) (by kernel_rfl) rfl rfl rfl) ?_
  refine Wl.val rfl rfl rfl (Gives.buildA1 rfl Tryd.underlying25 (by kernel_rfl) (by kernel_rfl) rfl rfl rfl) ?_
  refine Wl.val rfl rfl rfl (Gives.buildA1 rfl Tryd.underlying25 (by kernel_rfl) (by kernel_rfl) rfl rfl rfl) ?_
  refine Wl.val rfl rfl rfl (Gives.buildA1 rfl Tryd.underlying25 (by kernel_rfl) (by kernel_rfl) rfl rfl rfl) ?_
  refine Wl.val rfl rfl rfl (Gives.buildA1 rfl Tryd.underlying25 (by kernel_rfl) (by kernel_rfl) rfl rfl rfl) ?_
  refine Wl.val rfl rfl rfl (Gives.buildA1 rfl Tryd.underlying25 (by kernel_rfl) (by kernel_rfl) rfl rfl rfl) ?_
  refine Wl.val rfl rfl rfl (Gives.buildA1 rfl Tryd.underlying25 (by kernel_rfl) (by kernel_rfl) rfl rfl rfl) ?_
  refine Wl.val rfl rfl rfl (Gives.buildA1 rfl Tryd.underlying25 (by kernel_rfl) (by kernel_rfl) rfl rfl rfl) ?_
  refine Wl.val rfl rfl rfl (Gives.buildA1 rfl Tryd.underlying25 (by kernel_rfl) (by kernel_rfl) rfl rfl rfl) ?_
  refine Wl.val rfl rfl rfl (Gives.buildA1 rfl Tryd.underlying25 (by kernel_rfl) (by kernel_rfl) rfl rfl rfl) ?_
  refine Wl.val rfl rfl rfl (Gives.buildA1 rfl Tryd.underlying25 (by kernel_rfl) (by kernel_rfl) rfl rfl rfl) ?_
  refine Wl.val rfl rfl rfl (Gives.buildA1 rfl Tryd.underlying25 (by kernel_rfl) (by kernel_rfl) rfl rfl rfl) ?_
  refine Wl.val rfl rfl rfl (Gives.buildA1 rfl Tryd.underlying25 (by kernel_rfl) (by kernel_rfl) rfl rfl rfl) ?_
  refine Wl.val rfl rfl rfl (Gives.buildA1 rfl Tryd.underlying25 (by kernel_rfl) (by kernel_rfl) rfl rfl rfl) ?_
  refine Wl.val rfl rfl rfl (Gives.buildA1 rfl Tryd.underlying25 (by kernel_rfl) (by kernel_rfl) rfl rfl rfl) ?_
  refine Wl.val rfl rfl rfl (Gives.buildA1 rfl Tryd.underlying25 (by kernel_rfl) (by kernel_rfl) rfl rfl rfl) ?_
  refine Wl.val rfl rfl rfl (Gives.buildA1 rfl Tryd.underlying25 (by kernel_rfl) (by kernel_rfl) rfl rfl rfl) ?_
  refine Wl.val rfl rfl rfl (Gives.buildA1 rfl Tryd.underlying25 (by kernel_rfl) (by kernel_rfl) rfl rfl rfl) ?_
  refine Wl.val rfl rfl rfl (Gives.buildA1 rfl Tryd.underlying25 (by kernel_rfl) (by kernel_rfl) rfl rfl rfl) ?_
  refine Wl.val rfl rfl rfl (Gives.buildA1 rfl Tryd.underlying25 (by kernel_rfl) (by kernel_rfl) rfl rfl rfl) ?_
  refine Wl.val rfl rfl rfl (Gives.buildA1 rfl Tryd.underlying25 (by kernel_rfl) (by kernel_rfl) rfl rfl rfl) ?_
  refine Wl.val rfl rfl rfl (Gives.buildA1 rfl Tryd.underlying25 (by kernel_rfl) (by kernel_rfl) rfl rfl rfl) ?_
  refine Wl.val rfl rfl rfl (Gives.buildA1 rfl Tryd.underlying25 (by kernel_rfl) (by kernel_rfl) rfl rfl rfl) ?_
  refine Wl.val rfl rfl rfl (Gives.buildA1 rfl Tryd.underlying25 (by kernel_rfl) (by kernel_rfl) rfl rfl rfl) ?_
  refine Wl.val rfl rfl rfl (Gives.buildA (cs := rowsL.toArray) (sz := 4) (zv := zShapes) rfl Tryd.underlying66 (by kernel_rfl) (by kernel_rfl) rfl (by kernel_rfl)) ?_
  refine Wl.acts rfl rfl (Does.stL (vs := rowsL) 136 rfl rfl rfl hb0 (by kernel_rfl) rfl rfl rfl) ?_
  rintro _ w1_35 ⟨hbn, hF1_35⟩
  replace hE := Ext.over hE hF1_35 hg0
  replace hb0 := hbn
  clear hbn
  refine Wl.nil ?_
  refine Wx.thenN (hK2 _ _ ?_)
  refine Wc.ret ?_
  refine Wx.ret [_] ⟨⟨_, rfl, res_blk hb0 Tryd.underlying66 rfl (by kernel_rfl)⟩, trivial⟩ ?_
  exact ⟨rfl, hE⟩
theorem rowsL_eq : rowsL = shapeRows.flatMap rowCells := by kernel_rfl
/-- the row of a code -/
def sT (k : Nat) : Shp := shapeRows.getD k noShp
theorem sT_at (k : Nat) (h : k < 34) : shapeRows[k]? = some (sT k) := by
  have hl : shapeRows.length = 34 := rfl
  unfold sT
  simp [List.getD, List.getElem?_eq_getElem (show k < shapeRows.length by omega)]
theorem sT_row (k : Nat) (h : k < 34) : (rowsL.drop (k * 4)).take 4 = rowCells (sT k) := by
  rw [rowsL_eq]; exact flat_at rowCells 4 (fun _ => rfl) shapeRows k _ (sT_at k h)
theorem sT_cell (k j : Nat) (h : k < 34) (hj : j < 4) : rowsL[k * 4 + j]? = (rowCells (sT k))[j]? := by
  rw [← sT_row k h, List.getElem?_take, if_pos hj, List.getElem?_drop]
theorem sT_not (k : Nat) (h : k < 34) : (sT k).ok = false → sT k = noShp := by
  have key : ∀ k < 34, (sT k).ok = false → sT k = noShp := by decide
  exact key k h
theorem sT_h (k : Nat) (h : k < 34) : rowH (sT k) = -2 ↔ (sT k).ok = false := by
  have key : ∀ k < 34, (rowH (sT k) = -2 ↔ (sT k).ok = false) := by decide
  exact key k h
theorem shapeS_out {code : Int} (h : code < 0 ∨ 34 ≤ code) : shapeS code = noShp := by unfold shapeS; rw [if_neg (by omega)]
theorem shapeS_in (k : Nat) (h : k < 34) : shapeS (k : Int) = sT k := by unfold shapeS sT; rw [if_pos (by omega), Int.toNat_natCast]
def shpR (s : Shp) : Value := .tuple #[.agg #[.int .i64 s.h, .int .i64 s.a, .int .i64 s.i, .int .i64 s.b], .bool s.ok]
theorem shpR_eq {s : Shp} {a : Value} (h : a = shpR s) : Ending.returned a = .returned (shpR s) := by rw [h]
set_option maxRecDepth 10000 in
theorem shapeR_calls (w : World) (code : Int) :
    Calls Tryd.prog 12 #[.int .i64 code] w fun e w' => e = .returned (shpR (shapeS code)) ∧ Ext w w' := by
  refine calls_enter Tryd.func12 rfl Tryd.ntmps12 rfl ?_
  have hE : Ext w w := Ext.refl w
  refine Wc.seq (fun K1 hK1 => ?_)
  refine Wc.keep [(0, _)] (.cons rfl (.nil)) ?_
  refine Wc.region ?_
  refine Wl.does rfl rfl rfl (Does.alB (.agg #[(.int .i64 0), (.int .i64 0), (.int .i64 0), (.int .i64 0)]) rfl (by kernel_rfl) rfl) ?_
  rintro _ w0_0 ⟨b2, rfl, hs2, hb2, hx0_0⟩
  have hg2 : w.heap.size ≤ b2 := Nat.le_trans hE.size hs2
  replace hE := hE.trans hx0_0
  refine Wl.val rfl rfl rfl (Gives.assign rfl rfl) ?_
  refine Wl.nil ?_
  refine Wx.thenN (hK1 _ _ ?_)
  refine Wc.seq (fun K2 hK2 => ?_)
  refine Wc.keep [(0, _), (2, _)] (.cons rfl (.cons rfl (.nil))) ?_
  refine Wc.region ?_
  refine Wl.call rfl rfl rfl rfl Tryd.func30 rfl (by kernel_rfl) rfl (shapes_calls _) ?_
  rintro x1 w11 ⟨rfl, hx1⟩
  refine ⟨_, rfl, ?_⟩
  replace hb2 := hb2.ext hx1
  replace hE := hE.trans hx1
  refine Wl.does rfl rfl rfl (Does.alB (.agg #[(.int .i64 0), (.int .i64 0), (.int .i64 0), (.int .i64 0), (.int .i64 0), (.int .i64 0), (.int .i64 0), (.int .i64 0), (.int .i64 0), (.int .i64 0), (.int .i64 0), (.int .i64 0), (.int .i64 0), (.int .i64 0), (.int .i64 0), (.int .i64 0), (.int .i64 0), (.int .i64 0), (.int .i64 0), (.int .i64 0), (.int .i64 0), (.int .i64 0), (.int .i64 0), (.int .i64 0), (.int .i64 0), (.int .i64 0), (.int .i64 0), (.int .i64 0), (.int .i64 0), (.int .i64 0), (.int .i64 0), (.int .i64 0), (.int .i64 0), (.int .i64 0), (.int .i64 0), (.int .i64 0), (.int .i64 0), (.int .i64 0), (.int .i64 0), (.int .i64 0), (.int .i64 0), (.int .i64 0), (.int .i64 0), (.int .i64 0), (.int .i64 0), (.int .i64 0), (.int .i64 0), (.int .i64 0), (.int .i64 0), (.int .i64 0), (.int .i64 0), (.int .i64 0), (.int .i64 0), (.int .i64 0), (.int .i64 0), (.int .i64 0), (.int .i64 0), (.int .i64 0), (.int .i64 0), (.int .i64 0), (.int .i64 0), (.int .i64 0), (.int .i64 0), (.int .i64 0), (.int .i64 0), (.int .i64 0), (.int .i64 0), (.int .i64 0), (.int .i64 0), (.int .i64 0), (.int .i64 0), (.int .i64 0), (.int .i64 0), (.int .i64 0), (.int .i64 0), (.int .i64 0), (.int .i64 0), (.int .i64 0), (.int .i64 0), (.int .i64 0), (.int .i64 0), (.int .i64 0), (.int .i64 0), (.int .i64 0), (.int .i64 0), (.int .i64 0), (.int .i64 0), (.int .i64 0), (.int .i64 0), (.int .i64 0), (.int .i64 0), (.int .i64 0), (.int .i64 0), (.int .i64 0), (.int .i64 0), (.int .i64 0), (.int .i64 0), (.int .i64 0), (.int .i64 0), (.int .i64 0), (.int .i64 0), (.int .i64 0), (.int .i64 0), (.int .i64 0), (.int .i64 0), (.int .i64 0), (.int .i64 0), (.int .i64 0), (.int .i64 0), (.int .i64 0), (.int .i64 0), (.int .i64 0), (.int .i64 0), (.int .i64 0), (.int .i64 0), (.int .i64 0), (.int .i64 0), (.int .i64 0), (.int .i64 0), (.int .i64 0), (.int .i64 0), (.int .i64 0), (.int .i64 0), (.int .i64 0), (.int .i64 0), (.int .i64 0), (.int .i64 0), (.int .i64 0), (.int .i64 0), (.int .i64 0), (.int .i64 0), (.int .i64 0), (.int .i64 0), (.int .i64 0), (.int .i64 0), (.int .i64 0)]) rfl (by kernel_rfl) rfl) ?_
  rintro _ w1_1 ⟨b4, rfl, hs4, hb4, hx1_1⟩
  have hn2_4 : b2 ≠ b4 := hb2.ne hs4
  have hg4 : w.heap.size ≤ b4 := Nat.le_trans hE.size hs4
  replace hb2 := hb2.ext hx1_1
  replace hE := hE.trans hx1_1
  refine Wl.acts rfl rfl (Does.stL (vs := rowsL) 136 rfl rfl rfl hb4 (by kernel_rfl) rfl rfl rfl) ?_
  rintro _ w1_2 ⟨hbn, hF1_2⟩
  replace hb2 := hb2.fr hF1_2 (by first | assumption | exact Ne.symm (by assumption))
  replace hE := Ext.over hE hF1_2 hg4
  replace hb4 := hbn
  clear hbn
  refine Wl.nil ?_
  refine Wx.thenN (hK2 _ _ ?_)
  refine Wc.seq (fun K3 hK3 => ?_)
  refine Wc.seq (fun K4 hK4 => ?_)
  refine Wc.keep [(0, _), (2, _), (4, _)] (.cons rfl (.cons rfl (.cons rfl (.nil)))) ?_
  refine Wc.region ?_
  refine Wl.val rfl rfl rfl (Gives.move rfl rfl) ?_
  refine Wl.val rfl rfl rfl (Gives.lss rfl rfl rfl) ?_
  refine Wl.val rfl rfl rfl (Gives.move rfl rfl) ?_
  refine Wl.guard rfl rfl rfl (fun h8 => ?_) (fun h8 => ?_)
  · (first | replace h8 := of_decide_eq_false h8 | replace h8 := nd_false h8 | skip)
    refine Wl.val rfl rfl rfl (Gives.move rfl rfl) ?_
    refine Wl.val rfl rfl rfl (Gives.geq rfl rfl rfl) ?_
    refine Wl.val rfl rfl rfl (Gives.pickF rfl rfl rfl rfl) ?_
    refine Wl.val rfl rfl rfl (Gives.move rfl rfl) ?_
    refine Wl.guard rfl rfl rfl (fun h12 => ?_) (fun h12 => ?_)
    · (first | replace h12 := of_decide_eq_false h12 | replace h12 := nd_false h12 | skip)
      obtain ⟨k, rfl⟩ := Int.eq_ofNat_of_zero_le (show 0 ≤ code by omega)
      have hk : k < 34 := by omega
      refine Wl.val rfl rfl rfl (Gives.move rfl rfl) ?_
      refine Wl.val rfl rfl rfl (Gives.ixAZ (i := k) (sz := 4) rfl Tryd.underlying66 (by kernel_rfl) rfl rfl rfl hk (by decide)) ?_
      refine Wl.val rfl rfl rfl (Gives.ixA (i := 0) rfl Tryd.underlying25 (by kernel_rfl) rfl rfl rfl (by decide)) ?_
      refine Wl.val rfl rfl rfl (Gives.ldC rfl (by kernel_rfl) rfl ((hb4.cell _).trans (by simp only [Nat.zero_add, List.getElem?_toArray]; exact sT_cell k 0 hk (by decide)))) ?_
      refine Wl.val rfl rfl rfl (Gives.eql rfl rfl rfl) ?_
      refine Wl.val rfl rfl rfl (Gives.pickF rfl rfl rfl rfl) ?_
      refine Wl.nil ?_
      refine Wx.thenN (hK4 _ _ ?_)
      refine Wc.cond _ rfl (fun h18 => ?_) (fun h18 => ?_)
      · (first | replace h18 := of_decide_eq_true h18 | replace h18 := nd_true h18 | skip)
        refine Wc.seq (fun K5 hK5 => ?_)
        refine Wc.keep [(2, _)] (.cons rfl (.nil)) ?_
        refine Wc.region ?_
        refine Wl.val rfl rfl rfl (Gives.buildA (sz := 1) (zv := (.agg #[(.int .i64 0), (.int .i64 0), (.int .i64 0), (.int .i64 0)])) rfl Tryd.underlying25 (by kernel_rfl) (by kernel_rfl) rfl rfl) ?_
        refine Wl.acts rfl rfl (Does.stL 4 rfl rfl rfl hb2 (by kernel_rfl) rfl rfl rfl) ?_
        rintro _ w3_1 ⟨hbn, hF3_1⟩
        replace hb4 := hb4.fr hF3_1 (by first | assumption | exact Ne.symm (by assumption))
        replace hE := Ext.over hE hF3_1 hg2
        replace hb2 := hbn
        clear hbn
        refine Wl.val rfl rfl rfl (Gives.assign rfl rfl) ?_
        refine Wl.nil ?_
        refine Wx.thenN (hK5 _ _ ?_)
        refine Wc.ret ?_
        refine Wx.thenR ?_
        refine Wx.ret [_, _] ⟨⟨_, rfl, res_blk hb2 Tryd.underlying25 rfl (by kernel_rfl)⟩, ⟨rfl, trivial⟩⟩ ?_
        have h18' : rowH (sT k) = -2 := h18
        exact ⟨shpR_eq (by rw [shapeS_in k hk, sT_not k hk ((sT_h k hk).1 h18')]; rfl), hE⟩
      · (first | replace h18 := of_decide_eq_false h18 | replace h18 := nd_false h18 | skip)
        refine Wc.skip ?_
        refine Wx.thenN (hK3 _ _ ?_)
        refine Wc.seq (fun K6 hK6 => ?_)
        refine Wc.keep [(0, _), (2, _), (4, _)] (.cons rfl (.cons rfl (.cons rfl (.nil)))) ?_
        refine Wc.region ?_
        refine Wl.val rfl rfl rfl (Gives.move rfl rfl) ?_
        refine Wl.val rfl rfl rfl (Gives.ixAZ (i := k) (sz := 4) rfl Tryd.underlying66 (by kernel_rfl) rfl rfl rfl hk (by decide)) ?_
        refine Wl.val rfl rfl rfl (Gives.ldM (cs := rowCells (sT k)) rfl (by kernel_rfl) rfl (fun j v hv => (hb4.cell _).trans (by have hj : j < 4 := (List.getElem?_eq_some_iff.1 hv).1; simp only [Nat.zero_add, List.getElem?_toArray]; exact (sT_cell k j hk hj).trans hv)) (by kernel_rfl)) ?_
        refine Wl.acts rfl rfl (Does.stL 4 rfl rfl rfl hb2 (by kernel_rfl) rfl rfl rfl) ?_
        rintro _ w4_3 ⟨hbn, hF4_3⟩
        replace hb4 := hb4.fr hF4_3 (by first | assumption | exact Ne.symm (by assumption))
        replace hE := Ext.over hE hF4_3 hg2
        replace hb2 := hbn
        clear hbn
        refine Wl.val rfl rfl rfl (Gives.assign rfl rfl) ?_
        refine Wl.nil ?_
        refine Wx.thenN (hK6 _ _ ?_)
        refine Wc.ret ?_
        refine Wx.ret [_, _] ⟨⟨_, rfl, res_blk hb2 Tryd.underlying25 rfl (by kernel_rfl)⟩, ⟨rfl, trivial⟩⟩ ?_
        have h18' : rowH (sT k) ≠ -2 := h18
        have hok : (sT k).ok = true := by
          cases h : (sT k).ok with
          | true => rfl
          | false => exact absurd ((sT_h k hk).2 h) h18'
        refine ⟨shpR_eq ?_, hE⟩
        rw [shapeS_in k hk]
        unfold shpR rowCells rowH
        rw [hok]
        rfl
    · (first | replace h12 := of_decide_eq_true h12 | replace h12 := nd_true h12 | skip)
      refine Wl.pass rfl rfl rfl ?_
      refine Wl.pass rfl rfl rfl ?_
      refine Wl.pass rfl rfl rfl ?_
      refine Wl.pass rfl rfl rfl ?_
      refine Wl.pass rfl rfl rfl ?_
      refine Wl.val rfl rfl rfl (Gives.pickT rfl rfl rfl rfl) ?_
      refine Wl.nil ?_
      refine Wx.thenN (hK4 _ _ ?_)
      refine Wc.condT rfl rfl ?_
      refine Wc.seq (fun K7 hK7 => ?_)
      refine Wc.keep [(2, _)] (.cons rfl (.nil)) ?_
      refine Wc.region ?_
      refine Wl.val rfl rfl rfl (Gives.buildA (sz := 1) (zv := (.agg #[(.int .i64 0), (.int .i64 0), (.int .i64 0), (.int .i64 0)])) rfl Tryd.underlying25 (by kernel_rfl) (by kernel_rfl) rfl rfl) ?_
      refine Wl.acts rfl rfl (Does.stL 4 rfl rfl rfl hb2 (by kernel_rfl) rfl rfl rfl) ?_
      rintro _ w3_1 ⟨hbn, hF3_1⟩
      replace hb4 := hb4.fr hF3_1 (by first | assumption | exact Ne.symm (by assumption))
      replace hE := Ext.over hE hF3_1 hg2
      replace hb2 := hbn
      clear hbn
      refine Wl.val rfl rfl rfl (Gives.assign rfl rfl) ?_
      refine Wl.nil ?_
      refine Wx.thenN (hK7 _ _ ?_)
      refine Wc.ret ?_
      refine Wx.thenR ?_
      refine Wx.ret [_, _] ⟨⟨_, rfl, res_blk hb2 Tryd.underlying25 rfl (by kernel_rfl)⟩, ⟨rfl, trivial⟩⟩ ?_
      exact ⟨shpR_eq (by rw [shapeS_out (by omega)]; rfl), hE⟩
  · (first | replace h8 := of_decide_eq_true h8 | replace h8 := nd_true h8 | skip)
    refine Wl.pass rfl rfl rfl ?_
    refine Wl.pass rfl rfl rfl ?_
    refine Wl.val rfl rfl rfl (Gives.pickT rfl rfl rfl rfl) ?_
    refine Wl.val rfl rfl rfl (Gives.move rfl rfl) ?_
    refine Wl.guardF rfl rfl rfl rfl ?_
    refine Wl.pass rfl rfl rfl ?_
    refine Wl.pass rfl rfl rfl ?_
    refine Wl.pass rfl rfl rfl ?_
    refine Wl.pass rfl rfl rfl ?_
    refine Wl.pass rfl rfl rfl ?_
    refine Wl.val rfl rfl rfl (Gives.pickT rfl rfl rfl rfl) ?_
    refine Wl.nil ?_
    refine Wx.thenN (hK4 _ _ ?_)
    refine Wc.condT rfl rfl ?_
    refine Wc.seq (fun K8 hK8 => ?_)
    refine Wc.keep [(2, _)] (.cons rfl (.nil)) ?_
    refine Wc.region ?_
    refine Wl.val rfl rfl rfl (Gives.buildA (sz := 1) (zv := (.agg #[(.int .i64 0), (.int .i64 0), (.int .i64 0), (.int .i64 0)])) rfl Tryd.underlying25 (by kernel_rfl) (by kernel_rfl) rfl rfl) ?_
    refine Wl.acts rfl rfl (Does.stL 4 rfl rfl rfl hb2 (by kernel_rfl) rfl rfl rfl) ?_
    rintro _ w3_1 ⟨hbn, hF3_1⟩
    replace hb4 := hb4.fr hF3_1 (by first | assumption | exact Ne.symm (by assumption))
    replace hE := Ext.over hE hF3_1 hg2
    replace hb2 := hbn
    clear hbn
    refine Wl.val rfl rfl rfl (Gives.assign rfl rfl) ?_
    refine Wl.nil ?_
    refine Wx.thenN (hK8 _ _ ?_)
    refine Wc.ret ?_
    refine Wx.thenR ?_
    refine Wx.ret [_, _] ⟨⟨_, rfl, res_blk hb2 Tryd.underlying25 rfl (by kernel_rfl)⟩, ⟨rfl, trivial⟩⟩ ?_
    exact ⟨shpR_eq (by rw [shapeS_out (by omega)]; rfl), hE⟩
end Go.Proofs.YtaekpiejdgahfaaDoor
