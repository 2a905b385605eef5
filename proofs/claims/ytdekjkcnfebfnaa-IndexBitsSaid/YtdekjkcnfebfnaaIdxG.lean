/- Indices: what the statements write before they ask. -/
import Derived.Test.YtdekjkcnfebfnaaIdxB2
import Derived.Test.YtdekjkcnfebfnaaIdxE
import Derived.Test.YtdekjkcnfebfnaaIdxN2
import Derived.Test.YtdekjkcnfebfnaaIdxR
namespace Go.Proofs.Ytdekjkcnfebfnaa
set_option linter.all false
open Go.RowKit
structure IxS where
  x : Ix
  pA : Option Addr
  pn : Nat
  pc : Nat
  aA : Option Addr
  an : Nat
  ac : Nat
  dA : Option Addr
  dn : Nat
  dc : Nat
def GoodI (x : Ix) : Prop := x.data.length ≤ 32 ∧ (x.kind = 3 → x.data.length = 8)
theorem good_zero : GoodI zeroIx := ⟨by simp [zeroIx], fun h => by simp [zeroIx] at h⟩
theorem good_write {x : Ix} (h : GoodI x) (off : Int) (l : List UInt8) : GoodI (writeI' x off l) := by
  unfold writeI'
  split
  · rename_i he
    unfold writeE' at he
    by_cases hk : x.kind = 1
    · rw [if_neg (by simp [hk])] at he
      by_cases hi : insideS x.data.length off l.length = true
      · have hin := insideS_true hi
        refine ⟨?_, fun h3 => ?_⟩
        · simp only; rw [spliceB_len _ _ _ (by omega)]; exact h.1
        · simp only at h3; omega
      · rw [if_neg hi] at he; omega
    · rw [if_pos hk] at he; omega
  · exact good_zero
theorem good_inc {x : Ix} (h : GoodI x) (m : Int) : GoodI (incI' x m) := by
  unfold incI'
  split
  · refine ⟨?_, fun _ => ?_⟩ <;> simp only <;> rw [uintS_8] <;> omega
  · exact good_zero
theorem good_set {x : Ix} (h : GoodI x) (l : List UInt8) : GoodI (setI' x l) := by
  unfold setI'
  split
  · rename_i he
    unfold setE' at he
    by_cases hk : x.kind = 3
    · rw [if_neg (by simp [hk])] at he
      have hl : l.length = 8 := by by_cases h8 : l.length = 8; exact h8; rw [if_pos h8] at he; omega
      have := orL_len x.data l (h.2 hk) hl
      exact ⟨by simp only; omega, fun _ => this⟩
    · rw [if_pos hk] at he; omega
  · exact good_zero
theorem good_ext {x : Ix} (h : GoodI x) (l : List UInt8) : GoodI (extendI' x l) := by
  unfold extendI'
  split
  · rename_i he
    unfold extendE' at he
    by_cases hk : x.kind = 4
    · refine ⟨?_, fun h3 => ?_⟩
      · simp only; rw [sha256S_len]; omega
      · simp only at h3; omega
    · rw [if_pos hk] at he; omega
  · exact good_zero
def szs (i : Nat) : Int := if i = 0 then 20 else if i = 3 then 32 else 8
theorem szs_at (i : Nat) (h : i < 4) : ([Value.int .i64 20, .int .i64 8, .int .i64 8, .int .i64 32].toArray)[i]? = some (.int .i64 (szs i)) := by
  match i, h with
  | 0, _ => rfl
  | 1, _ => rfl
  | 2, _ => rfl
  | 3, _ => rfl
theorem good_new (k : Nat) (hk : k < 4) : GoodI (newI 1 (1 + (k : Int)) 3 (szs k) [] []) := by
  unfold newI
  split
  · match k, hk with
    | 0, _ => exact ⟨by simp [szs], fun h => by simp at h⟩
    | 1, _ => exact ⟨by simp [szs], fun h => by simp at h⟩
    | 2, _ => exact ⟨by simp [szs], fun h => by simp [szs]⟩
    | 3, _ => exact ⟨by simp [szs], fun h => by simp at h⟩
  · exact good_zero
theorem infoI2 : (Try.prog.info? 3).map (fun i => (i.zero, i.size)) = some (some (.int .i64 0), 1) := by kernel_rfl
def WrRes (w : World) (e : Ending) (w' : World) : Prop := ∃ x pA pn pc aA an ac dA dn dc, e = .returned (.agg #[.int .i64 x.n, .int .i64 x.kind, .int .i64 x.attr, .int .i64 x.size, .slice pA pn pc, .slice aA an ac, .bool x.wr, .slice dA dn dc]) ∧ GoodI x ∧ IxV w' (fun _ => True) x pA pn pc aA an ac dA dn dc ∧ Ext w w'
set_option maxRecDepth 20000 in
set_option maxHeartbeats 1000000 in
theorem written_calls {P : Nat → Prop} (w : World) (kind : UInt8) (A : Option Addr) (n c : Nat) (l : List UInt8) (ha : BV w P A n c l) (twice : Bool) :
    Calls Try.prog 15 #[.int .u8 (kind.toNat : Int), .slice A n c, .bool twice] w (WrRes w) := by
  have hk := kind.toNat_lt
  have hl := ha.len
  have hle := ha.le
  refine calls_enter Try.func15 rfl Try.ntmps15 rfl ?_
  have hE : Ext w w := Ext.refl w
  refine Wc.seq (fun K1 hK1 => ?_)
  refine Wc.keep [(0, _), (1, _), (2, _)] (.cons rfl (.cons rfl (.cons rfl (.nil)))) ?_
  refine Wc.region ?_
  refine Wl.does rfl rfl rfl (Does.alB (.agg #[(.int .i64 0), (.int .i64 0), (.int .i64 0), (.int .i64 0), (.slice none 0 0), (.slice none 0 0), (.bool false), (.slice none 0 0)]) rfl (by kernel_rfl) rfl) ?_
  rintro _ w0_0 ⟨b6, rfl, hs6, hb6, hx0_0⟩
  have hg6 : w.heap.size ≤ b6 := Nat.le_trans hE.size hs6
  replace hE := hE.trans hx0_0
  refine Wl.nil ?_
  refine Wx.thenN (hK1 _ _ ?_)
  refine Wc.seq (fun K2 hK2 => ?_)
  refine Wc.keep [(0, _), (1, _), (2, _), (6, _)] (.cons rfl (.cons rfl (.cons rfl (.cons rfl (.nil))))) ?_
  refine Wc.region ?_
  refine Wl.val rfl rfl rfl (Gives.move rfl rfl) ?_
  refine Wl.val rfl rfl rfl (Gives.rem rfl rfl rfl (by omega) (show (kind.toNat : Int).tmod 4 = ((kind.toNat % 4 : Nat) : Int) by rw [Int.tmod_eq_emod_of_nonneg (by omega)]; omega)) ?_
  refine Wl.val rfl rfl rfl (Gives.conv rfl Try.underlying5 Try.underlying3 rfl (by first | exact IntWalk.i64_in _ (by omega) | exact u64_in _ (by omega) | exact u32_in _ (by omega) | exact u8_in _ (by omega) | exact rfl)) ?_
  refine Wl.val rfl rfl rfl (Gives.add rfl rfl rfl (by first | exact IntWalk.i64_in _ (by omega) | exact u64_in _ (by omega) | exact u32_in _ (by omega) | exact u8_in _ (by omega) | exact rfl)) ?_
  refine Wl.does rfl rfl rfl (Does.lit rfl Try.underlying25 infoI2 rfl rfl rfl rfl rfl) ?_
  rintro _ w11 ⟨gz, rfl, hgz, hkz, hxz⟩
  replace hb6 := hb6.ext hxz
  replace hE := hE.trans hxz
  refine Wl.val rfl rfl rfl (Gives.move rfl rfl) ?_
  refine Wl.val rfl rfl rfl (Gives.rem rfl rfl rfl (by omega) (show (kind.toNat : Int).tmod 4 = ((kind.toNat % 4 : Nat) : Int) by rw [Int.tmod_eq_emod_of_nonneg (by omega)]; omega)) ?_
  refine Wl.val rfl rfl rfl (Gives.ixS (i := kind.toNat % 4) rfl Try.underlying25 (by kernel_rfl) rfl rfl (by omega) (by omega)) ?_
  refine Wl.val rfl rfl rfl (Gives.ldC rfl (by kernel_rfl) rfl ((hkz.cell _).trans (by rw [Nat.zero_add]; exact szs_at _ (by omega)))) ?_
  refine Wl.call rfl rfl rfl rfl Try.func13 rfl (by kernel_rfl) rfl (newR_calls (P1 := fun _ => True) (P2 := fun _ => True) _ 1 (1 + ((kind.toNat % 4 : Nat) : Int)) 3 (szs (kind.toNat % 4)) none 0 0 [] (BV.nil_ _ _) none 0 0 [] (BV.nil_ _ _)) ?_
  rintro x1 w12 ⟨x, er, pA, pn, pc, aA, an, ac, dA, dn, dc, rfl, hX0, hI0, hx1⟩
  refine ⟨_, rfl, ?_⟩
  have hG : GoodI x := by rw [hX0.out.1]; exact good_new _ (by omega)
  replace hb6 := hb6.ext hx1
  replace hE := hE.trans hx1
  have hI1 := ((BV.nb0 hI0.1).nbBox hb6 rfl)
  have hI2 := ((BV.nb0 hI0.2.1).nbBox hb6 rfl)
  have hI3 := ((BV.nb0 hI0.2.2).nbBox hb6 rfl)
  refine Wl.val rfl rfl rfl (Gives.move rfl rfl) ?_
  refine Wl.val rfl rfl rfl (Gives.extract rfl rfl rfl) ?_
  refine Wl.val rfl rfl rfl (Gives.extract rfl rfl rfl) ?_
  refine Wl.does rfl rfl rfl (Does.alB (.agg #[(.int .i64 0), (.int .i64 0), (.int .i64 0), (.int .i64 0), (.slice none 0 0), (.slice none 0 0), (.bool false), (.slice none 0 0)]) rfl (by kernel_rfl) rfl) ?_
  rintro _ w1_13 ⟨b7, rfl, hs7, hb7, hx1_13⟩
  have hn6_7 : b6 ≠ b7 := hb6.ne hs7
  replace hI1 := hI1.nbCons hs7
  replace hI2 := hI2.nbCons hs7
  replace hI3 := hI3.nbCons hs7
  have hg7 : w.heap.size ≤ b7 := Nat.le_trans hE.size hs7
  replace hb6 := hb6.ext hx1_13
  replace hI1 := hI1.ext hx1_13
  replace hI2 := hI2.ext hx1_13
  replace hI3 := hI3.ext hx1_13
  replace hE := hE.trans hx1_13
  refine Wl.acts rfl rfl (Does.stL 8 rfl rfl rfl hb7 (by kernel_rfl) rfl rfl rfl) ?_
  rintro _ w1_14 ⟨hbn, hF1_14⟩
  replace hb6 := hb6.fr hF1_14 (by first | assumption | exact Ne.symm (by assumption))
  replace hI1 := hI1.fr (hF1_14.mono (fun k h => h.1))
  replace hI2 := hI2.fr (hF1_14.mono (fun k h => h.1))
  replace hI3 := hI3.fr (hF1_14.mono (fun k h => h.1))
  replace hE := Ext.over hE hF1_14 hg7
  replace hb7 := hbn
  clear hbn
  refine Wl.val rfl rfl rfl (Gives.assign rfl rfl) ?_
  refine Wl.nil ?_
  refine Wx.thenN (hK2 _ _ ?_)
  refine Wc.seq (fun K3 hK3 => ?_)
  refine Wc.seq (fun K4 hK4 => ?_)
  refine Wc.keep [(1, _), (2, _), (6, _), (7, _)] (.cons rfl (.cons rfl (.cons rfl (.cons rfl (.nil))))) ?_
  refine Wc.region ?_
  refine Wl.val rfl rfl rfl (Gives.assign rfl rfl) ?_
  refine Wl.nil ?_
  refine Wx.thenN (hK4 _ _ ?_)
  refine Wc.block ?_
  refine Wc.keep [(1, _), (2, _), (6, _), (7, _), (9, _)] (.cons rfl (.cons rfl (.cons rfl (.cons rfl (.cons rfl (.nil)))))) ?_
  refine Wc.loopC (ι := Nat × IxS) [(1, _), (2, _), (6, _), (7, _)] (fun | (i, _) => [(9, .int .i64 (i : Int))]) (fun | (i, s), wr => i ≤ 2 ∧ GoodI s.x ∧ IxV wr (NB [b7, b6]) s.x s.pA s.pn s.pc s.aA s.an s.ac s.dA s.dn s.dc ∧ Blk wr b7 28 #[.int .i64 s.x.n, .int .i64 s.x.kind, .int .i64 s.x.attr, .int .i64 s.x.size, .slice s.pA s.pn s.pc, .slice s.aA s.an s.ac, .bool s.x.wr, .slice s.dA s.dn s.dc] ∧ Blk wr b6 28 #[.int .i64 0, .int .i64 0, .int .i64 0, .int .i64 0, .slice none 0 0, .slice none 0 0, .bool false, .slice none 0 0] ∧ Ext w wr) (fun | (i, _) => 2 - i) ((0, ⟨x, pA, pn, pc, aA, an, ac, dA, dn, dc⟩)) (.cons (by first | exact rfl | exact look_int rfl (by omega) | exact look_slice rfl (by omega)) (.cons rfl (.cons rfl (.cons rfl (.cons rfl (.nil)))))) (⟨by omega, hG, ⟨hI1, hI2, hI3⟩, hb7, hb6, hE⟩) ?_
  intro ⟨i, x, pA, pn, pc, aA, an, ac, dA, dn, dc⟩ wr hJ KL1 hKL1
  clear hG hI1 hI2 hI3 hb7 hb6 hE
  obtain ⟨hi, hG, ⟨hI1, hI2, hI3⟩, hb7, hb6, hE⟩ := hJ
  replace hG : GoodI x := hG
  have hdl : x.data.length = dn := hI3.len
  have hd32 : x.data.length ≤ 32 := hG.1
  refine Wc.seq (fun K5 hK5 => ?_)
  refine Wc.seq (fun K6 hK6 => ?_)
  refine Wc.keep [(1, _), (2, _), (6, _), (7, _), (9, _)] (.cons rfl (.cons rfl (.cons rfl (.cons rfl (.cons rfl (.nil)))))) ?_
  refine Wc.region ?_
  refine Wl.val rfl rfl rfl (Gives.move rfl rfl) ?_
  refine Wl.val rfl rfl rfl (Gives.lss rfl rfl rfl) ?_
  refine Wl.val rfl rfl rfl (Gives.move rfl rfl) ?_
  refine Wl.guard rfl rfl rfl (fun h25 => ?_) (fun h25 => ?_)
  · (first | replace h25 := of_decide_eq_true h25 | replace h25 := nd_true h25 | skip)
    refine Wl.val rfl rfl rfl (Gives.move rfl rfl) ?_
    refine Wl.val rfl rfl rfl (Gives.lenS rfl Try.underlying22 rfl) ?_
    refine Wl.val rfl rfl rfl (Gives.gtr rfl rfl rfl) ?_
    refine Wl.val rfl rfl rfl (Gives.pickT rfl rfl rfl rfl) ?_
    refine Wl.nil ?_
    refine Wx.thenN (hK6 _ _ ?_)
    refine Wc.cond _ rfl (fun h29 => ?_) (fun h29 => ?_)
    · (first | replace h29 := of_decide_eq_true h29 | replace h29 := nd_true h29 | skip)
      refine Wc.skip ?_
      refine Wx.thenN (hK5 _ _ ?_)
      refine Wc.seq (fun K7 hK7 => ?_)
      refine Wc.block ?_
      refine Wc.joinC (ι := IxS) [(1, _), (2, _), (6, _), (7, _), (9, _)] (fun _ => []) (fun s wr => GoodI s.x ∧ IxV wr (NB [b7, b6]) s.x s.pA s.pn s.pc s.aA s.an s.ac s.dA s.dn s.dc ∧ Blk wr b7 28 #[.int .i64 s.x.n, .int .i64 s.x.kind, .int .i64 s.x.attr, .int .i64 s.x.size, .slice s.pA s.pn s.pc, .slice s.aA s.an s.ac, .bool s.x.wr, .slice s.dA s.dn s.dc] ∧ Blk wr b6 28 #[.int .i64 0, .int .i64 0, .int .i64 0, .int .i64 0, .slice none 0 0, .slice none 0 0, .bool false, .slice none 0 0] ∧ Ext w wr) ?_ ?_ (.cons rfl (.cons rfl (.cons rfl (.cons rfl (.cons rfl (.nil))))))
      · intro K8 hJ8
        refine Wc.seq (fun K9 hK9 => ?_)
        refine Wc.keep [(1, _), (2, _), (6, _), (7, _), (9, _)] (.cons rfl (.cons rfl (.cons rfl (.cons rfl (.cons rfl (.nil)))))) ?_
        refine Wc.region ?_
        refine Wl.val rfl rfl rfl (Gives.fieldAt 1 rfl Try.underlying28 rfl (by kernel_rfl) rfl rfl) ?_
        refine Wl.val rfl rfl rfl (Gives.ldK rfl (by kernel_rfl) rfl hb7 rfl) ?_
        refine Wl.nil ?_
        refine Wx.thenN (hK9 _ _ ?_)
        refine Wc.block ?_
        refine Wc.seq (fun K10 hK10 => ?_)
        refine Wc.keep [(1, _), (2, _), (6, _), (7, _), (9, _), (33, _)] (.cons rfl (.cons rfl (.cons rfl (.cons rfl (.cons rfl (.cons rfl (.nil))))))) ?_
        refine Wc.region ?_
        refine Wl.val rfl rfl rfl (Gives.eql rfl rfl rfl) ?_
        refine Wl.val rfl rfl rfl (Gives.assign rfl rfl) ?_
        refine Wl.nil ?_
        refine Wx.thenN (hK10 _ _ ?_)
        refine Wc.cond _ rfl (fun h41 => ?_) (fun h41 => ?_)
        · (first | replace h41 := of_decide_eq_true h41 | replace h41 := nd_true h41 | skip)
          refine Wc.keep [(1, _), (2, _), (6, _), (7, _), (9, _)] (.cons rfl (.cons rfl (.cons rfl (.cons rfl (.cons rfl (.nil)))))) ?_
          refine Wc.regionB (fun q => [0, 3].contains q) [] (.read 0 (.read 1 (.read 2 (.call true 3 (.read 4 (.read 5 (.read 6 (.call true 7 .tail .none)))) .none)))) 8 (by kernel_rfl) (by kernel_rfl) (by kernel_rfl) ?_
          intro w8 hR8
          replace hb6 := hb6.ext hR8.ext
          replace hb7 := hb7.ext hR8.ext
          replace hI1 := hI1.ext hR8.ext
          replace hI2 := hI2.ext hR8.ext
          replace hI3 := hI3.ext hR8.ext
          replace hE := hE.trans hR8.ext
          have hO8_6 : Old w8.heap.size [] b6 := ⟨hb6.lt, trivial⟩
          have hO8_7 : Old w8.heap.size [] b7 := ⟨hb7.lt, trivial⟩
          have hX := Ext.refl w8
          refine RunE.readM rfl rfl rfl rfl rfl (fun wS hS => (Gives.ldW rfl (by kernel_rfl) rfl ((hb7.ext hX).fr hS hO8_7) (by kernel_rfl))) ?_
          refine RunE.read rfl rfl rfl rfl (fun wS _ => (Gives.move rfl rfl)) ?_
          refine RunE.read rfl rfl rfl rfl (fun wS _ => (Gives.call rfl Try.func28 rfl (by kernel_rfl) rfl (cut_calls _ A n c hle _ (by omega)))) ?_
          refine RunE.freeC rfl rfl rfl rfl rfl Try.func17 rfl (by kernel_rfl) rfl (writeR_calls _ x pA pn pc aA an ac dA dn dc ⟨hI1.ext hX, hI2.ext hX, hI3.ext hX⟩ (by omega) 0 A (min n 20) c (l.take 20) ((ha.ext (hE.trans hX)).cutS 20) (by omega)) ?_ RunE.none
          rintro x9 w9 ⟨y, ye, qA, qn, qc, bA, bn, bc, fA, fn, fc, rfl, hY, hJ, hy⟩
          refine ⟨_, rfl, ?_⟩
          replace hX := hX.trans hy
          have hJ1 := (((BV.nb0 hJ.1).nbBox (hb6.ext hX) rfl).nbBox (hb7.ext hX) rfl)
          have hJ2 := (((BV.nb0 hJ.2.1).nbBox (hb6.ext hX) rfl).nbBox (hb7.ext hX) rfl)
          have hJ3 := (((BV.nb0 hJ.2.2).nbBox (hb6.ext hX) rfl).nbBox (hb7.ext hX) rfl)
          have hGy : GoodI y := by rw [hY.out.1]; exact good_write hG _ _
          refine RunE.read rfl rfl rfl rfl (fun wS _ => (Gives.move rfl rfl)) ?_
          refine RunE.read rfl rfl rfl rfl (fun wS _ => (Gives.extract rfl rfl rfl)) ?_
          refine RunE.read rfl rfl rfl rfl (fun wS _ => (Gives.extract rfl rfl rfl)) ?_
          replace hb6 := hb6.ext hX
          replace hb7 := hb7.ext hX
          replace hI1 := hI1.ext hX
          replace hI2 := hI2.ext hX
          replace hI3 := hI3.ext hX
          replace hE := hE.trans hX
          refine RunE.freeN rfl rfl rfl (Does.stL 8 rfl rfl rfl hb7 (by kernel_rfl) rfl rfl rfl) ?_ RunE.none
          rintro _ w8_7 ⟨hbn, hF8_7⟩
          replace hb6 := hb6.fr hF8_7 (by first | assumption | exact Ne.symm (by assumption))
          replace hI1 := hI1.fr (hF8_7.mono (fun k h => h.1))
          replace hI2 := hI2.fr (hF8_7.mono (fun k h => h.1))
          replace hI3 := hI3.fr (hF8_7.mono (fun k h => h.1))
          replace hJ1 := hJ1.fr (hF8_7.mono (fun k h => h.1))
          replace hJ2 := hJ2.fr (hF8_7.mono (fun k h => h.1))
          replace hJ3 := hJ3.fr (hF8_7.mono (fun k h => h.1))
          replace hE := Ext.over hE hF8_7 hg7
          replace hb7 := hbn
          clear hbn
          replace hX := Ext.refl w8_7
          refine RunE.tail rfl ?_
          replace hb6 := hb6.ext hX
          replace hb7 := hb7.ext hX
          replace hI1 := hI1.ext hX
          replace hI2 := hI2.ext hX
          replace hI3 := hI3.ext hX
          replace hJ1 := hJ1.ext hX
          replace hJ2 := hJ2.ext hX
          replace hJ3 := hJ3.ext hX
          replace hE := hE.trans hX
          refine Wl.nil ?_
          refine Wx.blockN ?_
          refine Wx.thenN ?_
          refine hJ8 ⟨y, qA, qn, qc, bA, bn, bc, fA, fn, fc⟩ _ _ (.cons rfl (.cons rfl (.cons rfl (.cons rfl (.cons rfl (.nil)))))) ⟨hGy, ⟨hJ1, hJ2, hJ3⟩, hb7, hb6, hE⟩
        · (first | replace h41 := of_decide_eq_false h41 | replace h41 := nd_false h41 | skip)
          refine Wc.seq (fun K11 hK11 => ?_)
          refine Wc.keep [(1, _), (2, _), (6, _), (7, _), (9, _), (33, _)] (.cons rfl (.cons rfl (.cons rfl (.cons rfl (.cons rfl (.cons rfl (.nil))))))) ?_
          refine Wc.region ?_
          refine Wl.val rfl rfl rfl (Gives.eql rfl rfl rfl) ?_
          refine Wl.val rfl rfl rfl (Gives.assign rfl rfl) ?_
          refine Wl.nil ?_
          refine Wx.thenN (hK11 _ _ ?_)
          refine Wc.cond _ rfl (fun h50 => ?_) (fun h50 => ?_)
          · (first | replace h50 := of_decide_eq_true h50 | replace h50 := nd_true h50 | skip)
            refine Wc.keep [(1, _), (2, _), (6, _), (7, _), (9, _)] (.cons rfl (.cons rfl (.cons rfl (.cons rfl (.cons rfl (.nil)))))) ?_
            refine Wc.regionB (fun q => [0, 3, 5].contains q) [] (.read 0 (.read 1 (.read 2 (.read 3 (.read 4 (.call true 5 (.read 6 (.read 7 (.read 8 (.read 9 (.call true 10 .tail .none))))) .none)))))) 11 (by kernel_rfl) (by kernel_rfl) (by kernel_rfl) ?_
            intro w10 hR10
            replace hb6 := hb6.ext hR10.ext
            replace hb7 := hb7.ext hR10.ext
            replace hI1 := hI1.ext hR10.ext
            replace hI2 := hI2.ext hR10.ext
            replace hI3 := hI3.ext hR10.ext
            replace hE := hE.trans hR10.ext
            have hO10_6 : Old w10.heap.size [] b6 := ⟨hb6.lt, trivial⟩
            have hO10_7 : Old w10.heap.size [] b7 := ⟨hb7.lt, trivial⟩
            have hX := Ext.refl w10
            obtain ⟨bb, bo, y0, rfl, hy0, _, _⟩ := ha.get (show 0 < n by omega)
            have hy00 := y0.toNat_lt
            have hA10 : BV w10 (Old w10.heap.size []) (some ⟨bb, bo, none⟩) n c l := ((ha.offs (fun k => k < w.heap.size) (fun k _ h => h)).ext hE).mono (fun k hk => ⟨Nat.lt_of_lt_of_le hk hE.size, trivial⟩)
            refine RunE.readM rfl rfl rfl rfl rfl (fun wS hS => (Gives.ldW rfl (by kernel_rfl) rfl ((hb7.ext hX).fr hS hO10_7) (by kernel_rfl))) ?_
            refine RunE.read rfl rfl rfl rfl (fun wS _ => (Gives.move rfl rfl)) ?_
            refine RunE.read rfl rfl rfl rfl (fun wS _ => (Gives.ixS (i := 0) rfl Try.underlying22 (by kernel_rfl) rfl rfl rfl (by omega))) ?_
            refine RunE.readM rfl rfl rfl rfl rfl (fun wS hS => (Gives.ldC rfl (by kernel_rfl) rfl ((hA10.fr hS).cellAt hy0))) ?_
            refine RunE.read rfl rfl rfl rfl (fun wS _ => (Gives.conv rfl Try.underlying5 Try.underlying3 rfl (by first | exact IntWalk.i64_in _ (by omega) | exact u64_in _ (by omega) | exact u32_in _ (by omega) | exact u8_in _ (by omega) | exact rfl))) ?_
            refine RunE.freeC rfl rfl rfl rfl rfl Try.func24 rfl (by kernel_rfl) rfl (incR_calls _ x pA pn pc aA an ac dA dn dc ⟨hI1.ext hX, hI2.ext hX, hI3.ext hX⟩ (by omega) _ (by have := y0.toNat_lt; omega)) ?_ RunE.none
            rintro x9 w9 ⟨y, yv, ye, qA, qn, qc, bA, bn, bc, fA, fn, fc, rfl, hY, hJ, hy⟩
            refine ⟨_, rfl, ?_⟩
            replace hX := hX.trans hy
            have hJ1 := (((BV.nb0 hJ.1).nbBox (hb6.ext hX) rfl).nbBox (hb7.ext hX) rfl)
            have hJ2 := (((BV.nb0 hJ.2.1).nbBox (hb6.ext hX) rfl).nbBox (hb7.ext hX) rfl)
            have hJ3 := (((BV.nb0 hJ.2.2).nbBox (hb6.ext hX) rfl).nbBox (hb7.ext hX) rfl)
            have hGy : GoodI y := by rw [hY.1]; exact good_inc hG _
            refine RunE.read rfl rfl rfl rfl (fun wS _ => (Gives.move rfl rfl)) ?_
            refine RunE.read rfl rfl rfl rfl (fun wS _ => (Gives.extract rfl rfl rfl)) ?_
            refine RunE.read rfl rfl rfl rfl (fun wS _ => (Gives.extract rfl rfl rfl)) ?_
            refine RunE.read rfl rfl rfl rfl (fun wS _ => (Gives.extract rfl rfl rfl)) ?_
            replace hb6 := hb6.ext hX
            replace hb7 := hb7.ext hX
            replace hI1 := hI1.ext hX
            replace hI2 := hI2.ext hX
            replace hI3 := hI3.ext hX
            replace hE := hE.trans hX
            refine RunE.freeN rfl rfl rfl (Does.stL 8 rfl rfl rfl hb7 (by kernel_rfl) rfl rfl rfl) ?_ RunE.none
            rintro _ w10_10 ⟨hbn, hF10_10⟩
            replace hb6 := hb6.fr hF10_10 (by first | assumption | exact Ne.symm (by assumption))
            replace hI1 := hI1.fr (hF10_10.mono (fun k h => h.1))
            replace hI2 := hI2.fr (hF10_10.mono (fun k h => h.1))
            replace hI3 := hI3.fr (hF10_10.mono (fun k h => h.1))
            replace hJ1 := hJ1.fr (hF10_10.mono (fun k h => h.1))
            replace hJ2 := hJ2.fr (hF10_10.mono (fun k h => h.1))
            replace hJ3 := hJ3.fr (hF10_10.mono (fun k h => h.1))
            replace hE := Ext.over hE hF10_10 hg7
            replace hb7 := hbn
            clear hbn
            replace hX := Ext.refl w10_10
            refine RunE.tail rfl ?_
            replace hb6 := hb6.ext hX
            replace hb7 := hb7.ext hX
            replace hI1 := hI1.ext hX
            replace hI2 := hI2.ext hX
            replace hI3 := hI3.ext hX
            replace hJ1 := hJ1.ext hX
            replace hJ2 := hJ2.ext hX
            replace hJ3 := hJ3.ext hX
            replace hE := hE.trans hX
            refine Wl.nil ?_
            refine Wx.blockN ?_
            refine Wx.thenN ?_
            refine hJ8 ⟨y, qA, qn, qc, bA, bn, bc, fA, fn, fc⟩ _ _ (.cons rfl (.cons rfl (.cons rfl (.cons rfl (.cons rfl (.nil)))))) ⟨hGy, ⟨hJ1, hJ2, hJ3⟩, hb7, hb6, hE⟩
          · (first | replace h50 := of_decide_eq_false h50 | replace h50 := nd_false h50 | skip)
            refine Wc.seq (fun K12 hK12 => ?_)
            refine Wc.keep [(1, _), (2, _), (6, _), (7, _), (9, _), (33, _)] (.cons rfl (.cons rfl (.cons rfl (.cons rfl (.cons rfl (.cons rfl (.nil))))))) ?_
            refine Wc.region ?_
            refine Wl.val rfl rfl rfl (Gives.eql rfl rfl rfl) ?_
            refine Wl.val rfl rfl rfl (Gives.assign rfl rfl) ?_
            refine Wl.nil ?_
            refine Wx.thenN (hK12 _ _ ?_)
            refine Wc.cond _ rfl (fun h62 => ?_) (fun h62 => ?_)
            · (first | replace h62 := of_decide_eq_true h62 | replace h62 := nd_true h62 | skip)
              refine Wc.keep [(1, _), (2, _), (6, _), (7, _), (9, _)] (.cons rfl (.cons rfl (.cons rfl (.cons rfl (.cons rfl (.nil)))))) ?_
              refine Wc.regionB (fun q => [0, 2, 4].contains q) [] (.read 0 (.read 1 (.call false 2 (.read 3 (.call true 4 (.read 5 (.read 6 (.read 7 (.call true 8 .tail .none)))) .none)) .none))) 9 (by kernel_rfl) (by kernel_rfl) (by kernel_rfl) ?_
              intro w12 hR12
              replace hb6 := hb6.ext hR12.ext
              replace hb7 := hb7.ext hR12.ext
              replace hI1 := hI1.ext hR12.ext
              replace hI2 := hI2.ext hR12.ext
              replace hI3 := hI3.ext hR12.ext
              replace hE := hE.trans hR12.ext
              have hO12_6 : Old w12.heap.size [] b6 := ⟨hb6.lt, trivial⟩
              have hO12_7 : Old w12.heap.size [] b7 := ⟨hb7.lt, trivial⟩
              have hX := Ext.refl w12
              refine RunE.readM rfl rfl rfl rfl rfl (fun wS hS => (Gives.ldW rfl (by kernel_rfl) rfl ((hb7.ext hX).fr hS hO12_7) (by kernel_rfl))) ?_
              refine RunE.read rfl rfl rfl rfl (fun wS _ => (Gives.move rfl rfl)) ?_
              refine RunE.turnC rfl rfl rfl rfl rfl Try.func11 rfl (by kernel_rfl) rfl (seed_calls _ A n c l (ha.ext (hE.trans hX))) ?_ RunE.none
              rintro x8 w8 ⟨gs, rfl, hgs, hMs, hxs⟩
              refine ⟨_, rfl, ?_⟩
              refine ⟨hxs.fr, ?_⟩
              replace hX := hX.trans hxs
              refine RunE.read rfl rfl rfl rfl (fun wS _ => (Gives.cutHi rfl Try.underlying22 (by kernel_rfl) rfl 8 rfl rfl (by omega))) ?_
              refine RunE.freeC rfl rfl rfl rfl rfl Try.func22 rfl (by kernel_rfl) rfl (setR_calls _ x pA pn pc aA an ac dA dn dc ⟨hI1.ext hX, hI2.ext hX, hI3.ext hX⟩ (fun h3 => by have := hG.2 h3; omega) _ 8 32 ((seedS l).take 8) ((hMs.bv (P := fun _ => True) (n := 32) (c := 32) trivial (seedS_len _) (by omega) (by omega)).take (k := 8) (by omega))) ?_ RunE.none
              rintro x9 w9 ⟨y, ye, qA, qn, qc, bA, bn, bc, fA, fn, fc, rfl, hY, hJ, hy⟩
              refine ⟨_, rfl, ?_⟩
              replace hX := hX.trans hy
              have hJ1 := (((BV.nb0 hJ.1).nbBox (hb6.ext hX) rfl).nbBox (hb7.ext hX) rfl)
              have hJ2 := (((BV.nb0 hJ.2.1).nbBox (hb6.ext hX) rfl).nbBox (hb7.ext hX) rfl)
              have hJ3 := (((BV.nb0 hJ.2.2).nbBox (hb6.ext hX) rfl).nbBox (hb7.ext hX) rfl)
              have hGy : GoodI y := by rw [hY.out.1]; exact good_set hG _
              refine RunE.read rfl rfl rfl rfl (fun wS _ => (Gives.move rfl rfl)) ?_
              refine RunE.read rfl rfl rfl rfl (fun wS _ => (Gives.extract rfl rfl rfl)) ?_
              refine RunE.read rfl rfl rfl rfl (fun wS _ => (Gives.extract rfl rfl rfl)) ?_
              replace hb6 := hb6.ext hX
              replace hb7 := hb7.ext hX
              replace hI1 := hI1.ext hX
              replace hI2 := hI2.ext hX
              replace hI3 := hI3.ext hX
              replace hE := hE.trans hX
              refine RunE.freeN rfl rfl rfl (Does.stL 8 rfl rfl rfl hb7 (by kernel_rfl) rfl rfl rfl) ?_ RunE.none
              rintro _ w12_8 ⟨hbn, hF12_8⟩
              replace hb6 := hb6.fr hF12_8 (by first | assumption | exact Ne.symm (by assumption))
              replace hI1 := hI1.fr (hF12_8.mono (fun k h => h.1))
              replace hI2 := hI2.fr (hF12_8.mono (fun k h => h.1))
              replace hI3 := hI3.fr (hF12_8.mono (fun k h => h.1))
              replace hJ1 := hJ1.fr (hF12_8.mono (fun k h => h.1))
              replace hJ2 := hJ2.fr (hF12_8.mono (fun k h => h.1))
              replace hJ3 := hJ3.fr (hF12_8.mono (fun k h => h.1))
              replace hE := Ext.over hE hF12_8 hg7
              replace hb7 := hbn
              clear hbn
              replace hX := Ext.refl w12_8
              refine RunE.tail rfl ?_
              replace hb6 := hb6.ext hX
              replace hb7 := hb7.ext hX
              replace hI1 := hI1.ext hX
              replace hI2 := hI2.ext hX
              replace hI3 := hI3.ext hX
              replace hJ1 := hJ1.ext hX
              replace hJ2 := hJ2.ext hX
              replace hJ3 := hJ3.ext hX
              replace hE := hE.trans hX
              refine Wl.nil ?_
              refine Wx.blockN ?_
              refine Wx.thenN ?_
              refine hJ8 ⟨y, qA, qn, qc, bA, bn, bc, fA, fn, fc⟩ _ _ (.cons rfl (.cons rfl (.cons rfl (.cons rfl (.cons rfl (.nil)))))) ⟨hGy, ⟨hJ1, hJ2, hJ3⟩, hb7, hb6, hE⟩
            · (first | replace h62 := of_decide_eq_false h62 | replace h62 := nd_false h62 | skip)
              refine Wc.keep [(1, _), (2, _), (6, _), (7, _), (9, _)] (.cons rfl (.cons rfl (.cons rfl (.cons rfl (.cons rfl (.nil)))))) ?_
              refine Wc.regionB (fun q => [0, 3].contains q) [] (.read 0 (.read 1 (.read 2 (.call true 3 (.read 4 (.read 5 (.read 6 (.call true 7 .tail .none)))) .none)))) 8 (by kernel_rfl) (by kernel_rfl) (by kernel_rfl) ?_
              intro w6 hR6
              replace hb6 := hb6.ext hR6.ext
              replace hb7 := hb7.ext hR6.ext
              replace hI1 := hI1.ext hR6.ext
              replace hI2 := hI2.ext hR6.ext
              replace hI3 := hI3.ext hR6.ext
              replace hE := hE.trans hR6.ext
              have hO6_6 : Old w6.heap.size [] b6 := ⟨hb6.lt, trivial⟩
              have hO6_7 : Old w6.heap.size [] b7 := ⟨hb7.lt, trivial⟩
              have hX := Ext.refl w6
              refine RunE.readM rfl rfl rfl rfl rfl (fun wS hS => (Gives.ldW rfl (by kernel_rfl) rfl ((hb7.ext hX).fr hS hO6_7) (by kernel_rfl))) ?_
              refine RunE.read rfl rfl rfl rfl (fun wS _ => (Gives.move rfl rfl)) ?_
              refine RunE.read rfl rfl rfl rfl (fun wS _ => (Gives.call rfl Try.func28 rfl (by kernel_rfl) rfl (cut_calls _ A n c hle _ (by omega)))) ?_
              refine RunE.freeC rfl rfl rfl rfl rfl Try.func29 rfl (by kernel_rfl) rfl (extendR_calls _ x pA pn pc aA an ac dA dn dc ⟨hI1.ext hX, hI2.ext hX, hI3.ext hX⟩ (by omega) A (min n 60) c (l.take 60) ((ha.ext (hE.trans hX)).cutS 60)) ?_ RunE.none
              rintro x9 w9 ⟨y, ye, qA, qn, qc, bA, bn, bc, fA, fn, fc, rfl, hY, hJ, hy⟩
              refine ⟨_, rfl, ?_⟩
              replace hX := hX.trans hy
              have hJ1 := (((BV.nb0 hJ.1).nbBox (hb6.ext hX) rfl).nbBox (hb7.ext hX) rfl)
              have hJ2 := (((BV.nb0 hJ.2.1).nbBox (hb6.ext hX) rfl).nbBox (hb7.ext hX) rfl)
              have hJ3 := (((BV.nb0 hJ.2.2).nbBox (hb6.ext hX) rfl).nbBox (hb7.ext hX) rfl)
              have hGy : GoodI y := by rw [hY.out.1]; exact good_ext hG _
              refine RunE.read rfl rfl rfl rfl (fun wS _ => (Gives.move rfl rfl)) ?_
              refine RunE.read rfl rfl rfl rfl (fun wS _ => (Gives.extract rfl rfl rfl)) ?_
              refine RunE.read rfl rfl rfl rfl (fun wS _ => (Gives.extract rfl rfl rfl)) ?_
              replace hb6 := hb6.ext hX
              replace hb7 := hb7.ext hX
              replace hI1 := hI1.ext hX
              replace hI2 := hI2.ext hX
              replace hI3 := hI3.ext hX
              replace hE := hE.trans hX
              refine RunE.freeN rfl rfl rfl (Does.stL 8 rfl rfl rfl hb7 (by kernel_rfl) rfl rfl rfl) ?_ RunE.none
              rintro _ w6_7 ⟨hbn, hF6_7⟩
              replace hb6 := hb6.fr hF6_7 (by first | assumption | exact Ne.symm (by assumption))
              replace hI1 := hI1.fr (hF6_7.mono (fun k h => h.1))
              replace hI2 := hI2.fr (hF6_7.mono (fun k h => h.1))
              replace hI3 := hI3.fr (hF6_7.mono (fun k h => h.1))
              replace hJ1 := hJ1.fr (hF6_7.mono (fun k h => h.1))
              replace hJ2 := hJ2.fr (hF6_7.mono (fun k h => h.1))
              replace hJ3 := hJ3.fr (hF6_7.mono (fun k h => h.1))
              replace hE := Ext.over hE hF6_7 hg7
              replace hb7 := hbn
              clear hbn
              replace hX := Ext.refl w6_7
              refine RunE.tail rfl ?_
              replace hb6 := hb6.ext hX
              replace hb7 := hb7.ext hX
              replace hI1 := hI1.ext hX
              replace hI2 := hI2.ext hX
              replace hI3 := hI3.ext hX
              replace hJ1 := hJ1.ext hX
              replace hJ2 := hJ2.ext hX
              replace hJ3 := hJ3.ext hX
              replace hE := hE.trans hX
              refine Wl.nil ?_
              refine Wx.blockN ?_
              refine Wx.thenN ?_
              refine hJ8 ⟨y, qA, qn, qc, bA, bn, bc, fA, fn, fc⟩ _ _ (.cons rfl (.cons rfl (.cons rfl (.cons rfl (.cons rfl (.nil)))))) ⟨hGy, ⟨hJ1, hJ2, hJ3⟩, hb7, hb6, hE⟩
      intro ⟨x, pA, pn, pc, aA, an, ac, dA, dn, dc⟩ wr hJ
      clear hG hI1 hI2 hI3 hb7 hb6 hE hdl hd32
      obtain ⟨hG, ⟨hI1, hI2, hI3⟩, hb7, hb6, hE⟩ := hJ
      refine Wc.seq (fun K13 hK13 => ?_)
      refine Wc.keep [(1, _), (2, _), (6, _), (7, _), (9, _)] (.cons rfl (.cons rfl (.cons rfl (.cons rfl (.cons rfl (.nil)))))) ?_
      refine Wc.region ?_
      refine Wl.val rfl rfl rfl (Gives.move rfl rfl) ?_
      refine Wl.val rfl rfl rfl (Gives.not rfl rfl) ?_
      refine Wl.nil ?_
      refine Wx.thenN (hK13 _ _ ?_)
      refine Wc.cond _ rfl (fun h73 => ?_) (fun h73 => ?_)
      · (first | replace h73 := of_decide_eq_true h73 | replace h73 := nd_true h73 | skip)
        refine Wc.exit ?_
        refine Wx.miss rfl ?_
        refine Wx.thenE ?_
        refine Wx.thenE ?_
        refine Wx.hit ?_
        refine Wx.thenN (hK3 _ _ ?_)
        refine Wc.seq (fun K14 hK14 => ?_)
        refine Wc.keep [(6, _), (7, _)] (.cons rfl (.cons rfl (.nil))) ?_
        refine Wc.region ?_
        refine Wl.val rfl rfl rfl (Gives.ldW rfl (by kernel_rfl) rfl hb7 (by kernel_rfl)) ?_
        refine Wl.acts rfl rfl (Does.stL 8 rfl rfl rfl hb6 (by kernel_rfl) rfl rfl rfl) ?_
        rintro _ w14_1 ⟨hbn, hF14_1⟩
        replace hb7 := hb7.fr hF14_1 (by first | assumption | exact Ne.symm (by assumption))
        replace hI1 := hI1.fr (hF14_1.mono (fun k h => h.2.1))
        replace hI2 := hI2.fr (hF14_1.mono (fun k h => h.2.1))
        replace hI3 := hI3.fr (hF14_1.mono (fun k h => h.2.1))
        replace hE := Ext.over hE hF14_1 hg6
        replace hb6 := hbn
        clear hbn
        refine Wl.nil ?_
        refine Wx.thenN (hK14 _ _ ?_)
        refine Wc.ret ?_
        refine Wx.ret [_] ⟨⟨_, rfl, res_blk hb6 Try.underlying28 rfl (by kernel_rfl)⟩, trivial⟩ ?_
        exact ⟨x, pA, pn, pc, aA, an, ac, dA, dn, dc, rfl, hG, ⟨hI1.mono (fun _ _ => trivial), hI2.mono (fun _ _ => trivial), hI3.mono (fun _ _ => trivial)⟩, hE⟩
      · (first | replace h73 := of_decide_eq_false h73 | replace h73 := nd_false h73 | skip)
        refine Wc.skip ?_
        refine Wx.blockN ?_
        refine Wx.thenN (hK7 _ _ ?_)
        refine Wc.keep [(1, _), (2, _), (6, _), (7, _), (9, _)] (.cons rfl (.cons rfl (.cons rfl (.cons rfl (.cons rfl (.nil)))))) ?_
        refine Wc.region ?_
        refine Wl.val rfl rfl rfl (Gives.move rfl rfl) ?_
        refine Wl.val rfl rfl rfl (Gives.add rfl rfl rfl (by first | exact IntWalk.i64_in _ (by omega) | exact u64_in _ (by omega) | exact u32_in _ (by omega) | exact u8_in _ (by omega) | exact rfl)) ?_
        refine Wl.val rfl rfl rfl (Gives.assign rfl rfl) ?_
        refine Wl.nil ?_
        refine Wx.thenN ?_
        refine hKL1 (i + 1, ⟨x, pA, pn, pc, aA, an, ac, dA, dn, dc⟩) _ _ (.cons (by first | exact rfl | exact look_int rfl (by omega) | exact look_slice rfl (by omega)) (.cons rfl (.cons rfl (.cons rfl (.cons rfl (.nil)))))) ⟨by omega, hG, ⟨hI1, hI2, hI3⟩, hb7, hb6, hE⟩ (by show 2 - (i + 1) < 2 - i; omega)
    · (first | replace h29 := of_decide_eq_false h29 | replace h29 := nd_false h29 | skip)
      refine Wc.exit ?_
      refine Wx.thenE ?_
      refine Wx.thenE ?_
      refine Wx.hit ?_
      refine Wx.thenN (hK3 _ _ ?_)
      refine Wc.seq (fun K15 hK15 => ?_)
      refine Wc.keep [(6, _), (7, _)] (.cons rfl (.cons rfl (.nil))) ?_
      refine Wc.region ?_
      refine Wl.val rfl rfl rfl (Gives.ldW rfl (by kernel_rfl) rfl hb7 (by kernel_rfl)) ?_
      refine Wl.acts rfl rfl (Does.stL 8 rfl rfl rfl hb6 (by kernel_rfl) rfl rfl rfl) ?_
      rintro _ w14_1 ⟨hbn, hF14_1⟩
      replace hb7 := hb7.fr hF14_1 (by first | assumption | exact Ne.symm (by assumption))
      replace hI1 := hI1.fr (hF14_1.mono (fun k h => h.2.1))
      replace hI2 := hI2.fr (hF14_1.mono (fun k h => h.2.1))
      replace hI3 := hI3.fr (hF14_1.mono (fun k h => h.2.1))
      replace hE := Ext.over hE hF14_1 hg6
      replace hb6 := hbn
      clear hbn
      refine Wl.nil ?_
      refine Wx.thenN (hK15 _ _ ?_)
      refine Wc.ret ?_
      refine Wx.ret [_] ⟨⟨_, rfl, res_blk hb6 Try.underlying28 rfl (by kernel_rfl)⟩, trivial⟩ ?_
      exact ⟨x, pA, pn, pc, aA, an, ac, dA, dn, dc, rfl, hG, ⟨hI1.mono (fun _ _ => trivial), hI2.mono (fun _ _ => trivial), hI3.mono (fun _ _ => trivial)⟩, hE⟩
  · (first | replace h25 := of_decide_eq_false h25 | replace h25 := nd_false h25 | skip)
    refine Wl.pass rfl rfl rfl ?_
    refine Wl.pass rfl rfl rfl ?_
    refine Wl.pass rfl rfl rfl ?_
    refine Wl.val rfl rfl rfl (Gives.pickF rfl rfl rfl rfl) ?_
    refine Wl.nil ?_
    refine Wx.thenN (hK6 _ _ ?_)
    refine Wc.condF rfl rfl ?_
    refine Wc.exit ?_
    refine Wx.thenE ?_
    refine Wx.thenE ?_
    refine Wx.hit ?_
    refine Wx.thenN (hK3 _ _ ?_)
    refine Wc.seq (fun K16 hK16 => ?_)
    refine Wc.keep [(6, _), (7, _)] (.cons rfl (.cons rfl (.nil))) ?_
    refine Wc.region ?_
    refine Wl.val rfl rfl rfl (Gives.ldW rfl (by kernel_rfl) rfl hb7 (by kernel_rfl)) ?_
    refine Wl.acts rfl rfl (Does.stL 8 rfl rfl rfl hb6 (by kernel_rfl) rfl rfl rfl) ?_
    rintro _ w14_1 ⟨hbn, hF14_1⟩
    replace hb7 := hb7.fr hF14_1 (by first | assumption | exact Ne.symm (by assumption))
    replace hI1 := hI1.fr (hF14_1.mono (fun k h => h.2.1))
    replace hI2 := hI2.fr (hF14_1.mono (fun k h => h.2.1))
    replace hI3 := hI3.fr (hF14_1.mono (fun k h => h.2.1))
    replace hE := Ext.over hE hF14_1 hg6
    replace hb6 := hbn
    clear hbn
    refine Wl.nil ?_
    refine Wx.thenN (hK16 _ _ ?_)
    refine Wc.ret ?_
    refine Wx.ret [_] ⟨⟨_, rfl, res_blk hb6 Try.underlying28 rfl (by kernel_rfl)⟩, trivial⟩ ?_
    exact ⟨x, pA, pn, pc, aA, an, ac, dA, dn, dc, rfl, hG, ⟨hI1.mono (fun _ _ => trivial), hI2.mono (fun _ _ => trivial), hI3.mono (fun _ _ => trivial)⟩, hE⟩
end Go.Proofs.Ytdekjkcnfebfnaa
