/- Rows of images turned: an element stored, a name stored, rows put together. -/
import Derived.Test.YteppchoeiflnhaaDoorImgT
import Derived.Laws.CopyRow
namespace Go.Proofs.YteppchoeiflnhaaDoor
set_option linter.all false
set_option maxRecDepth 20000
open Go.RowKit
/-- a row of images of the call's own in block g; the payloads elsewhere -/
def IOg (w : World) (base g m c : Nat) (l : List Im) : Prop := ∃ vs, w.ownsRow base 26 4 (.slice (some ⟨g, 0, none⟩) m c) m vs ∧ EachR Rp.img w (fun k => k ≠ g) vs l
theorem ImO.head {w : World} {base m c : Nat} {A : Option Addr} {l : List Im} (h : ImO w base A m c l) (hm : 0 < m) : ∃ g, A = some ⟨g, 0, none⟩ ∧ base ≤ g ∧ g < w.heap.size := let ⟨vs, ho, _⟩ := h; own_head ho hm
theorem ImO.g {w : World} {base g m c : Nat} {l : List Im} (h : ImO w base (some ⟨g, 0, none⟩) m c l) : IOg w base g m c l :=
  let ⟨vs, ho, he⟩ := h
  ⟨vs, ho, he.mono fun k hk _ => fun hkg => hk.2.2 (by rw [hkg]; rfl)⟩
theorem IOg.ext {w w' : World} {base g m c : Nat} {l : List Im} (h : IOg w base g m c l) (e : Ext w w') : IOg w' base g m c l := let ⟨vs, ho, he⟩ := h; ⟨vs, own_ext ho e, he.fr (e.fr.mono fun _ _ => trivial)⟩
theorem IOg.sl {w : World} {base g m c : Nat} {l : List Im} (h : IOg w base g m c l) : SL Rp.img w (fun _ => True) (some ⟨g, 0, none⟩) m c l := let ⟨vs, ho, he⟩ := h; ⟨vs, Row.of_own ho (fun _ _ => trivial), he.mono fun _ _ _ => trivial⟩
theorem IOg.at_ {w : World} {base g m c k : Nat} {l : List Im} (h : IOg w base g m c l) (hk : k < m) :
    ∃ x S d q, l[k]? = some x ∧ w.rangeAt g (0 + k * 4) (imgC x S d q) ∧ BV w (fun k => k ≠ g) S d q x.pay := by
  obtain ⟨vs, ho, he⟩ := h
  have hln : l.length = m := by
    have h1 := he.1
    have h2 := ho.1
    have h3 : Rp.img.size = 4 := rfl
    rw [h3] at h1
    omega
  have hz := getD_im (show k < l.length by omega)
  generalize l.getD k noIm = x at hz
  obtain ⟨S, d, q, h5, h6⟩ := img_of (he.2 k x hz)
  refine ⟨x, S, d, q, hz, fun j v hj => ?_, h6⟩
  have hc := ho.cells (g := g) rfl (k * 4 + j) v (by
    have e : ((vs.drop (k * Rp.img.size)).take Rp.img.size)[j]? = some v := by rw [h5]; exact hj
    rw [List.getElem?_take] at e
    split at e
    · rw [List.getElem?_drop] at e; exact e
    · cases e)
  have e2 : (0 + k * 4 + j) = k * 4 + j := by omega
  rw [e2]
  simpa [Addr.add_lit] using hc
theorem take_mid {α : Type} (cur vs4 : List α) (o q m : Nat) (h4 : vs4.length = q) (hm : o + q ≤ m) (hc : m ≤ cur.length) : (cur.take o ++ vs4 ++ cur.drop (o + q)).take m = (cur.take m).take o ++ vs4 ++ (cur.take m).drop (o + q) := by
  have h1 : (cur.take o).length = o := by rw [List.length_take]; omega
  rw [List.append_assoc, List.take_append, h1, List.take_of_length_le (by omega), List.take_append, h4, List.take_of_length_le (show vs4.length ≤ m - o by omega), List.take_take, Nat.min_eq_left (by omega), List.drop_take, ← List.append_assoc]
  congr 2
  omega
theorem run_stVar {P : Program} (g off : Nat) (t' ty : TypeId) (vs : List Value) (cur : Array Value) (w : World) (hg : w.heap[g]? = some (.cells cur t' (0, 0))) (hl : off + vs.length ≤ cur.size) (h1 : ∀ v ∈ vs, v.oneCell' = true) (hi : (P.info? ty).map (·.size) = some vs.length) :
    (storeVar ty ⟨g, off, none⟩ (.agg vs.toArray)).run P w = .ok () (w.setRow g (cur.toList.take off ++ vs ++ cur.toList.drop (off + vs.length)).toArray) := by
  have h := run_storeCells_at (P := P) g off t' vs 0 cur w hg (by omega) h1
  simp only [Nat.add_zero] at h
  cases hq : P.info? ty with
  | none => simp [hq] at hi
  | some i =>
    have hs : i.size = vs.length := by simp [hq] at hi; omega
    simp [storeVar, sizeOf, typeInfo, hq, Value.cells, hs, h]
section
variable {n : Nat} {e : Env} {w : World} {o : Oper} {x y : Operand}
/-- an image stored at a place of the row -/
theorem Does.stIOg {base g m c j d q : Nat} {S : Option Addr} {l : List Im} {xi : Im} {t : TypeId} (ho : o.op = .store t x y) (hx : ev e x = some (.pointer (some ⟨g, 0 + j * 4, none⟩))) (hy : ev e y = some (.agg (imgC xi S d q).toArray)) (hown : IOg w base g m c l) (hp : BV w (fun k => k ≠ g) S d q xi.pay) (hi : (Tryd.prog.info? t).map (·.size) = some 4) (hj : j < m) :
    Does Tryd.prog n o e w (fun _ w' => IOg w' base g m c (l.take j ++ [xi] ++ l.drop (j + 1)) ∧ Fr (fun k => k ≠ g) w w') := by
  obtain ⟨vs, hw, he⟩ := hown
  have hl := hw.1
  rcases hw.2 with ⟨hv, h0⟩ | ⟨g', cap, cur, hv, hb, hg, hnc, hcm, hcs, ht⟩
  · simp only [Value.slice.injEq] at hv; cases hv.1
  · simp only [Value.slice.injEq, Option.some.injEq, Addr.mk.injEq, and_true, true_and] at hv
    obtain ⟨rfl, rfl⟩ := hv
    have hcl : m * 4 ≤ cur.toList.length := by
      have := congrArg List.length ht
      rw [List.length_take] at this
      omega
    intro a ha ops Q rest hwd hK
    refine BigFrame.wpList_want hwd fun K hk => ?_
    have hst := run_stVar (P := Tryd.prog) g (0 + j * 4) 26 t (imgC xi S d q) cur w hg (by show 0 + j * 4 + 4 ≤ cur.size; simp at hcl; omega) (imgC_one xi S d q) hi
    unfold Oper.wp execOp
    simp only [ho, ha.ev hx, ha.ev hy, Instr.storeAt, Instr.sureAddr, Sem.run_bind, Sem.run_pure, Result.andThen_ok, hst]
    have hF := fr_setRow w g (cur.toList.take (0 + j * 4) ++ imgC xi S d q ++ cur.toList.drop (0 + j * 4 + (imgC xi S d q).length)).toArray
    have hG := setRow_heap w g cur (cur.toList.take (0 + j * 4) ++ imgC xi S d q ++ cur.toList.drop (0 + j * 4 + (imgC xi S d q).length)).toArray 26 (0, 0) hg
    refine hk _ _ (hK _ _ ⟨⟨vs.take (j * 4) ++ imgC xi S d q ++ vs.drop ((j + 1) * 4), ⟨?_, .inr ⟨g, c, _, rfl, hb, hG, hnc, hcm, ?_, ?_⟩⟩, ?_⟩, hF⟩)
    · simp [imgC]; omega
    · simp [imgC] at *; omega
    · have h2 := take_mid cur.toList (imgC xi S d q) (j * 4) 4 (m * 4) rfl (by omega) hcl
      rw [ht] at h2
      have e1 : 0 + j * 4 = j * 4 := by omega
      have e2 : (imgC xi S d q).length = 4 := rfl
      have e3 : (j + 1) * 4 = j * 4 + 4 := by omega
      rw [e1, e2, e3]
      exact h2
    · exact (((he.take j).app (EachR.single (img_rep hp))).app (he.drop (j + 1))).fr hF
end
theorem set_mid {α : Type} (A B : List α) (a b c d v : α) (k : Nat) (h : A.length = k) : (A ++ [a, b, c, d] ++ B).set (k + 1) v = A ++ [a, v, c, d] ++ B := by
  subst h
  simp [List.set_append]
section
variable {n : Nat} {e : Env} {w : World} {o : Oper} {x y : Operand}
/-- the name of an image of the row stored -/
theorem Does.stName {base g m c j : Nat} {l : List Im} {nm2 : List UInt8} {t : TypeId} (ho : o.op = .store t x y) (hx : ev e x = some (.pointer (some ⟨g, 0 + (j * 4 + 1), none⟩))) (hy : ev e y = some (txt nm2)) (hown : IOg w base g m c l) (hi : (Tryd.prog.info? t).map (·.size) = some 1) (hj : j < m) :
    Does Tryd.prog n o e w (fun _ w' => ∃ l', IOg w' base g m c l' ∧ Fr (fun k => k ≠ g) w w') := by
  obtain ⟨vs, hw, he⟩ := hown
  have hl := hw.1
  have hln : l.length = m := by
    have h1 := he.1
    have h3 : Rp.img.size = 4 := rfl
    rw [h3] at h1
    omega
  have hz := getD_im (show j < l.length by omega)
  generalize l.getD j noIm = z at hz
  have hj4 := he.2 j z hz
  obtain ⟨S, d, q, h5, h6⟩ := img_of hj4
  have h5' : (vs.drop (j * 4)).take 4 = imgC z S d q := h5
  have hvs : vs = vs.take (j * 4) ++ imgC z S d q ++ vs.drop ((j + 1) * 4) := by
    have e3 : (j + 1) * 4 = j * 4 + 4 := by omega
    rw [← h5', e3, ← List.drop_drop, List.append_assoc, List.take_append_drop, List.take_append_drop]
  have hset : vs.set (j * 4 + 1) (txt nm2) = vs.take (j * 4) ++ imgC ⟨z.role, nm2, z.ver, z.pay⟩ S d q ++ vs.drop ((j + 1) * 4) := by
    conv => lhs; rw [hvs]
    exact set_mid _ _ _ _ _ _ _ _ (by rw [List.length_take]; omega)
  refine (Does.stR (i := j * 4 + 1) ho hx hy rfl hw hi (by omega)).mono ?_
  rintro _ w' ⟨h1, h2⟩
  refine ⟨l.take j ++ [⟨z.role, nm2, z.ver, z.pay⟩] ++ l.drop (j + 1), ⟨_, h1, ?_⟩, h2⟩
  rw [hset]
  exact (((he.take j).app (EachR.single (img_rep (x := ⟨z.role, nm2, z.ver, z.pay⟩) h6))).app (he.drop (j + 1))).fr h2
end
/-- a row of images made from block N on; the payloads below N -/
def IOb (w : World) (N : Nat) (A : Option Addr) (n c : Nat) (l : List Im) : Prop := ∃ vs, w.ownsRow N 26 4 (.slice A n c) n vs ∧ EachR Rp.img w (fun k => k < N) vs l
theorem range_goX {w0 wc wS : World} {b o : Nat} {cs : List Value} (h : w0.rangeAt b o cs) (hb : b < w0.heap.size) (hX : Ext w0 wc) (hS : Fr (Old w0.heap.size []) wc wS) : wS.rangeAt b o cs := fun j v hj =>
  (World.cell?_of_block (w := wc) (a := ⟨b, o + j, none⟩) (hS.block b (Nat.lt_of_lt_of_le hb hX.size) ⟨hb, trivial⟩)).trans ((hX.cells.1 b (o + j) hb).trans (h j v hj))
theorem IOb.nil_ {w : World} {N g : Nat} (hk : Blk w g 26 #[]) (hg : N ≤ g) : IOb w N (some ⟨g, 0, none⟩) 0 0 [] := ⟨[], Blk.own (xs := []) hk hg rfl rfl (by omega), EachR.nil_⟩
theorem IOb.ext {w w' : World} {N n c : Nat} {A : Option Addr} {l : List Im} (h : IOb w N A n c l) (e : Ext w w') : IOb w' N A n c l := let ⟨vs, ho, he⟩ := h; ⟨vs, own_ext ho e, he.fr (e.fr.mono fun _ _ => trivial)⟩
theorem IOb.sl {w : World} {N n c : Nat} {A : Option Addr} {l : List Im} (h : IOb w N A n c l) : SL Rp.img w (fun _ => True) A n c l := let ⟨vs, ho, he⟩ := h; ⟨vs, Row.of_own ho (fun _ _ => trivial), he.mono fun _ _ _ => trivial⟩
section
variable {n : Nat} {e : Env} {w : World} {o : Oper} {x y : Operand}
theorem Does.appIOb {N p sc m c : Nat} {B A : Option Addr} {l r : List Im} {ys : List Value} {T : Nat → Prop} (ho : o.op = .call { callee := .builtin .append, args := #[x, y], argTypes := #[52, 52] })
    (hx : ev e x = some (.slice B p sc)) (hy : ev e y = some (.slice A m c)) (hown : IOb w N B p sc l) (hr : Row w T 4 A m c ys) (he : EachR Rp.img w (fun k => k < N) ys r) (hp : p + m ≤ 1000000) (hb : N ≤ w.heap.size) :
    Does Tryd.prog n o e w (fun v w' => ∃ B' sc', v = .slice B' (p + m) sc' ∧ IOb w' N B' (p + m) sc' (l ++ r) ∧ Below N w w' ∧ Fr (NOwn w (fun _ => True) (.slice B p sc)) w w') := by
  obtain ⟨vs, hw1, hw2⟩ := hown
  refine (Does.appX ho Tryd.underlying52 infoI4 rfl (by decide) hx hy hw1 hr he.one (by omega) (by decide) hb).mono ?_
  rintro v w' ⟨B', sc', rfl, h1, h2, h3, _⟩
  exact ⟨B', sc', rfl, ⟨_, h1, (hw2.app he).fr (below_fr h2)⟩, h2, h3⟩
variable {P : Program} {t el : TypeId} {A : Option Addr} {m c : Nat}
/-- an empty literal, whatever the elements -/
theorem Does.lit0 {zv : Value} (sz : Nat) (ho : o.op = .buildSlice t 0 #[]) (ht : P.underlying t = some (.slice el)) (hinf : (P.info? el).map (fun i => (i.zero, i.size)) = some (some zv, sz)) :
    Does P n o e w (fun v w' => ∃ g, v = .slice (some ⟨g, 0, none⟩) 0 0 ∧ w.heap.size ≤ g ∧ Blk w' g el #[] ∧ Ext w w') := by
  intro a ha ops Q rest hw hK
  refine BigFrame.wpList_want hw fun K hk => ?_
  cases hie : P.info? el with
  | none => simp [hie] at hinf
  | some f =>
    have hf : f.zero = some zv ∧ f.size = sz := by simpa [hie] using hinf
    have hs : ∀ w, (sizeOf el).run P w = .ok sz w := fun w => by simp [sizeOf, typeInfo, hie, hf.2]
    have hrun : (execOp a.eval o).run P w = .ok (.value (.slice (some ⟨w.heap.size, 0, none⟩) 0 0)) (w.alloc (.cells #[] el)) := by
      unfold execOp
      simp only [ho, Instr.buildSlice, Sem.run_bind, run_underlying ht, Result.andThen_ok, hs, Nat.zero_mul]
      simp [Instr.fill, newRow, go_sem]
    unfold Oper.wp
    rw [hrun]
    exact hk _ _ (hK _ _ ⟨_, rfl, Nat.le_refl _, Blk.new _ _ _, (Ext.refl _).alloc _⟩)
/-- 's[k:]', whatever the elements -/
theorem Gives.cutLoZ {kd : IntKind} {q : Int} (sz k : Nat) (ho : o.op = .slice t x (some y) none none) (ht : P.underlying t = some (.slice el)) (hsz : (P.info? el).map (·.size) = some sz) (hx : ev e x = some (.slice A m c)) (hy : ev e y = some (.int kd q)) (hq : q = (k : Int)) (hk : k ≤ m) : Gives P n o e w (.slice (cutAddr A c k sz) (m - k) (c - k)) := .run fun a ha => by
  subst hq
  cases hi : P.info? el with
  | none => simp [hi] at hsz
  | some f =>
    have hf : f.size = sz := by simpa [hi] using hsz
    have hel : P.elem t = el := by simp [Program.elem, ht]
    have hat := fun (x : Value) (lo hi mx : Option Value) => run_sliceAt_slice (P := P) w t x lo hi mx (by rw [hel]; exact ht)
    have hrun := run_cut_l (P := P) w t A m c (by rw [hel]; exact ht) kd k (by omega) (by omega)
    have hs : (sizeOf (P.elem t)).run P w = .ok sz w := by simp [sizeOf, typeInfo, hel, hi, hf]
    unfold execOp
    simp only [ho, ha.ev hx, ha.ev hy, Option.map_some, Option.map_none, Sem.run_bind, hat, hrun, hs, Result.andThen_ok, Sem.run_pure, Int.toNat_natCast]
end
end Go.Proofs.YteppchoeiflnhaaDoor
