/- ImgR: merged. -/
import Derived.Test.YtnbgieccindpnaaDoorImgQ
import Derived.Test.YtnbgieccindpnaaDoorHashP4
import Derived.Laws.Strings2
/- Drawn inputs: codes, lines, payloads, images. -/
namespace Go.Proofs.YtnbgieccindpnaaDoor
set_option linter.all false
set_option maxRecDepth 20000
open Go.RowKit
theorem Fr.step {P : Nat → Prop} {w a b : World} {base : Nat} (h : Fr P w a) (f : Below base a b) (hg : w.heap.size ≤ base) : Fr P w b :=
  ⟨f.os.trans h.os, f.tape.trans h.tape, f.output.trans h.output, Nat.le_trans h.size f.size, fun k hk hP => (f.block k (by omega)).trans (h.block k hk hP)⟩
theorem cell_k {w : World} {b k : Nat} {t : TypeId} {cs : Array Value} {v : Value} (h : Blk w b t cs) (hv : cs[k]? = some v) : w.cell? ⟨b, 0 + k, none⟩ = some v := by rw [Nat.zero_add, h.cell]; exact hv
/-- a reader of codes in its box, all of it below block N -/
def CD (w : World) (g N : Nat) : Prop := ∃ B bn bc l, ∃ k : Nat, Blk w g 61 #[.slice B bn bc, .int .i64 (k : Int)] ∧ BV w (fun q => q ≠ g ∧ q < N) B bn bc l ∧ k ≤ bn ∧ g < N
section
variable {w w' : World} {g N : Nat}
theorem CD.fr {P : Nat → Prop} (h : CD w g N) (f : Fr P w w') (hp : ∀ k, k < N → P k) : CD w' g N := by
  obtain ⟨B, bn, bc, l, k, h1, h2, h3, h4⟩ := h
  exact ⟨B, bn, bc, l, k, h1.fr f (hp g h4), h2.fr (f.mono fun q hq => hp q hq.2), h3, h4⟩
theorem CD.ext (h : CD w g N) (f : Ext w w') : CD w' g N := h.fr (P := fun _ => True) f.fr (fun _ _ => trivial)
theorem CD.lt (h : CD w g N) : g < N ∧ g < w.heap.size := by
  obtain ⟨B, bn, bc, l, k, h1, h2, h3, h4⟩ := h
  exact ⟨h4, h1.lt⟩
end
def NextR (w : World) (g N : Nat) (n : Int) (e : Ending) (w' : World) : Prop := ∃ z : Int, e = .returned (.int .i64 z) ∧ (0 ≤ z ∧ z < n) ∧ CD w' g N ∧ Fr (fun k => k ≠ g) w w'
set_option maxRecDepth 20000 in
set_option maxHeartbeats 1000000 in
theorem nextD (w : World) (g N : Nat) (h : CD w g N) (n : Int) (hn : 1 ≤ n) : Calls Tryd.prog 36 #[.pointer (some ⟨g, 0, none⟩), .int .i64 n] w (NextR w g N n) := by
  have hC := h
  obtain ⟨B, bn, bc, l, k, h1, h2, h3, h4⟩ := h
  have hle := h2.le
  have hl := h2.len
  refine calls_enter Tryd.func36 rfl Tryd.ntmps36 rfl ?_
  refine vs fun K1 hK1 => vR [(0, _), (1, _)] ?_
  refine vA ?_
  refine vn (hK1 _ _ ?_)
  refine Wc.seq (fun K2 hK2 => ?_)
  refine vs fun K3 hK3 => vK [(0, _), (1, _)] ?_
  refine Wc.regionD (fun _ => true) Eq (.read 0 (.read 1 (.read 2 (.read 3 (.read 4 (.read 5 (.read 6 (.read 7 (.read 8 .tail))))))))) 9 (by kernel_rfl) (by kernel_rfl) (by kernel_rfl) (fun _ => rfl) (fun _ _ _ h k => h.trans k) Quiet ⟨1, rfl⟩ ?_
  intro w1 hR1
  have h1a := h1.ext hR1.ext
  refine rE rfl (Gives.move rfl rfl) ?_
  refine rE rfl (Gives.nilCheck rfl rfl) ?_
  refine rE rfl (Gives.fieldAt 1 rfl Tryd.underlying61 rfl (by kernel_rfl) rfl rfl) ?_
  refine rE rfl (Gives.ldC rfl (by kernel_rfl) rfl ((h1a.cell 1).trans rfl)) ?_
  refine rE rfl (Gives.move rfl rfl) ?_
  refine rE rfl (Gives.nilCheck rfl rfl) ?_
  refine rE rfl (Gives.fieldAt 0 rfl Tryd.underlying61 rfl (by kernel_rfl) rfl rfl) ?_
  refine rE rfl (Gives.ldC rfl (by kernel_rfl) rfl ((h1a.cell 0).trans rfl)) ?_
  refine rE rfl (Gives.lenS rfl Tryd.underlying22 rfl) ?_
  refine RunE.tail rfl ?_
  refine vl (Gives.geq rfl rfl rfl) ?_
  refine vn (hK3 _ _ ?_)
  refine Wc.cond _ rfl (fun h14 => ?_) (fun h14 => ?_)
  · first | replace h14 := dT h14 | replace h14 := nT h14 | skip
    refine vs fun K4 hK4 => vR [] ?_
    refine vA ?_
    refine vn (hK4 _ _ ?_)
    refine Wc.ret ?_
    refine Wx.thenR ?_
    refine Wx.ret [_] ⟨rfl, trivial⟩ ?_
    exact ⟨0, rfl, ⟨by omega, by omega⟩, hC.ext hR1.ext, Ext.fr hR1.ext⟩
  first | replace h14 := dF h14 | replace h14 := nF h14 | skip
  refine Wc.skip ?_
  refine Wx.thenN (hK2 _ _ ?_)
  refine vs fun K5 hK5 => vK [(0, _), (1, _)] ?_
  have h1a := h1.ext hR1.ext
  have h2a := h2.ext hR1.ext
  refine Wc.region ?_
  refine vM ?_
  refine vl (Gives.nilCheck rfl rfl) ?_
  refine vF 1 Tryd.underlying61 ?_
  refine vl (Gives.ldC rfl (by kernel_rfl) rfl ((h1a.cell 1).trans rfl)) ?_
  refine vAdd ?_
  refine vl (Gives.nilCheck rfl rfl) ?_
  refine vF 1 Tryd.underlying61 ?_
  refine Wl.acts rfl rfl (Does.stC (i := 1) rfl rfl rfl h1a (by kernel_rfl) (by show 1 < 2; omega) rfl) ?_
  rintro _ w37 ⟨h1b, hF37⟩
  have h1c : Blk w37 g 61 #[.slice B bn bc, .int .i64 ((k + 1 : Nat) : Int)] := h1b
  have h2b : BV w37 (fun q => q ≠ g ∧ q < N) B bn bc l := h2a.fr (hF37.mono fun q hq => hq.1)
  have hF := (Ext.fr (P := fun q => q ≠ g) hR1.ext).trans hF37
  refine vn (hK5 _ _ ?_)
  refine vs fun K6 hK6 => vK [(0, _), (1, _)] ?_
  refine Wc.regionD (fun _ => true) Eq (.read 0 (.read 1 (.read 2 (.read 3 (.read 4 (.read 5 (.read 6 (.read 7 (.read 8 (.read 9 (.read 10 (.read 11 (.read 12 .tail))))))))))))) 13 (by kernel_rfl) (by kernel_rfl) (by kernel_rfl) (fun _ => rfl) (fun _ _ _ h k => h.trans k) Quiet ⟨1, rfl⟩ ?_
  intro w4 hR4
  have h1d := h1c.ext hR4.ext
  have h2d := h2b.ext hR4.ext
  have hlt : k < l.length := by omega
  obtain ⟨xb, xo, rfl, _, _⟩ := h2.2.2.2 (by omega)
  refine rE rfl (Gives.move rfl rfl) ?_
  refine rE rfl (Gives.nilCheck rfl rfl) ?_
  refine rE rfl (Gives.fieldAt 0 rfl Tryd.underlying61 rfl (by kernel_rfl) rfl rfl) ?_
  refine rE rfl (Gives.ldC rfl (by kernel_rfl) rfl ((h1d.cell 0).trans rfl)) ?_
  refine rE rfl (Gives.move rfl rfl) ?_
  refine rE rfl (Gives.nilCheck rfl rfl) ?_
  refine rE rfl (Gives.fieldAt 1 rfl Tryd.underlying61 rfl (by kernel_rfl) rfl rfl) ?_
  refine rE rfl (Gives.ldC rfl (by kernel_rfl) rfl ((h1d.cell 1).trans rfl)) ?_
  refine rE rfl (gSub rfl rfl rfl) ?_
  refine rE rfl (Gives.ixS (i := k) rfl Tryd.underlying22 (by kernel_rfl) rfl rfl (by omega) (by omega)) ?_
  refine rE rfl (Gives.ldC rfl (by kernel_rfl) rfl (h2d.cellAt (getC hlt))) ?_
  refine rE rfl (Gives.conv rfl Tryd.underlying5 Tryd.underlying3 rfl (IntWalk.i64_in _ (by have := (gb1 l k).toNat_lt; omega))) ?_
  refine rE rfl (Gives.move rfl rfl) ?_
  refine RunE.tail rfl ?_
  refine vl (Gives.rem rfl rfl rfl (by omega) (by first | exact Int.tmod_eq_emod_of_nonneg (by omega) | exact rfl)) ?_
  refine vA ?_
  refine vn (hK6 _ _ ?_)
  refine Wc.ret ?_
  refine Wx.ret [_] ⟨rfl, trivial⟩ ?_
  have hb := Int.emod_nonneg ((gb1 l k).toNat : Int) (show n ≠ 0 by omega)
  have hb2 := Int.emod_lt_of_pos ((gb1 l k).toNat : Int) (show 0 < n by omega)
  exact ⟨_, rfl, ⟨hb, hb2⟩, ⟨_, bn, bc, l, k + 1, h1d, h2d, by omega, h4⟩, hF.trans (Ext.fr hR4.ext)⟩
def NewC (w : World) (e : Ending) (w' : World) : Prop := ∃ g, e = .returned (.pointer (some ⟨g, 0, none⟩)) ∧ w.heap.size ≤ g ∧ CD w' g w'.heap.size ∧ Ext w w'
theorem newD {P : Nat → Prop} (w : World) (A : Option Addr) (n c : Nat) (l : List UInt8) (ha : BV w P A n c l) (m : Nat) : Calls Tryd.prog 13 #[.slice A n c, .int .i64 (m : Int)] w (NewC w) := by
  have hle := ha.le
  refine calls_enter Tryd.func13 rfl Tryd.ntmps13 rfl ?_
  have hE : Ext w w := Ext.refl w
  refine vs fun K1 hK1 => vR [(0, _), (1, _)] ?_
  refine vA ?_
  refine vn (hK1 _ _ ?_)
  refine Wc.seq (fun K2 hK2 => ?_)
  refine vs fun K3 hK3 => vR [(0, _), (1, _)] ?_
  refine vM ?_
  refine vl (Gives.lenS rfl Tryd.underlying22 rfl) ?_
  refine vM ?_
  refine vl (Gives.gtr rfl rfl rfl) ?_
  refine vn (hK3 _ _ ?_)
  refine Wc.cond _ rfl (fun h8 => ?_) (fun h8 => ?_)
  · first | replace h8 := dT h8 | replace h8 := nT h8 | skip
    refine vR [(0, _), (1, _)] ?_
    refine vM ?_
    refine vM ?_
    refine vl (Gives.cutHi rfl Tryd.underlying22 (by kernel_rfl) rfl m rfl rfl (by omega)) ?_
    refine vA ?_
    refine vn (hK2 _ _ ?_)
    refine vs fun K4 hK4 => vR [(0, _)] ?_
    refine vM ?_
    refine vl (Gives.buildS (pl := [(0, 1), (1, 1)]) (zv := (.agg #[(.slice none 0 0), (.int .i64 0)])) rfl Tryd.underlying61 (by kernel_rfl) (by kernel_rfl) rfl rfl) ?_
    refine Wl.does rfl rfl rfl (Does.boxA rfl rfl) ?_
    rintro _ w3_2 ⟨b14, rfl, hs14, hb14, hx3_2⟩
    have hg14 : w.heap.size ≤ b14 := Nat.le_trans hE.size hs14
    replace hE := hE.trans hx3_2
    refine vA ?_
    refine vn (hK4 _ _ ?_)
    refine Wc.ret ?_
    refine Wx.ret [_] ⟨rfl, trivial⟩ ?_
    have h2 := ((ha.take (show m ≤ n by omega)).ext hE).bd
    exact ⟨b14, rfl, by omega, ⟨A, m, c, _, 0, hb14, (((ha.take (show m ≤ n by omega)).bd).ext hE).bd.mono fun q hq => ⟨by omega, hq.2⟩, by omega, hb14.lt⟩, hE⟩
  first | replace h8 := dF h8 | replace h8 := nF h8 | skip
  refine Wc.skip ?_
  refine Wx.thenN (hK2 _ _ ?_)
  refine vs fun K5 hK5 => vR [(0, _)] ?_
  refine vM ?_
  refine vl (Gives.buildS (pl := [(0, 1), (1, 1)]) (zv := (.agg #[(.slice none 0 0), (.int .i64 0)])) rfl Tryd.underlying61 (by kernel_rfl) (by kernel_rfl) rfl rfl) ?_
  refine Wl.does rfl rfl rfl (Does.boxA rfl rfl) ?_
  rintro _ w3_2 ⟨b14, rfl, hs14, hb14, hx3_2⟩
  have hg14 : w.heap.size ≤ b14 := Nat.le_trans hE.size hs14
  replace hE := hE.trans hx3_2
  refine vA ?_
  refine vn (hK5 _ _ ?_)
  refine Wc.ret ?_
  refine Wx.ret [_] ⟨rfl, trivial⟩ ?_
  exact ⟨b14, rfl, by omega, ⟨A, n, c, l, 0, hb14, ((ha.bd).ext hE).bd.mono fun q hq => ⟨by omega, hq.2⟩, by omega, hb14.lt⟩, hE⟩
/-! lines -/
def lineK (k : Nat) : List UInt8 := [[97, 61, 49], [99, 111, 117, 110, 116, 61, 53], [99, 111, 117, 110, 116, 61, 49, 55], [104, 111, 115, 116, 61, 120], [109, 111, 100, 101, 32, 98], [126]].getD k []
theorem lineK_at {k : Nat} (h : k < 6) : (#[txt (lineK 0), txt (lineK 1), txt (lineK 2), txt (lineK 3), txt (lineK 4), txt (lineK 5)] : Array Value)[k]? = some (txt (lineK k)) := by
  match k, h with
  | 0, _ => rfl
  | 1, _ => rfl
  | 2, _ => rfl
  | 3, _ => rfl
  | 4, _ => rfl
  | 5, _ => rfl
theorem lineK_ok : ∀ k < 6, 1 ≤ (lineK k).length ∧ (lineK k).length ≤ 8 ∧ (lineK k).all printC = true := by decide
def LineR (w : World) (g N : Nat) (e : Ending) (w' : World) : Prop := ∃ S m k, ∃ i < 6, e = .returned (.slice S m k) ∧ BV w' (fun q => w.heap.size ≤ q) S m k (lineK i) ∧ CD w' g N ∧ Fr (fun k => k ≠ g) w w'
set_option maxRecDepth 20000 in
set_option maxHeartbeats 1000000 in
theorem lineD (w : World) (gC N : Nat) (h : CD w gC N) (hN : N ≤ w.heap.size) : Calls Tryd.prog 35 #[.pointer (some ⟨gC, 0, none⟩)] w (LineR w gC N) := by
  have hlt := h.lt
  refine calls_enter Tryd.func35 rfl Tryd.ntmps35 rfl ?_
  have hE : Fr (fun k => k ≠ gC) w w := Fr.refl _ _
  refine vs fun K1 hK1 => vR [(0, _)] ?_
  refine vA ?_
  refine vn (hK1 _ _ ?_)
  refine vs fun K2 hK2 => vR [(0, _)] ?_
  refine vl (Gives.buildA1 rfl Tryd.underlying81 (by kernel_rfl) (by kernel_rfl) rfl rfl rfl) ?_
  refine Wl.does rfl rfl rfl (Does.alB (.agg #[(.string ByteArray.empty), (.string ByteArray.empty), (.string ByteArray.empty), (.string ByteArray.empty), (.string ByteArray.empty), (.string ByteArray.empty)]) rfl (by kernel_rfl) rfl) ?_
  rintro _ w1_1 ⟨b3, rfl, hs3, hb3, hx1_1⟩
  have hg3 : w.heap.size ≤ b3 := Nat.le_trans hE.size hs3
  replace hE := hE.trans (Ext.fr hx1_1)
  refine Wl.acts rfl rfl (Does.stL 6 rfl rfl rfl hb3 (by kernel_rfl) rfl rfl rfl) ?_
  rintro _ w1_2 ⟨hbn, hF1_2⟩
  replace hE := Fr.over hE hF1_2 hg3
  replace hb3 := hbn
  clear hbn
  have hC := (h.ext hx1_1).fr hF1_2 (fun q hq => by omega)
  have hn3 : b3 ≠ gC := by omega
  refine vn (hK2 _ _ ?_)
  refine vs fun K3 hK3 => vR [(0, _), (3, _)] ?_
  refine vM ?_
  refine Wl.call rfl rfl rfl rfl Tryd.func36 rfl (by kernel_rfl) rfl (nextD _ gC N hC 6 (by omega)) ?_
  rintro x1 w21 ⟨z, rfl, ⟨hz1, hz2⟩, hC2, hF⟩
  refine ⟨_, rfl, ?_⟩
  replace hb3 := hb3.frA hF
  replace hE := hE.trans hF
  refine vl (Gives.ixA (i := z.toNat) rfl Tryd.underlying81 (by kernel_rfl) rfl rfl (by omega) (by omega)) ?_
  refine vl (Gives.ldC rfl (by kernel_rfl) rfl (cell_k hb3 (lineK_at (k := z.toNat) (by omega)))) ?_
  have hlk := lineK_ok z.toNat (by omega)
  refine Wl.does rfl rfl rfl (Does.toBytes rfl Tryd.underlying9 Tryd.underlying22 Tryd.underlying5 rfl (by omega)) ?_
  rintro _ w24 ⟨g5, c5, rfl, hg5, hB5, hx24⟩
  have hzE := hE.size
  replace hb3 := hb3.ext hx24
  replace hE := hE.trans (Ext.fr hx24)
  refine vA ?_
  refine vn (hK3 _ _ ?_)
  refine Wc.ret ?_
  refine Wx.ret [_] ⟨rfl, trivial⟩ ?_
  exact ⟨_, _, _, z.toNat, by omega, rfl, hB5.mono fun q hq => by omega, hC2.ext hx24, hE⟩
/-! payloads of lines -/
def payS (ls : List (List UInt8)) : List UInt8 := ls.flatMap fun l => l ++ [10]
def goodL (l : List UInt8) : Prop := 1 ≤ l.length ∧ l.length ≤ 8 ∧ l.all printC = true
theorem print_no10 {l : List UInt8} (h : l.all printC = true) : ∀ c ∈ l, c.toNat ≠ 10 := fun c hc h10 => by
  have h1 := List.all_eq_true.1 h c hc
  unfold printC at h1
  simp only [decide_eq_true_eq] at h1
  omega
theorem lines_pay : ∀ (ls out : List (List UInt8)), (∀ l ∈ ls, goodL l) → out.length + ls.length ≤ 4 → linesG (payS ls) out [] = out ++ ls
  | [], out, _, _ => by simp [payS, linesG]
  | l :: r, out, hg, hl => by
    obtain ⟨h1, h2, h3⟩ := hg l (List.mem_cons_self ..)
    have e : payS (l :: r) = l ++ 10 :: payS r := by simp [payS]
    rw [e, linesG_nl _ _ _ _ (print_no10 h3), if_neg]
    · rw [lines_pay r _ (fun x hx => hg x (List.mem_cons_of_mem _ hx)) (by simp at hl ⊢; omega)]
      simp
    · rintro (h | h | h)
      · have := congrArg List.length h
        simp at this
        rw [this] at h1; simp at h1
      · simp at hl; omega
      · rw [h3] at h; cases h
theorem pay_lines {ls : List (List UInt8)} (hg : ∀ l ∈ ls, goodL l) (hl : ls.length ≤ 4) : linesS (payS ls) = ls := by
  have := lines_pay ls [] hg (by simpa using hl)
  simpa [linesS] using this
theorem pay_snoc (ls : List (List UInt8)) (l : List UInt8) : payS (ls ++ [l]) = payS ls ++ l ++ [10] := by simp [payS]
theorem pay_len : ∀ (ls : List (List UInt8)), (∀ l ∈ ls, goodL l) → (payS ls).length ≤ 9 * ls.length ∧ ls.length ≤ (payS ls).length
  | [], _ => ⟨by simp [payS], by simp⟩
  | l :: r, h => by
    have h1 := pay_len r (fun x hx => h x (List.mem_cons_of_mem _ hx))
    obtain ⟨h2, h3, _⟩ := h l (List.mem_cons_self ..)
    have e : payS (l :: r) = (l ++ [10]) ++ payS r := by simp [payS]
    rw [e]
    simp only [List.length_append, List.length_cons, List.length_nil]
    omega
def PayR (w : World) (g N : Nat) (e : Ending) (w' : World) : Prop := ∃ S m k l, e = .returned (.slice S m k) ∧ OB w' w.heap.size 5 S m k l ∧ linesS l ≠ [] ∧ 1 ≤ l.length ∧ l.length ≤ 36 ∧ CD w' g N ∧ Fr (fun k => k ≠ g) w w'
theorem good_snoc {ls : List (List UInt8)} {l : List UInt8} (h : ∀ x ∈ ls, goodL x) (hl : goodL l) : ∀ x ∈ ls ++ [l], goodL x := fun x hx => by
  rcases List.mem_append.1 hx with h1 | h1
  · exact h x h1
  · rw [List.mem_singleton.1 h1]; exact hl
set_option maxRecDepth 20000 in
set_option maxHeartbeats 1000000 in
theorem payloadD (w : World) (gC N : Nat) (h : CD w gC N) (hN : N ≤ w.heap.size) : Calls Tryd.prog 82 #[.pointer (some ⟨gC, 0, none⟩)] w (PayR w gC N) := by
  have hlt := h.lt
  refine calls_enter Tryd.func82 rfl Tryd.ntmps82 rfl ?_
  have hE : Fr (fun k => k ≠ gC) w w := Fr.refl _ _
  refine vs fun K1 hK1 => vR [(0, _)] ?_
  refine vA ?_
  refine vn (hK1 _ _ ?_)
  refine vs fun K2 hK2 => vR [(0, _)] ?_
  refine vA ?_
  refine vn (hK2 _ _ ?_)
  refine Wc.seq (fun K3 hK3 => ?_)
  refine vs fun K4 hK4 => vR [(0, _), (3, _)] ?_
  refine vM ?_
  refine Wl.call rfl rfl rfl rfl Tryd.func36 rfl (by kernel_rfl) rfl (nextD _ gC N h 4 (by omega)) ?_
  rintro x1 w21 ⟨z, rfl, ⟨hz1, hz2⟩, hC, hF⟩
  refine ⟨_, rfl, ?_⟩
  replace hE := hE.trans hF
  refine vAdd ?_
  refine vA ?_
  refine vn (hK4 _ _ ?_)
  refine Wc.block ?_
  refine vK [(0, _), (3, _), (4, _)] ?_
  refine Wc.loopC (ι := Nat × (Option Addr × Nat × Nat) × List (List UInt8)) [(0, _)] (fun | (j, (S, m, k), _) => [(3, .slice S m k), (4, .int .i64 (1 + z - (j : Int)))]) (fun | (j, (S, m, k), ls), wr => (j : Int) ≤ 1 + z ∧ ls.length = j ∧ (∀ x ∈ ls, goodL x) ∧ OB wr w.heap.size 5 S m k (payS ls) ∧ CD wr gC N ∧ Fr (fun k => k ≠ gC) w wr) (fun | (j, _) => (1 + z - (j : Int)).toNat) ((0, (none, 0, 0), [])) (.co (.co (.cons rfl (.nil)))) (⟨by omega, rfl, by simp, OB.nil_ _ _ _, hC, hE⟩) ?_
  intro ⟨j, ⟨S, m, k⟩, ls⟩ wr hJ KL1 hKL1
  clear hE hC
  obtain ⟨hj, hjl, hg, hO, hC, hE⟩ := hJ
  have hOl := hO.len
  have hpl := pay_len ls hg
  have hzE := hE.size
  refine Wc.seq (fun K5 hK5 => ?_)
  refine vs fun K6 hK6 => vR [(0, _), (3, _), (4, _)] ?_
  refine vM ?_
  refine vl (Gives.gtr rfl rfl rfl) ?_
  refine vn (hK6 _ _ ?_)
  refine Wc.cond _ rfl (fun h9 => ?_) (fun h9 => ?_)
  · first | replace h9 := dT h9 | replace h9 := nT h9 | skip
    refine Wc.skip ?_
    refine Wx.thenN (hK5 _ _ ?_)
    refine Wc.seq (fun K7 hK7 => ?_)
    refine Wc.block ?_
    refine vR [(0, _), (3, _), (4, _)] ?_
    refine vM ?_
    refine vM ?_
    refine Wl.call rfl rfl rfl rfl Tryd.func35 rfl (by kernel_rfl) rfl (lineD _ gC N hC (by omega)) ?_
    rintro x2 w52 ⟨S1, m1, k1, i, hi, rfl, hB1, hC1, hF1⟩
    refine ⟨_, rfl, ?_⟩
    have hlk := lineK_ok i hi
    have hm1 := hB1.len
    replace hO : OB w52 w.heap.size 5 S m k (payS ls) := own_fr hO hF1 (fun q hq => by omega)
    replace hE := hE.trans hF1
    refine Wl.does rfl rfl rfl (Does.appO rfl Tryd.underlying22 infoB rfl rfl hO hB1 (by omega) (by have := hE.size; omega)) ?_
    rintro _ w53 ⟨S2, k2, rfl, hO2, hB53⟩
    replace hC1 := hC1.fr (below_fr hB53) (fun q hq => by omega)
    replace hE := Fr.step hE hB53 (by omega)
    refine Wl.does rfl rfl rfl (Does.lit rfl Tryd.underlying22 infoB2 rfl rfl rfl rfl rfl) ?_
    rintro _ w54 ⟨g54, rfl, hs54, hk54, hx54⟩
    replace hO2 := hO2.ext hx54
    replace hC1 := hC1.ext hx54
    replace hE := hE.trans (Ext.fr hx54)
    refine Wl.does rfl rfl rfl (Does.appO rfl Tryd.underlying22 infoB rfl rfl hO2 ((mb1 10 hk54 rfl).bv (P := fun _ => True) trivial (n := 1) (c := 1) rfl (Nat.le_refl _) (by omega)) (by omega) (by have := hE.size; omega)) ?_
    rintro _ w55 ⟨S3, k3, rfl, hO3, hB55⟩
    replace hC1 := hC1.fr (below_fr hB55) (fun q hq => by omega)
    replace hE := Fr.step hE hB55 (by omega)
    refine vA ?_
    refine Wl.nil ?_
    refine Wx.blockN ?_
    refine Wx.thenN (hK7 _ _ ?_)
    refine vR [(0, _), (3, _), (4, _)] ?_
    refine vM ?_
    refine vSub ?_
    refine vA ?_
    refine Wl.nil ?_
    refine Wx.thenN ?_
    refine hKL1 (j + 1, (S3, m + m1 + 1, k3), ls ++ [lineK i]) _ _ (.co (.co (.cons rfl (.nil)))) ⟨by omega, by simp [hjl], good_snoc hg hlk, by rw [pay_snoc]; exact hO3, hC1, hE⟩ (by show (1 + z - ((j + 1 : Nat) : Int)).toNat < (1 + z - (j : Int)).toNat; omega)
  first | replace h9 := dF h9 | replace h9 := nF h9 | skip
  refine Wc.exit ?_
  refine Wx.thenE ?_
  refine Wx.thenE ?_
  refine Wx.hit ?_
  refine Wx.thenN (hK3 _ _ ?_)
  refine vs fun K8 hK8 => vR [(3, _)] ?_
  refine vM ?_
  refine vA ?_
  refine vn (hK8 _ _ ?_)
  refine Wc.ret ?_
  refine Wx.ret [_] ⟨rfl, trivial⟩ ?_
  exact ⟨S, m, k, payS ls, rfl, hO, by rw [pay_lines hg (by omega)]; intro h; rw [h] at hjl; simp at hjl; omega, by omega, by omega, hC, hE⟩
end Go.Proofs.YtnbgieccindpnaaDoor
/- Drawn inputs: images. -/
namespace Go.Proofs.YtnbgieccindpnaaDoor
set_option linter.all false
set_option maxRecDepth 20000
open Go.RowKit
def nameK (k : Nat) : List UInt8 := [[97], [103, 114, 117, 98], [108, 105, 110, 117, 120], [110, 101, 116, 45, 48], [116, 119, 101, 108, 118, 101, 45, 98, 121, 116, 101, 115]].getD k []
theorem nameK_at {k : Nat} (h : k < 5) : (#[txt (nameK 0), txt (nameK 1), txt (nameK 2), txt (nameK 3), txt (nameK 4)] : Array Value)[k]? = some (txt (nameK k)) := by
  match k, h with
  | 0, _ => rfl
  | 1, _ => rfl
  | 2, _ => rfl
  | 3, _ => rfl
  | 4, _ => rfl
theorem nameK_ok : ∀ k < 5, nameS (nameK k) = true := by decide
theorem namesD (w : World) : Calls Tryd.prog 81 #[] w fun e w' => e = .returned (.agg #[txt (nameK 0), txt (nameK 1), txt (nameK 2), txt (nameK 3), txt (nameK 4)]) ∧ Ext w w' := by
  refine calls_enter Tryd.func81 rfl Tryd.ntmps81 rfl ?_
  have hE : Ext w w := Ext.refl w
  refine vs fun K1 hK1 => vR [] ?_
  refine Wl.does rfl rfl rfl (Does.alB (.agg #[(.string ByteArray.empty), (.string ByteArray.empty), (.string ByteArray.empty), (.string ByteArray.empty), (.string ByteArray.empty)]) rfl (by kernel_rfl) rfl) ?_
  rintro _ w0_0 ⟨b0, rfl, hs0, hb0, hx0_0⟩
  have hg0 : w.heap.size ≤ b0 := Nat.le_trans hE.size hs0
  replace hE := hE.trans hx0_0
  refine vn (hK1 _ _ ?_)
  refine vs fun K2 hK2 => vR [(0, _)] ?_
  refine vl (Gives.buildA1 rfl Tryd.underlying107 (by kernel_rfl) (by kernel_rfl) rfl rfl rfl) ?_
  refine Wl.acts rfl rfl (Does.stL 5 rfl rfl rfl hb0 (by kernel_rfl) rfl rfl rfl) ?_
  rintro _ w1_1 ⟨hbn, hF1_1⟩
  replace hE := Ext.over hE hF1_1 hg0
  replace hb0 := hbn
  clear hbn
  refine vn (hK2 _ _ ?_)
  refine Wc.ret ?_
  refine Wx.ret [_] ⟨⟨_, rfl, res_blk hb0 Tryd.underlying107 rfl (by kernel_rfl)⟩, trivial⟩ ?_
  exact ⟨rfl, hE⟩
def ImgR (w : World) (g N : Nat) (role : Int) (e : Ending) (w' : World) : Prop := ∃ x : Im, ∃ S m k, e = .returned (.agg #[.int .i64 x.role, txt x.name, .int .i64 x.ver, .slice S m k]) ∧ OB w' w.heap.size 5 S m k x.pay ∧ imgE x = 0 ∧ x.role = role ∧ CD w' g N ∧ Fr (fun k => k ≠ g) w w'
set_option maxRecDepth 20000 in
set_option maxHeartbeats 2000000 in
theorem imageD (w : World) (gC N : Nat) (h : CD w gC N) (hN : N ≤ w.heap.size) (role : Int) (hr : 1 ≤ role ∧ role ≤ 4) : Calls Tryd.prog 60 #[.pointer (some ⟨gC, 0, none⟩), .int .i64 role] w (ImgR w gC N role) := by
  have hlt := h.lt
  refine calls_enter Tryd.func60 rfl Tryd.ntmps60 rfl ?_
  have hE : Fr (fun k => k ≠ gC) w w := Fr.refl _ _
  refine vs fun K1 hK1 => vR [(0, _), (1, _)] ?_
  refine Wl.does rfl rfl rfl (Does.alB (.agg #[(.int .i64 0), (.string ByteArray.empty), (.int .i64 0), (.slice none 0 0)]) rfl (by kernel_rfl) rfl) ?_
  rintro _ w0_0 ⟨b4, rfl, hs4, hb4, hx0_0⟩
  have hg4 : w.heap.size ≤ b4 := Nat.le_trans hE.size hs4
  replace hE := hE.trans (Ext.fr hx0_0)
  have hC := h.ext hx0_0
  have hn4g : b4 ≠ gC := by omega
  refine vn (hK1 _ _ ?_)
  refine Wc.joinC (ι := Nat × List UInt8 × Int) [(0, _), (1, _), (4, _)] (fun | (b5, _, _) => [(5, .pointer (some ⟨b5, 0, none⟩))]) (fun | (b5, nm, v), wr => nameS nm = true ∧ (0 ≤ v ∧ v ≤ 1000000) ∧ w.heap.size ≤ b5 ∧ b4 ≠ b5 ∧ CD wr gC N ∧ Blk wr b4 84 #[.int .i64 0, .string ByteArray.empty, .int .i64 0, .slice none 0 0] ∧ Blk wr b5 84 #[.int .i64 (role), txt (nm), .int .i64 (v), .slice none 0 0] ∧ Fr (fun k => k ≠ gC) w wr) ?_ ?_ (.cons rfl (.cons rfl (.cons rfl (.nil))))
  · intro K2 hJ2
    refine vK [(0, _), (1, _), (4, _)] ?_
    refine Wc.regionB (fun q => [1, 3, 6].contains q) [gC] (.read 0 (.read 2 (.read 5 (.call true 1 (.call true 3 (.read 4 (.call true 6 (.read 7 (.call false 8 .tail .none)) (.call false 8 (.call true 6 (.read 7 .tail) .none) .none))) (.call false 8 (.call true 3 (.read 4 (.call true 6 (.read 7 .tail) .none)) .none) .none)) (.call true 8 (.call true 1 (.call true 3 (.read 4 (.call true 6 (.read 7 .tail) .none)) .none) .none) .none))))) 9 (by kernel_rfl) (by kernel_rfl) (by kernel_rfl) ?_
    intro w1 hR1
    replace hb4 := hb4.ext hR1.ext
    replace hE := hE.trans (Ext.fr hR1.ext)
    have hO1_4 : Old w1.heap.size [gC] b4 := ⟨hb4.lt, ⟨by first | assumption | exact Ne.symm (by assumption), trivial⟩⟩
    have hX := Ext.refl w1
    replace hC := hC.ext hR1.ext
    refine RunE.read rfl rfl rfl rfl (fun wS _ => (Gives.move rfl rfl)) ?_
    refine RunE.read rfl rfl rfl rfl (fun wS _ => (Gives.move rfl rfl)) ?_
    refine RunE.read rfl rfl rfl rfl (fun wS _ => (Gives.move rfl rfl)) ?_
    refine RunE.freeC rfl rfl rfl rfl rfl Tryd.func81 rfl (by kernel_rfl) rfl (namesD _) ?_ ?_
    · rintro x1 w11 ⟨rfl, hx11⟩
      refine ⟨_, rfl, ?_⟩
      replace hX := hX.trans hx11
      refine RunE.freeC rfl rfl rfl rfl rfl Tryd.func36 rfl (by kernel_rfl) rfl (nextD _ gC N (hC.ext hX) 5 (by omega)) ?_ ?_
      · rintro x2 w13 ⟨z1, rfl, ⟨hz1, hz1'⟩, hC1, hF13⟩
        refine ⟨_, rfl, ?_⟩
        replace hb4 := (hb4.ext hX).frA hF13
        replace hE := (hE.trans (Ext.fr hX)).trans hF13
        replace hX := Ext.refl w13
        refine RunE.read rfl rfl rfl rfl (fun wS _ => (Gives.idx1 (i := z1.toNat) rfl Tryd.underlying107 (by kernel_rfl) (by kernel_rfl) rfl rfl (by omega) (by omega) (nameK_at (k := z1.toNat) (by omega)))) ?_
        refine RunE.freeC rfl rfl rfl rfl rfl Tryd.func36 rfl (by kernel_rfl) rfl (nextD _ gC N (hC1.ext hX) 5 (by omega)) ?_ ?_
        · rintro x3 w16 ⟨z2, rfl, ⟨hz2, hz2'⟩, hC2, hF16⟩
          refine ⟨_, rfl, ?_⟩
          replace hb4 := (hb4.ext hX).frA hF16
          replace hE := (hE.trans (Ext.fr hX)).trans hF16
          replace hX := Ext.refl w16
          refine RunE.read rfl rfl rfl rfl (fun wS _ => (Gives.buildS (pl := [(0, 1), (1, 1), (2, 1), (3, 1)]) (zv := (.agg #[(.int .i64 0), (.string ByteArray.empty), (.int .i64 0), (.slice none 0 0)])) rfl Tryd.underlying84 (by kernel_rfl) (by kernel_rfl) rfl rfl)) ?_
          refine RunE.turn rfl rfl rfl rfl (Does.alB (.agg #[(.int .i64 0), (.string ByteArray.empty), (.int .i64 0), (.slice none 0 0)]) rfl (by kernel_rfl) rfl) ?_ RunE.none
          rintro _ w1_8 ⟨b5, rfl, hs5, hb5, hx1_8⟩
          refine ⟨hx1_8.fr, ?_⟩
          have hn4_5 : b4 ≠ b5 := (hb4.ext hX).ne hs5
          have hg5 : w.heap.size ≤ b5 := Nat.le_trans (hE.trans (Ext.fr hX)).size hs5
          have hN5 := Nat.le_trans hX.size hs5
          replace hC2 := hC2.ext hx1_8
          replace hX := hX.trans hx1_8
          have hn5g : b5 ≠ gC := by omega
          refine RunE.tail rfl ?_
          replace hb4 := hb4.ext hX
          replace hE := hE.trans (Ext.fr hX)
          refine Wl.acts rfl rfl (Does.stL 4 rfl rfl rfl hb5 (by kernel_rfl) rfl rfl rfl) ?_
          rintro _ w1_9 ⟨hbn, hF1_9⟩
          replace hb4 := hb4.frA hF1_9
          replace hE := Fr.over hE hF1_9 hg5
          replace hb5 := hbn
          clear hbn
          have hnm := nameK_ok z1.toNat (by omega)
          have hC3 := hC2.fr hF1_9 (fun q hq => by omega)
          have hn45 : b4 ≠ b5 := by first | assumption | exact Ne.symm (by assumption)
          refine Wl.nil ?_
          refine Wx.thenN ?_
          exact hJ2 (b5, nameK z1.toNat, z2) _ _ (.co (.cons rfl (.cons rfl (.cons rfl (.nil))))) ⟨hnm, ⟨by omega, by omega⟩, hg5, hn45, hC3, hb4, hb5, hE⟩
        refine RunE.turn rfl rfl rfl rfl (Does.alB (.agg #[(.int .i64 0), (.string ByteArray.empty), (.int .i64 0), (.slice none 0 0)]) rfl (by kernel_rfl) rfl) ?_ RunE.none
        rintro _ w1_8 ⟨b5, rfl, hs5, hb5, hx1_8⟩
        refine ⟨hx1_8.fr, ?_⟩
        have hn4_5 : b4 ≠ b5 := (hb4.ext hX).ne hs5
        have hg5 : w.heap.size ≤ b5 := Nat.le_trans (hE.trans (Ext.fr hX)).size hs5
        have hN5 := Nat.le_trans hX.size hs5
        replace hX := hX.trans hx1_8
        have hn5g : b5 ≠ gC := by omega
        refine RunE.freeC rfl rfl rfl rfl rfl Tryd.func36 rfl (by kernel_rfl) rfl (nextD _ gC N (hC1.ext hX) 5 (by omega)) ?_ RunE.none
        rintro x3 w16 ⟨z2, rfl, ⟨hz2, hz2'⟩, hC2, hF16⟩
        refine ⟨_, rfl, ?_⟩
        replace hb4 := (hb4.ext hX).frA hF16
        replace hb5 := hb5.frA hF16
        replace hE := (hE.trans (Ext.fr hX)).trans hF16
        replace hX := Ext.refl w16
        refine RunE.read rfl rfl rfl rfl (fun wS _ => (Gives.buildS (pl := [(0, 1), (1, 1), (2, 1), (3, 1)]) (zv := (.agg #[(.int .i64 0), (.string ByteArray.empty), (.int .i64 0), (.slice none 0 0)])) rfl Tryd.underlying84 (by kernel_rfl) (by kernel_rfl) rfl rfl)) ?_
        refine RunE.tail rfl ?_
        replace hb4 := hb4.ext hX
        replace hb5 := hb5.ext hX
        replace hE := hE.trans (Ext.fr hX)
        refine Wl.acts rfl rfl (Does.stL 4 rfl rfl rfl hb5 (by kernel_rfl) rfl rfl rfl) ?_
        rintro _ w1_9 ⟨hbn, hF1_9⟩
        replace hb4 := hb4.frA hF1_9
        replace hE := Fr.over hE hF1_9 hg5
        replace hb5 := hbn
        clear hbn
        have hnm := nameK_ok z1.toNat (by omega)
        have hC3 := hC2.fr hF1_9 (fun q hq => by omega)
        have hn45 : b4 ≠ b5 := by first | assumption | exact Ne.symm (by assumption)
        refine Wl.nil ?_
        refine Wx.thenN ?_
        exact hJ2 (b5, nameK z1.toNat, z2) _ _ (.co (.cons rfl (.cons rfl (.cons rfl (.nil))))) ⟨hnm, ⟨by omega, by omega⟩, hg5, hn45, hC3, hb4, hb5, hE⟩
      refine RunE.turn rfl rfl rfl rfl (Does.alB (.agg #[(.int .i64 0), (.string ByteArray.empty), (.int .i64 0), (.slice none 0 0)]) rfl (by kernel_rfl) rfl) ?_ RunE.none
      rintro _ w1_8 ⟨b5, rfl, hs5, hb5, hx1_8⟩
      refine ⟨hx1_8.fr, ?_⟩
      have hn4_5 : b4 ≠ b5 := (hb4.ext hX).ne hs5
      have hg5 : w.heap.size ≤ b5 := Nat.le_trans (hE.trans (Ext.fr hX)).size hs5
      have hN5 := Nat.le_trans hX.size hs5
      replace hX := hX.trans hx1_8
      have hn5g : b5 ≠ gC := by omega
      refine RunE.freeC rfl rfl rfl rfl rfl Tryd.func36 rfl (by kernel_rfl) rfl (nextD _ gC N (hC.ext hX) 5 (by omega)) ?_ RunE.none
      rintro x2 w13 ⟨z1, rfl, ⟨hz1, hz1'⟩, hC1, hF13⟩
      refine ⟨_, rfl, ?_⟩
      replace hb4 := (hb4.ext hX).frA hF13
      replace hb5 := hb5.frA hF13
      replace hE := (hE.trans (Ext.fr hX)).trans hF13
      replace hX := Ext.refl w13
      refine RunE.read rfl rfl rfl rfl (fun wS _ => (Gives.idx1 (i := z1.toNat) rfl Tryd.underlying107 (by kernel_rfl) (by kernel_rfl) rfl rfl (by omega) (by omega) (nameK_at (k := z1.toNat) (by omega)))) ?_
      refine RunE.freeC rfl rfl rfl rfl rfl Tryd.func36 rfl (by kernel_rfl) rfl (nextD _ gC N (hC1.ext hX) 5 (by omega)) ?_ RunE.none
      rintro x3 w16 ⟨z2, rfl, ⟨hz2, hz2'⟩, hC2, hF16⟩
      refine ⟨_, rfl, ?_⟩
      replace hb4 := (hb4.ext hX).frA hF16
      replace hb5 := (hb5.ext hX).frA hF16
      replace hE := (hE.trans (Ext.fr hX)).trans hF16
      replace hX := Ext.refl w16
      refine RunE.read rfl rfl rfl rfl (fun wS _ => (Gives.buildS (pl := [(0, 1), (1, 1), (2, 1), (3, 1)]) (zv := (.agg #[(.int .i64 0), (.string ByteArray.empty), (.int .i64 0), (.slice none 0 0)])) rfl Tryd.underlying84 (by kernel_rfl) (by kernel_rfl) rfl rfl)) ?_
      refine RunE.tail rfl ?_
      replace hb4 := hb4.ext hX
      replace hb5 := hb5.ext hX
      replace hE := hE.trans (Ext.fr hX)
      refine Wl.acts rfl rfl (Does.stL 4 rfl rfl rfl hb5 (by kernel_rfl) rfl rfl rfl) ?_
      rintro _ w1_9 ⟨hbn, hF1_9⟩
      replace hb4 := hb4.frA hF1_9
      replace hE := Fr.over hE hF1_9 hg5
      replace hb5 := hbn
      clear hbn
      have hnm := nameK_ok z1.toNat (by omega)
      have hC3 := hC2.fr hF1_9 (fun q hq => by omega)
      have hn45 : b4 ≠ b5 := by first | assumption | exact Ne.symm (by assumption)
      refine Wl.nil ?_
      refine Wx.thenN ?_
      exact hJ2 (b5, nameK z1.toNat, z2) _ _ (.co (.cons rfl (.cons rfl (.cons rfl (.nil))))) ⟨hnm, ⟨by omega, by omega⟩, hg5, hn45, hC3, hb4, hb5, hE⟩
    refine RunE.free rfl rfl rfl rfl (Does.alB (.agg #[(.int .i64 0), (.string ByteArray.empty), (.int .i64 0), (.slice none 0 0)]) rfl (by kernel_rfl) rfl) ?_ RunE.none
    rintro _ w1_8 ⟨b5, rfl, hs5, hb5, hx1_8⟩
    have hn4_5 : b4 ≠ b5 := (hb4.ext hX).ne hs5
    have hg5 : w.heap.size ≤ b5 := Nat.le_trans (hE.trans (Ext.fr hX)).size hs5
    have hN5 := Nat.le_trans hX.size hs5
    replace hX := hX.trans hx1_8
    have hn5g : b5 ≠ gC := by omega
    refine RunE.freeC rfl rfl rfl rfl rfl Tryd.func81 rfl (by kernel_rfl) rfl (namesD _) ?_ RunE.none
    rintro x1 w11 ⟨rfl, hx11⟩
    refine ⟨_, rfl, ?_⟩
    replace hb5 := hb5.ext hx11
    replace hX := hX.trans hx11
    refine RunE.freeC rfl rfl rfl rfl rfl Tryd.func36 rfl (by kernel_rfl) rfl (nextD _ gC N (hC.ext hX) 5 (by omega)) ?_ RunE.none
    rintro x2 w13 ⟨z1, rfl, ⟨hz1, hz1'⟩, hC1, hF13⟩
    refine ⟨_, rfl, ?_⟩
    replace hb4 := (hb4.ext hX).frA hF13
    replace hb5 := hb5.frA hF13
    replace hE := (hE.trans (Ext.fr hX)).trans hF13
    replace hX := Ext.refl w13
    refine RunE.read rfl rfl rfl rfl (fun wS _ => (Gives.idx1 (i := z1.toNat) rfl Tryd.underlying107 (by kernel_rfl) (by kernel_rfl) rfl rfl (by omega) (by omega) (nameK_at (k := z1.toNat) (by omega)))) ?_
    refine RunE.freeC rfl rfl rfl rfl rfl Tryd.func36 rfl (by kernel_rfl) rfl (nextD _ gC N (hC1.ext hX) 5 (by omega)) ?_ RunE.none
    rintro x3 w16 ⟨z2, rfl, ⟨hz2, hz2'⟩, hC2, hF16⟩
    refine ⟨_, rfl, ?_⟩
    replace hb4 := (hb4.ext hX).frA hF16
    replace hb5 := (hb5.ext hX).frA hF16
    replace hE := (hE.trans (Ext.fr hX)).trans hF16
    replace hX := Ext.refl w16
    refine RunE.read rfl rfl rfl rfl (fun wS _ => (Gives.buildS (pl := [(0, 1), (1, 1), (2, 1), (3, 1)]) (zv := (.agg #[(.int .i64 0), (.string ByteArray.empty), (.int .i64 0), (.slice none 0 0)])) rfl Tryd.underlying84 (by kernel_rfl) (by kernel_rfl) rfl rfl)) ?_
    refine RunE.tail rfl ?_
    replace hb4 := hb4.ext hX
    replace hb5 := hb5.ext hX
    replace hE := hE.trans (Ext.fr hX)
    refine Wl.acts rfl rfl (Does.stL 4 rfl rfl rfl hb5 (by kernel_rfl) rfl rfl rfl) ?_
    rintro _ w1_9 ⟨hbn, hF1_9⟩
    replace hb4 := hb4.frA hF1_9
    replace hE := Fr.over hE hF1_9 hg5
    replace hb5 := hbn
    clear hbn
    have hnm := nameK_ok z1.toNat (by omega)
    have hC3 := hC2.fr hF1_9 (fun q hq => by omega)
    have hn45 : b4 ≠ b5 := by first | assumption | exact Ne.symm (by assumption)
    refine Wl.nil ?_
    refine Wx.thenN ?_
    exact hJ2 (b5, nameK z1.toNat, z2) _ _ (.co (.cons rfl (.cons rfl (.cons rfl (.nil))))) ⟨hnm, ⟨by omega, by omega⟩, hg5, hn45, hC3, hb4, hb5, hE⟩
  intro ⟨b5, nm, v⟩ wj hJ
  clear hb4 hE hC
  obtain ⟨hnm, ⟨hv0, hv1⟩, hg5, hn4_5, hC, hb4, hb5, hE⟩ := hJ
  have hn5g : b5 ≠ gC := by omega
  refine Wc.joinC (ι := Int) [(0, _), (1, _), (4, _), (5, _)] (fun _ => []) (fun v wr => (0 ≤ v ∧ v ≤ 1000000) ∧ CD wr gC N ∧ Blk wr b4 84 #[.int .i64 0, .string ByteArray.empty, .int .i64 0, .slice none 0 0] ∧ Blk wr b5 84 #[.int .i64 (role), txt (nm), .int .i64 (v), .slice none 0 0] ∧ Fr (fun k => k ≠ gC) w wr) ?_ ?_ (.cons rfl (.cons rfl (.cons rfl (.cons rfl (.nil)))))
  · intro K3 hJ3
    refine vs fun K4 hK4 => vR [(0, _), (1, _), (4, _), (5, _)] ?_
    refine vM ?_
    refine Wl.call rfl rfl rfl rfl Tryd.func36 rfl (by kernel_rfl) rfl (nextD _ gC N hC 9 (by omega)) ?_
    rintro x4 w21 ⟨z3, rfl, ⟨hz3, hz3'⟩, hC4, hF21⟩
    refine ⟨_, rfl, ?_⟩
    replace hb4 := hb4.frA hF21
    replace hb5 := hb5.frA hF21
    replace hE := hE.trans hF21
    refine vl (Gives.eql rfl rfl rfl) ?_
    refine vn (hK4 _ _ ?_)
    refine Wc.cond _ rfl (fun h17 => ?_) (fun h17 => ?_)
    · first | replace h17 := dT h17 | replace h17 := nT h17 | skip
      refine vR [(0, _), (1, _), (4, _), (5, _)] ?_
      refine vM ?_
      refine Wl.call rfl rfl rfl rfl Tryd.func36 rfl (by kernel_rfl) rfl (nextD _ gC N hC4 3 (by omega)) ?_
      rintro x5 w31 ⟨z4, rfl, ⟨hz4, hz4'⟩, hC5, hF31⟩
      refine ⟨_, rfl, ?_⟩
      replace hb4 := hb4.frA hF31
      replace hb5 := hb5.frA hF31
      replace hE := hE.trans hF31
      refine vSub ?_
      refine vF 2 Tryd.underlying84 ?_
      refine Wl.acts rfl rfl (Does.stC rfl rfl rfl hb5 (by kernel_rfl) (Nat.le_of_ble_eq_true rfl) rfl) ?_
      rintro _ w3_4 ⟨hbn, hF3_4⟩
      replace hb4 := hb4.frA hF3_4
      replace hE := Fr.over hE hF3_4 hg5
      replace hb5 := hbn
      clear hbn
      (try simp only [List.setIfInBounds_toArray, List.set_cons_zero, List.set_cons_succ, Nat.reduceAdd, Nat.zero_add] at hb5)
      have hC6 := hC5.fr hF3_4 (fun q hq => by omega)
      refine Wl.nil ?_
      refine Wx.thenN ?_
      exact hJ3 _ _ _ (.cons rfl (.cons rfl (.cons rfl (.cons rfl (.nil))))) ⟨⟨by omega, by omega⟩, hC6, hb4, hb5, hE⟩
    first | replace h17 := dF h17 | replace h17 := nF h17 | skip
    refine Wc.skip ?_
    refine Wx.thenN ?_
    exact hJ3 _ _ _ (.cons rfl (.cons rfl (.cons rfl (.cons rfl (.nil))))) ⟨⟨by omega, by omega⟩, hC4, hb4, hb5, hE⟩
  intro v wk hJ
  clear hb4 hb5 hE hC hv0 hv1
  obtain ⟨⟨hv0, hv1⟩, hC, hb4, hb5, hE⟩ := hJ
  refine Wc.seq (fun K5 hK5 => ?_)
  refine vs fun K6 hK6 => vR [(0, _), (1, _), (4, _), (5, _)] ?_
  refine vM ?_
  refine vl (Gives.eql rfl rfl rfl) ?_
  refine vn (hK6 _ _ ?_)
  refine Wc.cond _ rfl (fun h23 => ?_) (fun h23 => ?_)
  · first | replace h23 := dT h23 | replace h23 := nT h23 | skip
    refine vs fun K7 hK7 => vR [(0, _), (4, _), (5, _)] ?_
    refine vM ?_
    refine Wl.call rfl rfl rfl rfl Tryd.func82 rfl (by kernel_rfl) rfl (payloadD _ gC N hC (by have := hE.size; omega)) ?_
    rintro x6 w51 ⟨S, m, k, l, rfl, hO, hls, hl1, hl36, hC7, hF51⟩
    refine ⟨_, rfl, ?_⟩
    have hzE := hE.size
    have hz5 := hb5.lt
    have hz4 := hb4.lt
    replace hb4 := hb4.frA hF51
    replace hb5 := hb5.frA hF51
    replace hE := hE.trans hF51
    refine vF 3 Tryd.underlying84 ?_
    refine Wl.acts rfl rfl (Does.stC rfl rfl rfl hb5 (by kernel_rfl) (Nat.le_of_ble_eq_true rfl) rfl) ?_
    rintro _ w5_3 ⟨hbn, hF5_3⟩
    replace hb4 := hb4.frA hF5_3
    replace hE := Fr.over hE hF5_3 hg5
    replace hb5 := hbn
    clear hbn
    (try simp only [List.setIfInBounds_toArray, List.set_cons_zero, List.set_cons_succ, Nat.reduceAdd, Nat.zero_add] at hb5)
    replace hC7 := hC7.fr hF5_3 (fun q hq => by omega)
    have hO2 := own_fr hO hF5_3 (fun q hq => by omega)
    refine vn (hK7 _ _ ?_)
    refine vs fun K8 hK8 => vR [(4, _), (5, _)] ?_
    refine vl (Gives.ldW rfl (by kernel_rfl) rfl hb5 (by kernel_rfl)) ?_
    refine Wl.acts rfl rfl (Does.stL 4 rfl rfl rfl hb4 (by kernel_rfl) rfl rfl rfl) ?_
    rintro _ w6_1 ⟨hbn, hF6_1⟩
    replace hb5 := hb5.frA hF6_1
    replace hE := Fr.over hE hF6_1 hg4
    replace hb4 := hbn
    clear hbn
    replace hC7 := hC7.fr hF6_1 (fun q hq => by omega)
    have hO3 : OB w6_1 _ 5 S m k l := own_fr hO2 hF6_1 (fun q hq => by omega)
    refine vn (hK8 _ _ ?_)
    refine Wc.ret ?_
    refine Wx.thenR ?_
    refine Wx.ret [_] ⟨⟨_, rfl, res_blk hb4 Tryd.underlying84 rfl (by kernel_rfl)⟩, trivial⟩ ?_
    exact ⟨⟨role, nm, v, l⟩, S, m, k, rfl, hO3.mono (by omega), img_mk ⟨by show 1 ≤ role; omega, by show role ≤ 4; omega, by show 0 ≤ v; omega, by show v ≤ 1000000; omega⟩ hnm (by show l.length ≤ 64; omega) (fun _ => hls), rfl, hC7, hE⟩
  first | replace h23 := dF h23 | replace h23 := nF h23 | skip
  refine Wc.skip ?_
  refine Wx.thenN (hK5 _ _ ?_)
  refine vs fun K9 hK9 => vR [(0, _), (4, _), (5, _)] ?_
  refine vM ?_
  refine Wl.call rfl rfl rfl rfl Tryd.func36 rfl (by kernel_rfl) rfl (nextD _ gC N hC 7 (by omega)) ?_
  rintro x7 w71 ⟨z5, rfl, ⟨hz5, hz5'⟩, hC8, hF71⟩
  refine ⟨_, rfl, ?_⟩
  replace hb4 := hb4.frA hF71
  replace hb5 := hb5.frA hF71
  replace hE := hE.trans hF71
  have hzE := hE.size
  have hzb4 := hb4.lt
  have hzb5 := hb5.lt
  refine Wl.does rfl rfl rfl (Does.mkM z5.toNat rfl rfl Tryd.underlying22 infoB rfl (by omega) rfl (by omega)) ?_
  rintro _ w72 ⟨gp, rfl, hgp, hM, hx72⟩
  have hgp4 : b4 ≠ gp := by omega
  have hgp5 : b5 ≠ gp := by omega
  have hgpg : gp ≠ gC := by omega
  have hgpw : w.heap.size ≤ gp := by omega
  replace hC8 := hC8.ext hx72
  replace hb4 := hb4.ext hx72
  replace hb5 := hb5.ext hx72
  replace hE := hE.trans (Ext.fr hx72)
  refine vF 3 Tryd.underlying84 ?_
  refine Wl.acts rfl rfl (Does.stC rfl rfl rfl hb5 (by kernel_rfl) (Nat.le_of_ble_eq_true rfl) rfl) ?_
  rintro _ w7_4 ⟨hbn, hF7_4⟩
  replace hb4 := hb4.frA hF7_4
  replace hE := Fr.over hE hF7_4 hg5
  replace hb5 := hbn
  clear hbn
  (try simp only [List.setIfInBounds_toArray, List.set_cons_zero, List.set_cons_succ, Nat.reduceAdd, Nat.zero_add] at hb5)
  replace hC8 := hC8.fr hF7_4 (fun q hq => by omega)
  replace hM := hM.fr hF7_4 (fun h => hgp5 h.symm)
  refine vn (hK9 _ _ ?_)
  refine Wc.seq (fun K10 hK10 => ?_)
  refine vs fun K11 hK11 => vR [(0, _), (4, _), (5, _)] ?_
  refine vA ?_
  refine vn (hK11 _ _ ?_)
  refine Wc.block ?_
  refine vK [(0, _), (4, _), (5, _), (6, _)] ?_
  refine Wc.loopC (ι := Nat × List UInt8) [(0, _), (4, _), (5, _)] (fun | (i, _) => [(6, .int .i64 (i : Int))]) (fun | (i, lb), wr => i ≤ z5.toNat ∧ lb.length = z5.toNat ∧ MB wr gp 5 lb ∧ CD wr gC N ∧ Blk wr b4 84 #[.int .i64 0, .string ByteArray.empty, .int .i64 0, .slice none 0 0] ∧ Blk wr b5 84 #[.int .i64 (role), txt (nm), .int .i64 (v), .slice (some ⟨gp, 0, none⟩) z5.toNat z5.toNat] ∧ Fr (fun k => k ≠ gC) w wr) (fun | (i, _) => z5.toNat - i) ((0, List.replicate z5.toNat 0)) (.co (.cons rfl (.cons rfl (.cons rfl (.nil))))) (⟨by omega, by simp, hM, hC8, hb4, hb5, hE⟩) ?_
  intro ⟨i, lb⟩ wr hJ KL1 hKL1
  clear hb4 hb5 hE hC hM hC8
  obtain ⟨hi, hlb, hM, hC, hb4, hb5, hE⟩ := hJ
  refine Wc.seq (fun K12 hK12 => ?_)
  refine vs fun K13 hK13 => vR [(0, _), (4, _), (5, _), (6, _)] ?_
  refine vM ?_
  refine vF 3 Tryd.underlying84 ?_
  refine vL hb5 ?_
  refine vl (Gives.lenS rfl Tryd.underlying22 rfl) ?_
  refine vl (Gives.lss rfl rfl rfl) ?_
  refine vn (hK13 _ _ ?_)
  refine Wc.cond _ rfl (fun h36 => ?_) (fun h36 => ?_)
  · first | replace h36 := dT h36 | replace h36 := nT h36 | skip
    refine Wc.skip ?_
    refine Wx.thenN (hK12 _ _ ?_)
    refine Wc.seq (fun K14 hK14 => ?_)
    refine Wc.block ?_
    refine vK [(0, _), (4, _), (5, _), (6, _)] ?_
    refine Wc.regionB (fun q => [1, 4].contains q) [gC] (.read 0 (.read 1 (.read 2 (.read 3 (.call false 4 (.read 5 .tail) .none))))) 6 (by kernel_rfl) (by kernel_rfl) (by kernel_rfl) ?_
    intro w11 hR11
    replace hb4 := hb4.ext hR11.ext
    replace hb5 := hb5.ext hR11.ext
    replace hE := hE.trans (Ext.fr hR11.ext)
    have hO11_4 : Old w11.heap.size [gC] b4 := ⟨hb4.lt, ⟨by first | assumption | exact Ne.symm (by assumption), trivial⟩⟩
    have hO11_5 : Old w11.heap.size [gC] b5 := ⟨hb5.lt, ⟨by first | assumption | exact Ne.symm (by assumption), trivial⟩⟩
    have hX := Ext.refl w11
    replace hC := hC.ext hR11.ext
    replace hM := hM.ext hR11.ext
    refine RunE.read rfl rfl rfl rfl (fun wS _ => (Gives.fieldAt 3 rfl Tryd.underlying84 rfl (by kernel_rfl) rfl rfl)) ?_
    refine RunE.readM rfl rfl rfl rfl rfl (fun wS hS => (Gives.ldK rfl (by kernel_rfl) rfl ((hb5.ext hX).fr hS hO11_5) rfl)) ?_
    refine RunE.read rfl rfl rfl rfl (fun wS _ => (Gives.move rfl rfl)) ?_
    refine RunE.read rfl rfl rfl rfl (fun wS _ => (Gives.move rfl rfl)) ?_
    refine RunE.turnC rfl rfl rfl rfl rfl Tryd.func36 rfl (by kernel_rfl) rfl (nextD _ gC N (hC.ext hX) 256 (by omega)) ?_ RunE.none
    rintro x8 w114 ⟨z6, rfl, ⟨hz6, hz6'⟩, hC9, hF114⟩
    refine ⟨_, rfl, ?_⟩
    have hM2 := (hM.ext hX).fr hF114 hgpg
    refine ⟨hF114.mono (fun k h => h.2.1), ?_⟩
    replace hb4 := (hb4.ext hX).frA hF114
    replace hb5 := (hb5.ext hX).frA hF114
    replace hE := (hE.trans (Ext.fr hX)).trans hF114
    replace hX := Ext.refl w114
    refine RunE.read rfl rfl rfl rfl (fun wS _ => (Gives.conv rfl Tryd.underlying3 Tryd.underlying5 rfl (by first | exact IntWalk.i64_in _ (by omega) | exact u64_in _ (by omega) | exact u32_in _ (by omega) | exact u8_in _ (by omega) | exact rfl))) ?_
    refine RunE.tail rfl ?_
    replace hb4 := hb4.ext hX
    replace hb5 := hb5.ext hX
    replace hE := hE.trans (Ext.fr hX)
    refine vl (Gives.ixS (i := i) rfl Tryd.underlying22 (by kernel_rfl) rfl rfl (by omega) (by omega)) ?_
    refine Wl.acts rfl rfl (Does.stM (i := i) (UInt8.ofNat z6.toNat) rfl rfl rfl (by rw [UInt8.toNat_ofNat']; omega) hM2 (by kernel_rfl) (by omega)) ?_
    rintro _ w117 ⟨hM3, hF117⟩
    have hC10 := hC9.fr hF117 (fun q hq => by omega)
    replace hb4 := hb4.frA hF117
    replace hb5 := hb5.frA hF117
    replace hE := Fr.over hE hF117 hgpw
    refine Wl.nil ?_
    refine Wx.blockN ?_
    refine Wx.thenN (hK14 _ _ ?_)
    refine vR [(0, _), (4, _), (5, _), (6, _)] ?_
    refine vM ?_
    refine vAdd ?_
    refine vA ?_
    refine Wl.nil ?_
    refine Wx.thenN ?_
    exact hKL1 (i + 1, _) _ _ (.co (.cons rfl (.cons rfl (.cons rfl (.nil))))) ⟨by omega, by simpa using hlb, hM3, hC10, hb4, hb5, hE⟩ (by show z5.toNat - (i + 1) < z5.toNat - i; omega)
  first | replace h36 := dF h36 | replace h36 := nF h36 | skip
  refine Wc.exit ?_
  refine Wx.thenE ?_
  refine Wx.thenE ?_
  refine Wx.hit ?_
  refine Wx.thenN (hK10 _ _ ?_)
  refine vs fun K15 hK15 => vR [(4, _), (5, _)] ?_
  refine vl (Gives.ldW rfl (by kernel_rfl) rfl hb5 (by kernel_rfl)) ?_
  refine Wl.acts rfl rfl (Does.stL 4 rfl rfl rfl hb4 (by kernel_rfl) rfl rfl rfl) ?_
  rintro _ w12_1 ⟨hbn, hF12_1⟩
  replace hb5 := hb5.frA hF12_1
  replace hE := Fr.over hE hF12_1 hg4
  replace hb4 := hbn
  clear hbn
  have hMf := hM.fr hF12_1 (fun h => hgp4 h.symm)
  have hCf := hC.fr hF12_1 (fun q hq => by omega)
  refine vn (hK15 _ _ ?_)
  refine Wc.ret ?_
  refine Wx.ret [_] ⟨⟨_, rfl, res_blk hb4 Tryd.underlying84 rfl (by kernel_rfl)⟩, trivial⟩ ?_
  exact ⟨⟨role, nm, v, lb⟩, _, _, _, rfl, hMf.ob hgpw (by omega) (Nat.le_refl _) rfl (by omega), img_mk ⟨by show 1 ≤ role; omega, by show role ≤ 4; omega, by show 0 ≤ v; omega, by show v ≤ 1000000; omega⟩ hnm (by show lb.length ≤ 64; omega) (fun q => absurd q h23), rfl, hCf, hE⟩
end Go.Proofs.YtnbgieccindpnaaDoor
/- Images: Digests. -/
namespace Go.Proofs.YtnbgieccindpnaaDoor
set_option linter.all false
set_option maxRecDepth 20000
open Go.RowKit
/-- a bank is active -/
def hasS (act : Int) (a : Nat) : Bool := decide (bits .and .i64 (act.fdiv (2 ^ (min ((a : Int)).toNat (IntKind.i64.bits)))) 1 = 1)
def dig1 (sum : List UInt8 → List UInt8) (b : List UInt8) (act : Int) (a : Nat) : List UInt8 := if (decide (0 < b.length) && hasS act a) = true then sum b else []
def digS (sha1 : List UInt8 → List UInt8) (b : List UInt8) (act : Int) : List (List UInt8) := [dig1 sha1 b act 0, dig1 sha256S b act 1]
theorem dig_yes {sum : List UInt8 → List UInt8} {b : List UInt8} {act : Int} {a : Nat} (h1 : 0 < b.length) (h2 : hasS act a = true) : dig1 sum b act a = sum b := by unfold dig1; rw [if_pos (by rw [decide_eq_true h1, h2]; rfl)]
theorem dig_no {sum : List UInt8 → List UInt8} {b : List UInt8} {act : Int} {a : Nat} (h : ¬ (0 < b.length ∧ hasS act a = true)) : dig1 sum b act a = [] := by unfold dig1; rw [if_neg]; intro hh; simp only [Bool.and_eq_true, decide_eq_true_eq] at hh; exact h hh
theorem bl2 {w : World} {P : Nat → Prop} {g : Nat} {t : TypeId} {A B : Option Addr} {n c m d : Nat} {l r : List UInt8} (h : Blk w g t #[Value.slice A n c, Value.slice B m d]) (h1 : BV w P A n c l) (h2 : BV w P B m d r) (hP : P g) : BL w P (some ⟨g, 0, none⟩) 2 2 [l, r] :=
  ⟨[.slice A n c, .slice B m d], ⟨rfl, Nat.le_refl _, by simp [maxLen], fun _ => ⟨g, 0, rfl, h.lt, hP, fun i v hv => by rw [Nat.zero_add]; exact (h.cell i).trans (by simpa using hv)⟩⟩, rfl, fun i x hx => by
    match i, hx with
    | 0, hx => simp at hx; subst hx; exact ⟨A, n, c, rfl, h1⟩
    | 1, hx => simp at hx; subst hx; exact ⟨B, m, d, rfl, h2⟩⟩
/-- 'make([]T, n)', its block known whole -/
theorem Does.mkA {P : Program} {n : Nat} {e : Env} {w : World} {o : Oper} {t el : TypeId} {x y : Operand} {kd kd' : IntKind} {z : Value} {bytes : Nat} (k : Nat) (hg : o.guard = none) (ho : o.op = .makeSlice t x y) (ht : P.underlying t = some (.slice el)) (hinf : (P.info? el).map (fun i => (i.zero, i.size, i.bytes)) = some (some z, 1, bytes)) (hz : z.cells = #[z]) (hx : ev e x = some (.int kd (k : Int))) (hy : ev e y = some (.int kd' (k : Int))) (hb : bytes * k ≤ 281474976710656) (hk : k ≤ 9223372036854775807) :
    Does P n o e w (fun v w' => ∃ g, v = .slice (some ⟨g, 0, none⟩) k k ∧ w.heap.size ≤ g ∧ Blk w' g el (List.replicate k z).toArray ∧ Ext w w') :=
  fun a ha ops Q rest hw hK => wpList_mk hg x y t ho el z 1 bytes hinf ht kd kd' k (ha.ev hx) (ha.ev hy) hb hk fun g w' h1 h2 h3 h4 => hK _ w' ⟨g, rfl, h1, by
    have hmk : (madeCells z.cells (k * 1)).toList = List.replicate k z := by rw [Nat.mul_one, hz]; exact toList_madeCells_one _ _
    rw [hmk] at h3
    rcases h3.2 with ⟨hv, h0⟩ | ⟨g', cap, cur, hv, hb', hg', hnc, hcm, hcs, ht'⟩
    · simp only [Value.slice.injEq] at hv; cases hv.1
    · simp only [Value.slice.injEq, Option.some.injEq, Addr.mk.injEq, and_true, true_and] at hv
      obtain ⟨rfl, rfl⟩ := hv
      have hc : cur = (List.replicate k z).toArray := by
        apply Array.ext'
        rw [← ht', List.take_of_length_le (by simp [hcs])]
      rw [hc] at hg'
      exact hg', h4⟩
def SumC (f : FuncId) (a : Int) (sum : List UInt8 → List UInt8) : Prop := ∀ (P : Nat → Prop) (w : World) (_ : Tab w) (A : Option Addr) (n c : Nat) (l : List UInt8) (_ : BV w P A n c l) (_ : n ≤ 1000000),
  Calls Tryd.prog f #[.int .i64 a, .slice A n c] w fun e w' => ∃ S m k, e = .returned (.slice S m k) ∧ OB w' w.heap.size 5 S m k (sum l) ∧ Ext w w'
theorem sumP1 : SumC 54 1 sha256S := fun P w hT A n c l hl hn => (sumP_calls w hT A n c l hl (by omega)).mono fun e w' ⟨S, k, h1, h2, h3⟩ => ⟨S, 32, k, h1, h2, h3⟩
set_option maxRecDepth 20000 in
theorem sumR1 : SumC 56 1 sha256S := fun P w hT A n c l hl hn => by
  refine calls_enter Tryd.func56 rfl Tryd.ntmps56 rfl ?_
  have hE : Ext w w := Ext.refl w
  refine vs fun K1 hK1 => vR [(0, _), (1, _)] ?_
  refine vA ?_
  refine vn (hK1 _ _ ?_)
  refine Wc.seq (fun K2 hK2 => ?_)
  refine vs fun K3 hK3 => vR [(0, _), (1, _)] ?_
  refine vM ?_
  refine vn (hK3 _ _ ?_)
  refine Wc.block ?_
  refine vs fun K4 hK4 => vR [(1, _), (5, _)] ?_
  refine vl (Gives.eql rfl rfl rfl) ?_
  refine vA ?_
  refine vn (hK4 _ _ ?_)
  refine Wc.condF rfl (by decide) ?_
  refine vs fun K5 hK5 => vR [(1, _), (5, _)] ?_
  refine vl (Gives.eql rfl rfl rfl) ?_
  refine vA ?_
  refine vn (hK5 _ _ ?_)
  refine Wc.condT rfl (by decide) ?_
  refine vs fun K6 hK6 => vR [(1, _)] ?_
  refine vM ?_
  refine Wl.call rfl rfl rfl rfl Tryd.func80 rfl (by kernel_rfl) rfl (sum256R_calls _ A n c l (hl.ext hE) (by omega)) ?_
  rintro x1 w1 ⟨S, k, rfl, hO, hx1⟩
  refine ⟨_, rfl, ?_⟩
  have hzE := hE.size
  replace hE := hE.trans hx1
  refine vA ?_
  refine vn (hK6 _ _ ?_)
  refine Wc.ret ?_
  refine Wx.blockR ?_
  refine Wx.thenR ?_
  refine Wx.ret [_] ⟨rfl, trivial⟩ ?_
  exact ⟨S, 32, k, rfl, hO.mono hzE, hE⟩
theorem hasR (w : World) (act : Int) (a : Nat) (ha : a ≤ 1) : Calls Tryd.prog 55 #[.int .i64 act, .int .i64 (a : Int)] w fun e w' => e = .returned (.bool (hasS act a)) ∧ w = w' := by
  refine calls_enter Tryd.func55 rfl Tryd.ntmps55 rfl ?_
  refine vs fun K1 hK1 => vR [(0, _), (1, _)] ?_
  refine vA ?_
  refine vn (hK1 _ _ ?_)
  refine vs fun K2 hK2 => vR [(0, _), (1, _)] ?_
  refine vM ?_
  refine vM ?_
  refine vl (Gives.conv rfl Tryd.underlying3 Tryd.underlying73 rfl (u64_in _ (by omega))) ?_
  refine vl (Gives.shr rfl rfl rfl (by omega) rfl) ?_
  refine vl (Gives.bits .and (by simp) rfl rfl rfl rfl) ?_
  refine vl (Gives.eql rfl rfl rfl) ?_
  refine vA ?_
  refine vn (hK2 _ _ ?_)
  refine Wc.ret ?_
  refine Wx.ret [_] ⟨rfl, trivial⟩ ?_
  exact ⟨rfl, rfl⟩
def DigR (w : World) (ls : List (List UInt8)) (e : Ending) (w' : World) : Prop := ∃ S k, e = .returned (.slice S 2 k) ∧ BL w' (fun q => w.heap.size ≤ q) S 2 k ls ∧ Ext w w'
set_option maxRecDepth 20000 in
set_option maxHeartbeats 2000000 in
theorem digestsR {P : Nat → Prop} (w : World) (hT : Tab w) (r v : Int) (nm : List UInt8) (A : Option Addr) (n c : Nat) (pay : List UInt8) (hp : BV w P A n c pay) (hn : n ≤ 1000000) (act : Int) (sha1 : List UInt8 → List UInt8) (H1 : hasS act 0 = true → SumC 56 0 sha1) :
    Calls Tryd.prog 85 #[.agg #[.int .i64 r, txt nm, .int .i64 v, .slice A n c], .int .i64 act] w (DigR w (digS sha1 (imgB ⟨r, nm, v, pay⟩) act)) := by
  have hpl := hp.len
  obtain ⟨bb, hbb⟩ : ∃ bb, imgB ⟨r, nm, v, pay⟩ = bb := ⟨_, rfl⟩
  have hbl : bb.length ≤ 85 := by rw [← hbb]; exact imgB_le _
  refine calls_enter Tryd.func85 rfl Tryd.ntmps85 rfl ?_
  have hE : Ext w w := Ext.refl w
  refine vs fun K1 hK1 => vR [(0, _), (1, _)] ?_
  refine Wl.does rfl rfl rfl (Does.boxA rfl rfl) ?_
  rintro _ w0_0 ⟨b2, rfl, hs2, hb2, hx0_0⟩
  have hg2 : w.heap.size ≤ b2 := Nat.le_trans hE.size hs2
  replace hE := hE.trans hx0_0
  refine vA ?_
  refine vn (hK1 _ _ ?_)
  refine vs fun K2 hK2 => vR [(1, _), (2, _)] ?_
  refine Wl.does rfl rfl rfl (Does.mkA 2 rfl rfl Tryd.underlying32 infoL rfl rfl rfl (by omega) (by omega)) ?_
  rintro _ w10 ⟨gr, rfl, hgr, hk10, hx10⟩
  have hk10' : Blk w10 gr 22 #[.slice none 0 0, .slice none 0 0] := hk10
  have hgw : w.heap.size ≤ gr := Nat.le_trans hE.size hgr
  have hn2r : b2 ≠ gr := by have := hb2.lt; omega
  replace hb2 := hb2.ext hx10
  replace hE := hE.trans hx10
  refine vA ?_
  refine vn (hK2 _ _ ?_)
  refine vs fun K3 hK3 => vR [(1, _), (2, _), (5, _)] ?_
  refine vl (Gives.ldW rfl (by kernel_rfl) rfl hb2 (by kernel_rfl)) ?_
  refine Wl.call rfl rfl rfl rfl Tryd.func104 rfl (by kernel_rfl) rfl (encR _ r v nm A n c pay (hp.ext hE) hn) ?_
  rintro x1 w22 ⟨S, m, k, rfl, hO, hx22⟩
  refine ⟨_, rfl, ?_⟩
  rw [hbb] at hO
  have hm := hO.len
  have hB := (hO.bv (P := fun q => q ≠ gr) fun q hq => by have := hk10.lt; have := hx10.size; omega)
  replace hk10' := hk10'.ext hx22
  replace hb2 := hb2.ext hx22
  replace hE := hE.trans hx22
  refine vA ?_
  refine vn (hK3 _ _ ?_)
  refine Wc.seq (fun K4 hK4 => ?_)
  refine vs fun K5 hK5 => vR [(1, _), (5, _), (6, _)] ?_
  refine vA ?_
  refine vn (hK5 _ _ ?_)
  refine Wc.block ?_
  refine vK [(1, _), (5, _), (6, _), (7, _)] ?_
  refine Wc.loopC (ι := Nat × (Option Addr × Nat × Nat) × (Option Addr × Nat × Nat)) [(1, _), (5, _), (6, _)] (fun | (i, _, _) => [(7, .int .i64 (i : Int))]) (fun | (i, (S0, m0, k0), (S1, m1, k1)), wr => i ≤ 2 ∧ BV wr (fun q => q ≠ gr ∧ w.heap.size ≤ q) S0 m0 k0 (if 0 < i then dig1 sha1 bb act 0 else []) ∧ BV wr (fun q => q ≠ gr ∧ w.heap.size ≤ q) S1 m1 k1 (if 1 < i then dig1 sha256S bb act 1 else []) ∧ BV wr (fun q => q ≠ gr) S m k bb ∧ Blk wr gr 22 #[.slice S0 m0 k0, .slice S1 m1 k1] ∧ Ext w wr) (fun | (i, _) => 2 - i) ((0, (none, 0, 0), (none, 0, 0))) (.co (.cons rfl (.cons rfl (.cons rfl (.nil))))) (⟨by omega, BV.nil_ _ _, BV.nil_ _ _, hB, hk10', hE⟩) ?_
  intro ⟨i, ⟨S0, m0, k0⟩, ⟨S1, m1, k1⟩⟩ wr hJ KL1 hKL1
  clear hE hB hk10'
  obtain ⟨hi, h0, h1, hB, hk, hE⟩ := hJ
  refine Wc.seq (fun K6 hK6 => ?_)
  refine vs fun K7 hK7 => vR [(1, _), (5, _), (6, _), (7, _)] ?_
  refine vM ?_
  refine vl (Gives.lss rfl rfl rfl) ?_
  refine vn (hK7 _ _ ?_)
  refine Wc.cond _ rfl (fun h12 => ?_) (fun h12 => ?_)
  · first | replace h12 := dT h12 | replace h12 := nT h12 | skip
    refine Wc.skip ?_
    refine Wx.thenN (hK6 _ _ ?_)
    refine Wc.seq (fun K8 hK8 => ?_)
    refine Wc.block ?_
    refine vs fun K9 hK9 => vR [(1, _), (5, _), (6, _), (7, _)] ?_
    refine vM ?_
    refine vl (Gives.lenS rfl Tryd.underlying22 rfl) ?_
    refine vl (Gives.gtr rfl rfl rfl) ?_
    refine vM ?_
    refine Wl.guard rfl rfl rfl (fun h18 => ?_) (fun h18 => ?_)
    · first | replace h18 := dT h18 | replace h18 := nT h18 | skip
      refine vM ?_
      refine vM ?_
      refine vl (Gives.call rfl Tryd.func55 rfl (by kernel_rfl) rfl (hasR _ act i (by omega))) ?_
      refine vT ?_
      refine vn (hK9 _ _ ?_)
      refine Wc.cond _ rfl (fun h22 => ?_) (fun h22 => ?_)
      · first | replace h22 := dT h22 | replace h22 := nT h22 | skip
        refine vK [(1, _), (5, _), (6, _), (7, _)] ?_
        have hhas : hasS act i = true := by first | exact h22 | exact decide_eq_true h22
        refine Wc.region ?_
        refine vM ?_
        refine vM ?_
        refine vM ?_
        refine vM ?_
        refine Wl.call rfl rfl rfl rfl Tryd.func56 rfl (by kernel_rfl) rfl (by first | exact (show SumC 56 (i : Int) (if i = 0 then sha1 else sha256S) by rcases (show i = 0 ∨ i = 1 by omega) with rfl | rfl; { exact H1 hhas }; { exact sumR1 }) _ _ (hT.ext hE) S m k bb hB (by omega)) ?_
        rintro x2 w74 ⟨S4, m4, k4, rfl, hO4, hx74⟩
        refine ⟨_, rfl, ?_⟩
        have hzk := hk.lt
        have hzE := hE.size
        replace h0 := h0.ext hx74
        replace h1 := h1.ext hx74
        replace hB := hB.ext hx74
        replace hk := hk.ext hx74
        replace hE := hE.trans hx74
        refine vl (Gives.ixS (i := i) rfl Tryd.underlying32 (by kernel_rfl) rfl rfl (by omega) (by omega)) ?_
        refine Wl.acts rfl rfl (Does.stC (i := 0 + i) rfl rfl rfl hk (by kernel_rfl) (by show 0 + i < 2; omega) rfl) ?_
        rintro _ w76 ⟨hk2, hF76⟩
        have hB4 : BV w76 (fun q => q ≠ gr ∧ w.heap.size ≤ q) S4 m4 k4 (if i = 0 then dig1 sha1 bb act 0 else dig1 sha256S bb act 1) := by
          have hq := (hO4.bv (P := fun q => q ≠ gr ∧ w.heap.size ≤ q) fun q hq => by omega).fr (hF76.mono fun q hq => hq.1)
          rcases (show i = 0 ∨ i = 1 by omega) with rfl | rfl
          · rw [if_pos rfl, dig_yes (by omega) hhas]; exact hq
          · rw [if_neg (by omega), dig_yes (by omega) hhas]; exact hq
        replace h0 := h0.fr (hF76.mono fun q hq => hq.1)
        replace h1 := h1.fr (hF76.mono fun q hq => hq.1)
        replace hB := hB.fr hF76
        replace hE := Ext.over hE hF76 hgw
        refine Wl.nil ?_
        refine Wx.blockN ?_
        refine Wx.thenN (hK8 _ _ ?_)
        refine vR [(1, _), (5, _), (6, _), (7, _)] ?_
        refine vM ?_
        refine vAdd ?_
        refine vA ?_
        refine Wl.nil ?_
        refine Wx.thenN ?_
        rcases (show i = 0 ∨ i = 1 by omega) with rfl | rfl
        · exact hKL1 (0 + 1, (S4, m4, k4), (S1, m1, k1)) _ _ (.co (.cons rfl (.cons rfl (.cons rfl (.nil))))) ⟨by omega, hB4, h1, hB, hk2, hE⟩ (by show 2 - (0 + 1) < 2 - 0; omega)
        · exact hKL1 (1 + 1, (S0, m0, k0), (S4, m4, k4)) _ _ (.co (.cons rfl (.cons rfl (.cons rfl (.nil))))) ⟨by omega, h0, hB4, hB, hk2, hE⟩ (by show 2 - (1 + 1) < 2 - 1; omega)
      first | replace h22 := dF h22 | replace h22 := nF h22 | skip
      refine Wc.skip ?_
      refine Wx.blockN ?_
      refine Wx.thenN (hK8 _ _ ?_)
      refine vR [(1, _), (5, _), (6, _), (7, _)] ?_
      refine vM ?_
      refine vAdd ?_
      refine vA ?_
      refine Wl.nil ?_
      refine Wx.thenN ?_
      have hno : ¬ (0 < bb.length ∧ hasS act i = true) := by first | (rintro ⟨h, _⟩; omega) | (rintro ⟨_, h⟩; exact h22 (of_decide_eq_true h)) | (rintro ⟨_, h⟩; rw [h22] at h; cases h)
      rcases (show i = 0 ∨ i = 1 by omega) with rfl | rfl
      · exact hKL1 (0 + 1, (S0, m0, k0), (S1, m1, k1)) _ _ (.co (.cons rfl (.cons rfl (.cons rfl (.nil))))) ⟨by omega, by show BV wr _ S0 m0 k0 (dig1 sha1 bb act 0); rw [dig_no hno]; exact h0, h1, hB, hk, hE⟩ (by show 2 - (0 + 1) < 2 - 0; omega)
      · exact hKL1 (1 + 1, (S0, m0, k0), (S1, m1, k1)) _ _ (.co (.cons rfl (.cons rfl (.cons rfl (.nil))))) ⟨by omega, h0, by show BV wr _ S1 m1 k1 (dig1 sha256S bb act 1); rw [dig_no hno]; exact h1, hB, hk, hE⟩ (by show 2 - (1 + 1) < 2 - 1; omega)
    first | replace h18 := dF h18 | replace h18 := nF h18 | skip
    refine vP ?_
    refine vP ?_
    refine vP ?_
    refine vU ?_
    refine vn (hK9 _ _ ?_)
    refine Wc.condF rfl rfl ?_
    refine Wc.skip ?_
    refine Wx.blockN ?_
    refine Wx.thenN (hK8 _ _ ?_)
    refine vR [(1, _), (5, _), (6, _), (7, _)] ?_
    refine vM ?_
    refine vAdd ?_
    refine vA ?_
    refine Wl.nil ?_
    refine Wx.thenN ?_
    have hno : ¬ (0 < bb.length ∧ hasS act i = true) := by first | (rintro ⟨h, _⟩; omega) | (rintro ⟨_, h⟩; exact h22 (of_decide_eq_true h)) | (rintro ⟨_, h⟩; rw [h22] at h; cases h)
    rcases (show i = 0 ∨ i = 1 by omega) with rfl | rfl
    · exact hKL1 (0 + 1, (S0, m0, k0), (S1, m1, k1)) _ _ (.co (.cons rfl (.cons rfl (.cons rfl (.nil))))) ⟨by omega, by show BV wr _ S0 m0 k0 (dig1 sha1 bb act 0); rw [dig_no hno]; exact h0, h1, hB, hk, hE⟩ (by show 2 - (0 + 1) < 2 - 0; omega)
    · exact hKL1 (1 + 1, (S0, m0, k0), (S1, m1, k1)) _ _ (.co (.cons rfl (.cons rfl (.cons rfl (.nil))))) ⟨by omega, h0, by show BV wr _ S1 m1 k1 (dig1 sha256S bb act 1); rw [dig_no hno]; exact h1, hB, hk, hE⟩ (by show 2 - (1 + 1) < 2 - 1; omega)
  first | replace h12 := dF h12 | replace h12 := nF h12 | skip
  refine Wc.exit ?_
  refine Wx.thenE ?_
  refine Wx.thenE ?_
  refine Wx.hit ?_
  refine Wx.thenN (hK4 _ _ ?_)
  refine vs fun K10 hK10 => vR [(5, _)] ?_
  refine vM ?_
  refine vA ?_
  refine vn (hK10 _ _ ?_)
  refine Wc.ret ?_
  refine Wx.ret [_] ⟨rfl, trivial⟩ ?_
  obtain rfl : i = 2 := by omega
  rw [hbb]
  exact ⟨_, _, rfl, bl2 hk (h0.mono fun q hq => hq.2) (h1.mono fun q hq => hq.2) hgw, hE⟩
end Go.Proofs.YtnbgieccindpnaaDoor
/- Images: the laws' helpers awake and few. -/
namespace Go.Proofs.YtnbgieccindpnaaDoor
set_option linter.all false
set_option maxRecDepth 20000
open Go.RowKit
section
variable {P : Program} {n : Nat} {e : Env} {w : World} {o : Oper} {x y z : Operand} {t t' el el' : TypeId} {l : List UInt8}
/-- '[]byte("..")' of a constant: a slice to its own type; its row is marked behind its end -/
theorem Does.convB {g c m : Nat} {cs : Array Value} (ho : o.op = .convert t t x) (hs : P.underlying t = some (.slice el)) (he : P.underlying el = some (.int .u8)) (hx : ev e x = some (.slice (some ⟨g, 0, none⟩) m c)) (hb : Blk w g el cs) (hc : cs.toList = u8s l) (hm : l.length = m) (hcm : c = m) (hle : c ≤ 9223372036854775807) :
    Does P n o e w (fun v w' => v = .slice (some ⟨g, 0, none⟩) m c ∧ BV w' (fun k => k = g) (some ⟨g, 0, none⟩) m c l ∧ Fr (fun k => k ≠ g) w w') :=
  fun a ha ops Q rest hw hK => BigFrame.wpList_want hw fun K hk => by
    have hlt := hb.lt
    have hb' : w.heap[g]? = some (.cells cs el) := hb
    have hsh : w.shape? g = some (el, cs.size) := by
      unfold World.shape?
      rw [hb']
    have hrun : (execOp a.eval o).run P w = .ok (.value (.slice (some ⟨g, 0, none⟩) m c)) (w.freeze ⟨g, cs.size, none⟩ 1) := by
      unfold execOp
      simp only [ho, ha.ev hx]
      simp [convert, run_underlying hs, run_underlying he, markStringish, hsh]
    unfold Oper.wp
    rw [hrun]
    have hh : ∀ k, k ≠ g → (w.freeze ⟨g, cs.size, none⟩ 1).heap[k]? = w.heap[k]? := fun k hk => by
      unfold World.freeze
      rw [if_neg (by decide)]
      show (w.heap.modify g _)[k]? = _
      rw [Array.getElem?_modify, if_neg (Ne.symm hk)]
    have hg : (w.freeze ⟨g, cs.size, none⟩ 1).heap[g]? = some (.cells cs el (cs.size, cs.size + 1)) := by
      unfold World.freeze
      rw [if_neg (by decide)]
      show (w.heap.modify g _)[g]? = _
      rw [Array.getElem?_modify, if_pos rfl, hb']
      rfl
    have hsz : (w.freeze ⟨g, cs.size, none⟩ 1).heap.size = w.heap.size := by
      unfold World.freeze
      rw [if_neg (by decide)]
      show (w.heap.modify g _).size = _
      simp
    refine hk _ _ (hK _ _ ⟨rfl, ⟨by simp [u8s, hm], by omega, by simpa [maxLen] using hle, fun _ => ⟨g, 0, rfl, by rw [hsz]; exact hlt, rfl, fun i v hv => ?_⟩⟩, ⟨?_, ?_, ?_, by omega, fun k _ hne => hh k hne⟩⟩)
    · rw [Nat.zero_add, cell_of_row _ _ i _ _ _ hg, ← hv, ← hc]
      simp
    all_goals (unfold World.freeze; rw [if_neg (by decide)])
end
theorem mb2 {w : World} {g : Nat} {t : TypeId} {z1 z2 : Int} (x1 x2 : UInt8) (h : Blk w g t [Value.int .u8 z1, Value.int .u8 z2].toArray) (h1 : z1 = (x1.toNat : Int)) (h2 : z2 = (x2.toNat : Int)) : MB w g t [x1, x2] := by subst h1 h2; exact h
end Go.Proofs.YtnbgieccindpnaaDoor
