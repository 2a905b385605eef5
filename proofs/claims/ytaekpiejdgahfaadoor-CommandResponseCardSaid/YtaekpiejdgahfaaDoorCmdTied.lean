/- Commands: what the listed variables hold when the call begins; requests opened. -/
import Derived.Test.YtaekpiejdgahfaaDoorCmdSh
import Derived.Test.YtaekpiejdgahfaaDoorRep
import Derived.Test.YtaekpiejdgahfaaDoorRows
import Derived.OpenShut
import Derived.LaidMore
import Derived.ProofKit
import Derived.Stop.Joined
namespace Go.Proofs.YtaekpiejdgahfaaDoor
set_option linter.all false
open Go.ChangeShapes Go.WideShapes Go.ChangeAt Go.WideMaps Go.WideElems Go.RowKit
theorem trod_ints {H : Type} {enc : TypeId × Value → H} {P : Program} {w : World} {base : Nat} {spare : Nat → Bool} {held : Bool} {fuel n : Nat} {t e : TypeId} {k : IntKind} {cs : List Value} (ht : P.underlying t = some (.array n e)) (he : P.underlying e = some (.int k)) (hc : P.cellsOf e = 1) (hct : P.cellsOf t = n) (zs : List Int) {p : List MemPlace}
    (h : DataW.trod enc P w base spare held fuel t cs = some (.agg (zs.map fun z => .lit (.int k z)), p)) : cs = zs.map fun z => .int k z := by
  obtain ⟨xs, m, rfl, hx, hlen, hn, hel⟩ := DataW.trod_array ht h
  simp only [Prod.mk.injEq, DataW.agg.injEq] at hx
  have hzl : zs.length = n := by
    have := congrArg List.length hx.1
    simp at this
    omega
  apply List.ext_getElem?
  intro i
  by_cases hi : i < n
  · have h1 := hel i hi
    rw [hc, Nat.mul_one] at h1
    have hxi : i < xs.length := by omega
    rw [List.getElem?_eq_getElem hxi] at h1
    obtain ⟨z, e1, e2, _⟩ := DataW.trod_int he h1
    have h2 := congrArg (fun l => l[i]?) hx.1
    simp only [List.getElem?_map, List.getElem?_eq_getElem hxi, Option.map_some, e2] at h2
    have hzi : i < zs.length := by omega
    rw [List.getElem?_eq_getElem hzi] at h2
    simp only [Option.map_some, Option.some.injEq, DataW.lit.injEq, Lit.int.injEq, true_and] at h2
    have h3 := congrArg (fun l => l[0]?) e1
    simp only [List.getElem?_take, List.getElem?_drop, Nat.add_zero] at h3
    rw [List.getElem?_map, List.getElem?_eq_getElem hzi]
    simp only [Option.map_some]
    rw [h2]
    simpa using h3
  · rw [List.getElem?_eq_none (by omega), List.getElem?_eq_none (by simp; omega)]
theorem gv_of {P : Program} {w : World} {nm : String} {g : Nat} {cs : Array Value} {vs : List Value} (hg : P.globalNamed nm = some g) (hv : w.var? P nm = some cs) (hc : cs.toList = vs) : GV w g vs := by
  have hlt : g < w.heap.size := by
    simp only [World.var?, hg, Option.bind_some] at hv
    rcases Nat.lt_or_ge g w.heap.size with h | h
    · exact h
    · rw [Array.getElem?_eq_none h] at hv; cases hv
  refine ⟨hlt, fun i v hi => ?_⟩
  rw [World.var?_cell hg hv i]
  subst hc
  simpa using hi
/-- the cells that a datum of plain numbers stands for -/
theorem trod_rows {H : Type} {enc : TypeId × Value → H} {P : Program} {w : World} {base : Nat} {spare : Nat → Bool} {held : Bool} {fuel n s : Nat} {t e : TypeId} {cs : List Value} {α : Type} (D : α → DataW H) (C : α → List Value) (hC : ∀ a, (C a).length = s) (ht : P.underlying t = some (.array n e)) (hc : P.cellsOf e = s) (hct : P.cellsOf t = n * s)
    (he : ∀ (fuel : Nat) (cs : List Value) (a : α) (p : List MemPlace), DataW.trod enc P w base spare held fuel e cs = some (D a, p) → cs = C a) (zs : List α) {p : List MemPlace}
    (h : DataW.trod enc P w base spare held fuel t cs = some (.agg (zs.map D), p)) : cs = zs.flatMap C := by
  obtain ⟨xs, m, rfl, hx, hlen, hn, hel⟩ := DataW.trod_array ht h
  simp only [Prod.mk.injEq, DataW.agg.injEq] at hx
  have hzl : zs.length = n := by
    have := congrArg List.length hx.1
    simp at this
    omega
  have key : ∀ i, i ≤ n → (cs.drop ((n - i) * s)) = (zs.drop (n - i)).flatMap C := by
    intro i
    induction i with
    | zero => intro _; rw [Nat.sub_zero, List.drop_eq_nil_of_le (by omega), List.drop_eq_nil_of_le (by omega)]; rfl
    | succ i ih =>
      intro hi
      have hlt : n - (i + 1) < n := by omega
      have h1 := hel (n - (i + 1)) hlt
      have hxi : n - (i + 1) < xs.length := by omega
      have hzi : n - (i + 1) < zs.length := by omega
      rw [List.getElem?_eq_getElem hxi] at h1
      have h2 := congrArg (fun l => l[n - (i + 1)]?) hx.1
      simp only [List.getElem?_map, List.getElem?_eq_getElem hxi, List.getElem?_eq_getElem hzi, Option.map_some, Option.some.injEq] at h2
      have h3 := he m _ zs[n - (i + 1)] xs[n - (i + 1)].2 (by rw [h1, h2])
      rw [hc] at h3
      rw [List.drop_eq_getElem_cons hzi, List.flatMap_cons, show n - (i + 1) + 1 = n - i by omega, ← ih (by omega), ← h3]
      have e : (n - i) * s = (n - (i + 1)) * s + s := by rw [show n - i = (n - (i + 1)) + 1 by omega, Nat.succ_mul]
      rw [e, ← List.drop_drop, List.take_append_drop]
  have := key n (Nat.le_refl _)
  simpa using this
def formD {H : Type} (f : Int × Shp) : DataW H := .agg [.lit (.int .i64 f.1), .lit (.int .i64 f.2.h), .lit (.int .i64 f.2.a), .lit (.int .i64 f.2.i), .lit (.int .i64 f.2.b)]
theorem trod_form {H : Type} {enc : TypeId × Value → H} {P : Program} {w : World} {base : Nat} {spare : Nat → Bool} {held : Bool} {fuel : Nat} {t : TypeId} {cs : List Value} {f0 f1 f2 f3 f4 : Field} (f : Int × Shp) {p : List MemPlace} (ht : P.underlying t = some (.struct #[f0, f1, f2, f3, f4])) (hct : P.cellsOf t = 5)
    (hu : ((P.underlying f0.type, P.underlying f1.type, P.underlying f2.type, P.underlying f3.type, P.underlying f4.type), (f0.offset, f1.offset, f2.offset, f3.offset, f4.offset)) = ((some (.int .i64), some (.int .i64), some (.int .i64), some (.int .i64), some (.int .i64)), (0, 1, 2, 3, 4)))
    (hc : (P.cellsOf f0.type, P.cellsOf f1.type, P.cellsOf f2.type, P.cellsOf f3.type, P.cellsOf f4.type) = (1, 1, 1, 1, 1))
    (h : DataW.trod enc P w base spare held fuel t cs = some (formD f, p)) : cs = formCells f := by
  simp only [Prod.mk.injEq] at hu hc
  obtain ⟨⟨u0, u1, u2, u3, u4⟩, o0, o1, o2, o3, o4⟩ := hu
  obtain ⟨c0, c1, c2, c3, c4⟩ := hc
  obtain ⟨xs, m, _, hx, hlen, hn, hel⟩ := DataW.trod_struct ht h
  unfold formD at hx
  simp only [Prod.mk.injEq, DataW.agg.injEq] at hx
  have hx1 := hx.1
  match xs, hn with
  | [y0, y1, y2, y3, y4], _ =>
    simp only [List.map_cons, List.map_nil, List.cons.injEq, and_true] at hx1
    obtain ⟨g0, g1, g2, g3, g4⟩ := hx1
    rw [hct] at hlen
    match cs, hlen with
    | [v0, v1, v2, v3, v4], _ =>
      have k0 := hel 0 f0 rfl
      have k1 := hel 1 f1 rfl
      have k2 := hel 2 f2 rfl
      have k3 := hel 3 f3 rfl
      have k4 := hel 4 f4 rfl
      rw [c0, o0] at k0; rw [c1, o1] at k1; rw [c2, o2] at k2; rw [c3, o3] at k3; rw [c4, o4] at k4
      obtain ⟨z0, a0, b0, _⟩ := DataW.trod_int u0 (x := y0) (by simpa using k0)
      obtain ⟨z1, a1, b1, _⟩ := DataW.trod_int u1 (x := y1) (by simpa using k1)
      obtain ⟨z2, a2, b2, _⟩ := DataW.trod_int u2 (x := y2) (by simpa using k2)
      obtain ⟨z3, a3, b3, _⟩ := DataW.trod_int u3 (x := y3) (by simpa using k3)
      obtain ⟨z4, a4, b4, _⟩ := DataW.trod_int u4 (x := y4) (by simpa using k4)
      subst b0 b1 b2 b3 b4
      simp at a0 a1 a2 a3 a4 g0 g1 g2 g3 g4
      unfold formCells
      rw [a0, a1, a2, a3, a4, g0, g1, g2, g3, g4]
theorem gMagic : Tryd.prog.globalNamed "sealwright/command.magic" = some 1 := by kernel_rfl
theorem tMagic : (Tryd.prog.globals[1]?).map (·.type) = some 90 := by kernel_rfl
theorem gForms : Tryd.prog.globalNamed "sealwright/command.forms" = some 0 := by kernel_rfl
theorem tForms : (Tryd.prog.globals[0]?).map (·.type) = some 65 := by kernel_rfl
theorem dForms : (Rows.laid_sealwright_command_forms : DataW Unit) = .agg (formsT.map formD) := by kernel_rfl
set_option maxRecDepth 100000 in
theorem of_laid {W : World} (h : laidMetH Tryd.prog [("sealwright/command.magic", Rows.laid_sealwright_command_magic), ("sealwright/command.forms", Rows.laid_sealwright_command_forms)] W) : Tabs W := by
  rw [MakeChecks.laidMetH_plain _ _ _ (by kernel_rfl)] at h
  obtain ⟨ps, ⟨g0, t0, cs0, f0, p0, q0, hg0, ht0, hv0, hd0, hrest, _⟩, _, _⟩ := h
  obtain ⟨g1, t1, cs1, f1, p1, q1, hg1, ht1, hv1, hd1, _, _⟩ := hrest
  obtain rfl := Option.some.inj (gMagic.symm.trans hg0)
  obtain rfl := Option.some.inj (tMagic.symm.trans ht0)
  obtain rfl := Option.some.inj (gForms.symm.trans hg1)
  obtain rfl := Option.some.inj (tForms.symm.trans ht1)
  have h0 := trod_ints Tryd.underlying90 Tryd.underlying5 (by kernel_rfl) (by kernel_rfl) [83, 87] hd0
  rw [dForms] at hd1
  have h1 := trod_rows (s := 5) formD formCells (fun _ => rfl) Tryd.underlying65 (by kernel_rfl) (by kernel_rfl) (fun fuel cs a p hp => trod_form a Tryd.underlying64 (by kernel_rfl) (by kernel_rfl) (by kernel_rfl) hp) formsT hd1
  exact ⟨gv_of hg0 hv0 h0, gv_of hg1 hv1 h1⟩
/-! requests opened -/
def Rp.auth : Rp Auth := ((Rp.int .i64).pair (Rp.bytes.pair Rp.bytes)).of fun a => (a.ses, a.nonce, a.val)
def Rp.req : Rp Req := ((Rp.int .i64).pair ((Rp.int .i64).list.pair (Rp.auth.list.pair ((Rp.int .i64).list.pair Rp.bytes.list)))).of fun q => (q.code, q.hs, q.us, q.is, q.bs)
theorem iv_of {w : World} {P : Nat → Prop} {A : Option Addr} {n c : Nat} {l : List Int} (h : SL (Rp.int .i64) w P A n c l) : IV w P A n c l := by
  obtain ⟨vs, hr, he⟩ := h
  have e : vs = i64s l := by
    apply List.ext_getElem?
    intro i
    have h1 : vs.length = l.length * 1 := he.1
    by_cases hi : i < l.length
    · have h2 : ((vs.drop (i * 1)).take 1) = [.int .i64 l[i]] := he.2 i _ (List.getElem?_eq_getElem hi)
      have h3 := congrArg (fun q => q[0]?) h2
      simp only [List.getElem?_take, List.getElem?_drop, Nat.mul_one, Nat.add_zero] at h3
      unfold i64s
      rw [List.getElem?_map, List.getElem?_eq_getElem hi]
      simpa using h3
    · rw [List.getElem?_eq_none (by omega), List.getElem?_eq_none (by unfold i64s; simp; omega)]
  rw [e] at hr
  exact hr
theorem bl_of {w : World} {P : Nat → Prop} {A : Option Addr} {n c : Nat} {l : List (List UInt8)} (h : SL Rp.bytes w P A n c l) : BL w P A n c l := by
  obtain ⟨vs, hr, he⟩ := h
  have h1 : vs.length = l.length * 1 := he.1
  refine ⟨vs, hr, by omega, fun i x hx => ?_⟩
  obtain ⟨A', n', c', h2, h3⟩ := he.2 i x hx
  refine ⟨A', n', c', ?_, h3⟩
  have h4 := congrArg (fun q => q[0]?) (show (vs.drop (i * 1)).take 1 = [.slice A' n' c'] from h2)
  simp only [List.getElem?_take, List.getElem?_drop, Nat.mul_one, Nat.add_zero] at h4
  simpa using h4
theorem av_of {w : World} {P : Nat → Prop} {A : Option Addr} {n c : Nat} {l : List Auth} (h : SL Rp.auth w P A n c l) : AV w P A n c l := by
  obtain ⟨vs, hr, he⟩ := h
  refine ⟨vs, hr, he.1, fun i x hx => ?_⟩
  obtain ⟨c1, c2, h2, h3, c3, c4, h4, ⟨N, nn, nc, h5, h6⟩, ⟨V, vn, vc, h7, h8⟩⟩ := he.2 i x hx
  have h3' : c1 = [.int .i64 x.ses] := h3
  subst h3' h5 h7 h4
  refine ⟨N, nn, nc, V, vn, vc, fun j v hj => ?_, h6, h8⟩
  have h9 : (vs.drop (i * 3)).take 3 = authC x.ses N nn nc V vn vc := h2
  rw [← h9, List.getElem?_take] at hj
  split at hj
  · rwa [List.getElem?_drop] at hj
  · cases hj
theorem req_of {w : World} {P : Nat → Prop} {cs : List Value} {q : Req} (h : Rp.req.rep w P cs q) : ∃ r : RA, cs = [.int .i64 q.code, .slice r.hA r.hn r.hc, .slice r.aA r.an r.ac, .slice r.iA r.iN r.ic, .slice r.bA r.bn r.bc] ∧ ReqV w P q r := by
  obtain ⟨c1, _, rfl, h1, c2, _, rfl, ⟨hA, hn, hc, h2, i2⟩, c3, _, rfl, ⟨aA, an, ac, h3, i3⟩, c4, c5, rfl, ⟨iA, iN, ic, h4, i4⟩, ⟨bA, bn, bc, h5, i5⟩⟩ := h
  have h1' : c1 = [.int .i64 q.code] := h1
  subst h1' h2 h3 h4 h5
  exact ⟨⟨hA, hn, hc, aA, an, ac, iA, iN, ic, bA, bn, bc⟩, rfl, iv_of i2, av_of i3, iv_of i4, bl_of i5⟩
instance : Inhabited Auth := ⟨⟨0, [], []⟩⟩
theorem opens_auth (w : World) : Opens Tryd.prog w 38 Rp.auth (fun _ => True) := by
  have h := Opens.struct3 (w := w) Tryd.underlying38 (r0 := Rp.int .i64) (r1 := Rp.bytes) (r2 := Rp.bytes) (by kernel_rfl) (Opens.int Tryd.underlying3) (Opens.bytes Tryd.underlying36 Tryd.underlying5 (by kernel_rfl)) (Opens.bytes Tryd.underlying36 Tryd.underlying5 (by kernel_rfl)) (by kernel_rfl)
  intro H enc base spare held fuel cs x hx
  obtain ⟨a, h1, _⟩ := h hx
  exact ⟨⟨a.1, a.2.1, a.2.2⟩, h1, trivial⟩
theorem opens_req (w : World) : Opens Tryd.prog w 33 Rp.req (fun _ => True) := by
  have h := Opens.struct5 (w := w) Tryd.underlying33 (r0 := Rp.int .i64) (r1 := (Rp.int .i64).list) (r2 := Rp.auth.list) (r3 := (Rp.int .i64).list) (r4 := Rp.bytes.list) (by kernel_rfl)
    (Opens.int Tryd.underlying3) (Opens.list Tryd.underlying29 (by kernel_rfl) (Opens.int Tryd.underlying3)) (Opens.list Tryd.underlying30 (by kernel_rfl) (opens_auth w)) (Opens.list Tryd.underlying29 (by kernel_rfl) (Opens.int Tryd.underlying3))
    (Opens.list Tryd.underlying31 (by kernel_rfl) (Opens.bytes Tryd.underlying36 Tryd.underlying5 (by kernel_rfl))) (by kernel_rfl)
  intro H enc base spare held fuel cs x hx
  obtain ⟨a, h1, _⟩ := h hx
  exact ⟨⟨a.1, a.2.1, a.2.2.1, a.2.2.2.1, a.2.2.2.2⟩, h1, trivial⟩
end Go.Proofs.YtaekpiejdgahfaaDoor
