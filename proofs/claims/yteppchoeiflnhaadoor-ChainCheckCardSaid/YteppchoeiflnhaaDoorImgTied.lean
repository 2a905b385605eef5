/- Images: what the listed variables hold when the call begins; images opened. -/
import Derived.Test.YteppchoeiflnhaaDoorImgS
import Derived.Test.YteppchoeiflnhaaDoorRep
import Derived.Test.YteppchoeiflnhaaDoorRows
import Derived.OpenShut
import Derived.LaidMore
import Derived.ProofKit
import Derived.Stop.Joined
namespace Go.Proofs.YteppchoeiflnhaaDoor
set_option linter.all false
set_option maxRecDepth 20000
open Go.ChangeShapes Go.WideShapes Go.ChangeAt Go.WideMaps Go.WideElems Go.RowKit
theorem trod_ints {H : Type} {enc : TypeId × Value → H} {P : Program} {w : World} {base : Nat} {spare : Nat → Bool} {held : Bool} {fuel n : Nat} {t e : TypeId} {k : IntKind} {cs : List Value} (ht : P.underlying t = some (.array n e)) (he : P.underlying e = some (.int k)) (hc : P.cellsOf e = 1) (hct : P.cellsOf t = n) (zs : List Int) {p : List MemPlace}
    (h : DataW.trod enc P w base spare held fuel t cs = some (.agg (zs.map fun z => .lit (.int k z)), p)) : cs = zs.map fun z => .int k z := by
  obtain ⟨xs, m, rfl, hx, hlen, hn, hel⟩ := DataW.trod_array ht h
  simp only [Prod.mk.injEq, DataW.agg.injEq] at hx
  have hzl : zs.length = n := by
    have := congrArg List.length hx.1
    simp at this
    omega
  apply List.ext_getElem?
  intro i
  by_cases hi : i < n
  · have h1 := hel i hi
    rw [hc, Nat.mul_one] at h1
    have hxi : i < xs.length := by omega
    rw [List.getElem?_eq_getElem hxi] at h1
    obtain ⟨z, e1, e2, _⟩ := DataW.trod_int he h1
    have h2 := congrArg (fun l => l[i]?) hx.1
    simp only [List.getElem?_map, List.getElem?_eq_getElem hxi, Option.map_some, e2] at h2
    have hzi : i < zs.length := by omega
    rw [List.getElem?_eq_getElem hzi] at h2
    simp only [Option.map_some, Option.some.injEq, DataW.lit.injEq, Lit.int.injEq, true_and] at h2
    have h3 := congrArg (fun l => l[0]?) e1
    simp only [List.getElem?_take, List.getElem?_drop, Nat.add_zero] at h3
    rw [List.getElem?_map, List.getElem?_eq_getElem hzi]
    simp only [Option.map_some]
    rw [h2]
    simpa using h3
  · rw [List.getElem?_eq_none (by omega), List.getElem?_eq_none (by simp; omega)]
theorem gv_of {P : Program} {w : World} {nm : String} {g : Nat} {cs : Array Value} {vs : List Value} (hg : P.globalNamed nm = some g) (hv : w.var? P nm = some cs) (hc : cs.toList = vs) : GV w g vs := by
  have hlt : g < w.heap.size := by
    simp only [World.var?, hg, Option.bind_some] at hv
    rcases Nat.lt_or_ge g w.heap.size with h | h
    · exact h
    · rw [Array.getElem?_eq_none h] at hv; cases hv
  refine ⟨hlt, fun i v hi => ?_⟩
  rw [World.var?_cell hg hv i]
  subst hc
  simpa using hi
theorem gRound : Tryd.prog.globalNamed "sealwright/digest.round256" = some 1 := by kernel_rfl
theorem tRound : (Tryd.prog.globals[1]?).map (·.type) = some 104 := by kernel_rfl
def zsRound : List Int := consts.map fun x => (x.toNat : Int)
theorem dRound : (Rows.laid_sealwright_digest_round256 : DataW Unit) = .agg (zsRound.map fun z => .lit (.int .u32 z)) := by kernel_rfl
theorem vRound : (zsRound.map fun z => Value.int .u32 z) = u32s consts := by kernel_rfl
theorem gMeas : Tryd.prog.globalNamed "sealwright/image.measured" = some 0 := by kernel_rfl
theorem tMeas : (Tryd.prog.globals[0]?).map (·.type) = some 79 := by kernel_rfl
set_option maxRecDepth 100000 in
theorem of_laid {W : World} (h : laidMetH Tryd.prog [("sealwright/digest.round256", Rows.laid_sealwright_digest_round256), ("sealwright/image.measured", Rows.laid_sealwright_image_measured)] W) : Tab W ∧ TabM W := by
  rw [MakeChecks.laidMetH_plain _ _ _ (by kernel_rfl)] at h
  obtain ⟨ps, ⟨g0, t0, cs0, f0, p0, q0, hg0, ht0, hv0, hd0, hrest, _⟩, _, _⟩ := h
  obtain ⟨g1, t1, cs1, f1, p1, q1, hg1, ht1, hv1, hd1, _, _⟩ := hrest
  obtain rfl := Option.some.inj (gRound.symm.trans hg0)
  obtain rfl := Option.some.inj (tRound.symm.trans ht0)
  obtain rfl := Option.some.inj (gMeas.symm.trans hg1)
  obtain rfl := Option.some.inj (tMeas.symm.trans ht1)
  rw [dRound] at hd0
  have h1 := trod_ints Tryd.underlying104 Tryd.underlying80 (by kernel_rfl) (by kernel_rfl) zsRound hd0
  rw [vRound] at h1
  have h2 := trod_ints Tryd.underlying79 Tryd.underlying3 (by kernel_rfl) (by kernel_rfl) [-1, 0, 4, 8, 9] hd1
  exact ⟨gv_of hg0 hv0 h1, gv_of hg1 hv1 h2⟩
/-! images opened -/
theorem opens_img (w : World) : Opens Tryd.prog w 26 Rp.img (fun _ => True) := by
  have h := Opens.struct4 (w := w) Tryd.underlying26 (r0 := Rp.int .i64) (r1 := Rp.str) (r2 := Rp.int .i64) (r3 := Rp.bytes) (by kernel_rfl) (Opens.int Tryd.underlying3) (Opens.str Tryd.underlying9) (Opens.int Tryd.underlying3) (Opens.bytes Tryd.underlying22 Tryd.underlying5 (by kernel_rfl)) (by kernel_rfl)
  intro H enc base spare held fuel cs x hx
  obtain ⟨a, h1, _⟩ := h hx
  exact ⟨⟨a.1, a.2.1, a.2.2.1, a.2.2.2⟩, h1, trivial⟩
theorem opens_imgs (w : World) : Opens Tryd.prog w 52 Rp.img.list (fun _ => True) := (Opens.list Tryd.underlying52 (by kernel_rfl) (opens_img w)).mono fun _ _ => trivial
end Go.Proofs.YteppchoeiflnhaaDoor
