/- What the listed variables hold when the call begins. -/
import Derived.Test.YtnbgieccindpnaaDoorHashP4
import Derived.Test.YtnbgieccindpnaaDoorRows
import Derived.OpenShut
import Derived.LaidMore
import Derived.ProofKit
import Derived.Stop.Joined
namespace Go.Proofs.YtnbgieccindpnaaDoor
set_option linter.all false
set_option maxRecDepth 20000
open Go.ChangeShapes Go.WideShapes Go.ChangeAt Go.WideMaps Go.WideElems Go.RowKit
theorem trod_ints {H : Type} {enc : TypeId × Value → H} {P : Program} {w : World} {base : Nat} {spare : Nat → Bool} {held : Bool} {fuel n : Nat} {t e : TypeId} {k : IntKind} {cs : List Value} (ht : P.underlying t = some (.array n e)) (he : P.underlying e = some (.int k)) (hc : P.cellsOf e = 1) (hct : P.cellsOf t = n) (zs : List Int) {p : List MemPlace}
    (h : DataW.trod enc P w base spare held fuel t cs = some (.agg (zs.map fun z => .lit (.int k z)), p)) : cs = zs.map fun z => .int k z := by
  obtain ⟨xs, m, rfl, hx, hlen, hn, hel⟩ := DataW.trod_array ht h
  simp only [Prod.mk.injEq, DataW.agg.injEq] at hx
  have hzl : zs.length = n := by
    have := congrArg List.length hx.1
    simp at this
    omega
  apply List.ext_getElem?
  intro i
  by_cases hi : i < n
  · have h1 := hel i hi
    rw [hc, Nat.mul_one] at h1
    have hxi : i < xs.length := by omega
    rw [List.getElem?_eq_getElem hxi] at h1
    obtain ⟨z, e1, e2, _⟩ := DataW.trod_int he h1
    have h2 := congrArg (fun l => l[i]?) hx.1
    simp only [List.getElem?_map, List.getElem?_eq_getElem hxi, Option.map_some, e2] at h2
    have hzi : i < zs.length := by omega
    rw [List.getElem?_eq_getElem hzi] at h2
    simp only [Option.map_some, Option.some.injEq, DataW.lit.injEq, Lit.int.injEq, true_and] at h2
    have h3 := congrArg (fun l => l[0]?) e1
    simp only [List.getElem?_take, List.getElem?_drop, Nat.add_zero] at h3
    rw [List.getElem?_map, List.getElem?_eq_getElem hzi]
    simp only [Option.map_some]
    rw [h2]
    simpa using h3
  · rw [List.getElem?_eq_none (by omega), List.getElem?_eq_none (by simp; omega)]
theorem gv_of {P : Program} {w : World} {nm : String} {g : Nat} {cs : Array Value} {vs : List Value} (hg : P.globalNamed nm = some g) (hv : w.var? P nm = some cs) (hc : cs.toList = vs) : GV w g vs := by
  have hlt : g < w.heap.size := by
    simp only [World.var?, hg, Option.bind_some] at hv
    rcases Nat.lt_or_ge g w.heap.size with h | h
    · exact h
    · rw [Array.getElem?_eq_none h] at hv; cases hv
  refine ⟨hlt, fun i v hi => ?_⟩
  rw [World.var?_cell hg hv i]
  subst hc
  simpa using hi
theorem gRound : Tryd.prog.globalNamed "sealwright/digest.round256" = some 0 := by kernel_rfl
theorem tRound : (Tryd.prog.globals[0]?).map (·.type) = some 121 := by kernel_rfl
def zsRound : List Int := consts.map fun x => (x.toNat : Int)
theorem dRound : (Rows.laid_sealwright_digest_round256 : DataW Unit) = .agg (zsRound.map fun z => .lit (.int .u32 z)) := by kernel_rfl
theorem vRound : (zsRound.map fun z => Value.int .u32 z) = u32s consts := by kernel_rfl
set_option maxRecDepth 100000 in
theorem of_laid {W : World} (h : laidMetH Tryd.prog [("sealwright/digest.round256", Rows.laid_sealwright_digest_round256)] W) : Tab W := by
  rw [MakeChecks.laidMetH_plain _ _ _ (by kernel_rfl)] at h
  obtain ⟨ps, ⟨g0, t0, cs0, f0, p0, q0, hg0, ht0, hv0, hd0, _, _⟩, _, _⟩ := h
  obtain rfl := Option.some.inj (gRound.symm.trans hg0)
  obtain rfl := Option.some.inj (tRound.symm.trans ht0)
  rw [dRound] at hd0
  have h1 := trod_ints Tryd.underlying121 Tryd.underlying98 (by kernel_rfl) (by kernel_rfl) zsRound hd0
  rw [vRound] at h1
  exact gv_of hg0 hv0 h1
end Go.Proofs.YtnbgieccindpnaaDoor
