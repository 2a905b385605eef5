/- The reference's disk: put in all cases, Write, Append. -/
import Derived.Test.YtbbeoojlgfegjaaDoorDiskR
import Derived.Test.YtbbeoojlgfegjaaDoorDiskM
namespace Go.Proofs.YtbbeoojlgfegjaaDoor
set_option linter.all false
open Go.RowKit
set_option linter.unusedVariables false
set_option linter.unusedSimpArgs false

/-- What the reference's put gives. -/
def putRS (add : Bool) (d : Dk) (area : Int) (x : List UInt8) : Dk := if add = true then appendS d area x else writeS d area x
theorem putRS_off {add : Bool} {d : Dk} {area : Int} {x : List UInt8} (h : d.off = true) : putRS add d area x = d ∧ putE d area x.length = 29 := by
  unfold putRS appendS writeS
  exact ⟨by split <;> exact (putS_off h).1, (putS_off (f := fun l _ => l) h).2⟩
theorem putRS_out {add : Bool} {d : Dk} {area : Int} {x : List UInt8} (h : d.off = false) (h1 : ¬ (0 ≤ area ∧ area < d.areas.length)) : putRS add d area x = d ∧ putE d area x.length = 1 := by
  unfold putRS appendS writeS
  exact ⟨by split <;> exact (putS_out h h1).1, (putS_out (f := fun l _ => l) h h1).2⟩
theorem putRS_long {add : Bool} {d : Dk} {area : Int} {x : List UInt8} (h : d.off = false) (h1 : 0 ≤ area ∧ area < d.areas.length) (hb : 65536 < x.length) : putRS add d area x = d ∧ putE d area x.length = 4 := by
  unfold putRS appendS writeS
  exact ⟨by split <;> exact (putS_long h h1 hb).1, (putS_long (f := fun l _ => l) h h1 hb).2⟩
theorem putRS_in {add : Bool} {d : Dk} {area : Nat} {x : List UInt8} (h : d.off = false) (h1 : area < d.areas.length) (hb : x.length ≤ 65536) :
    putRS add d (area : Nat) x = { d with areas := d.areas.set area (contentR add d d.areas[area]! x), wr := d.wr + 1, off := cutsS d } := by
  unfold putRS appendS writeS contentR
  have hg : d.areas[area]! = d.areas[area] := by simp [h1]
  split
  · rw [putS_in h h1 hb, hg]
  · rw [putS_in h h1 hb, hg, h]; rfl

set_option maxHeartbeats 1000000 in
theorem putR_calls (P : Nat → Prop) (w : World) (hP : Anew w P) (A : Option Addr) (n c : Nat) (d : Dk) (ha : BL w P A n c d.areas) (hn : n ≤ 64)
   (D : Option Addr) (m dc : Nat) (x : List UInt8) {PX : Nat → Prop} (hx : BV w PX D m dc x) (hm : m ≤ 1000000) (area : Int) (hw0 : 0 ≤ d.wr) (hw1 : d.wr < 4611686018427387904) (hs : ∀ l ∈ d.areas, l.length ≤ 35184372088832) (add : Bool) (o : Bool) (ho : d.off = o) :
    Calls Tryd.prog 35 #[.agg #[.slice A n c, .int .i64 d.wr, .int .i64 d.ct, .int .i64 d.tn, .bool o], .int .i64 area, .slice D m dc, .bool add] w (DRes P w n (putRS add d area x) (putE d area m)) := by
  have hlen := Lib.hid ha.len
  have hxl := Lib.hid hx.len
  cases o with
  | true =>
    have H := putRS_off (add := add) (area := area) (x := x) ho
    have HO := Lib.hid ho
    rw [hxl.out] at H
    rw [H.1, H.2]
    clear H ho
    go_enter Tryd.func35, Tryd.ntmps35
    go_wp2
    refine bodyPost_ret (v := .tuple #[.agg #[.slice A n c, .int .i64 d.wr, .int .i64 d.ct, .int .i64 d.tn, .bool true], .int .i64 29]) (by simp [results, Tryd.results35, go_sem]) rfl ?_
    exact DRes.mk (by rw [HO.out]) (ha.ext (((Ext.refl w).alloc _).alloc _)) (((Ext.refl w).alloc _).alloc _)
  | false =>
    have HO := Lib.hid ho
    by_cases hin : 0 ≤ area ∧ area < n
    · by_cases hbig : 65536 < m
      · have H := putRS_long (add := add) (area := area) (x := x) ho (by rw [hlen.out]; exact hin) (by rw [hxl.out]; exact hbig)
        rw [hxl.out] at H
        rw [H.1, H.2]
        clear H ho
        obtain ⟨h0, h1⟩ := hin
        have h0' : ¬ area < 0 := by omega
        go_enter Tryd.func35, Tryd.ntmps35
        go_wp2
        refine bodyPost_ret (v := .tuple #[.agg #[.slice A n c, .int .i64 d.wr, .int .i64 d.ct, .int .i64 d.tn, .bool false], .int .i64 4]) (by simp [results, Tryd.results35, go_sem]) rfl ?_
        exact DRes.mk (by rw [HO.out]) (ha.ext (((Ext.refl w).alloc _).alloc _)) (((Ext.refl w).alloc _).alloc _)
      · obtain ⟨ar, rfl⟩ := Int.eq_ofNat_of_zero_le hin.1
        have har : ar < n := by omega
        refine (putR_ok P w hP A n c d ha hn D m dc x hx (by omega) ar har ho hw0 hw1 hs add).mono ?_
        rintro e w' ⟨A', c', rfl, hb, hE⟩
        have hin := putRS_in (add := add) (x := x) ho (by rw [hlen.out]; exact har) (by rw [hxl.out]; omega)
        rw [hin]
        exact DRes.mk (A' := A') (c' := c') rfl hb hE
    · have H := putRS_out (add := add) (area := area) (x := x) ho (by rw [hlen.out]; exact hin)
      rw [hxl.out] at H
      rw [H.1, H.2]
      clear H ho
      by_cases h0 : 0 ≤ area
      · have h1 : ¬ area < n := fun h => hin ⟨h0, h⟩
        have h0' : ¬ area < 0 := by omega
        have h1' : (n : Int) ≤ area := by omega
        clear hin
        go_enter Tryd.func35, Tryd.ntmps35
        go_wp2
        refine bodyPost_ret (v := .tuple #[.agg #[.slice A n c, .int .i64 d.wr, .int .i64 d.ct, .int .i64 d.tn, .bool false], .int .i64 1]) (by simp [results, Tryd.results35, go_sem]) rfl ?_
        exact DRes.mk (by rw [HO.out]) (ha.ext (((Ext.refl w).alloc _).alloc _)) (((Ext.refl w).alloc _).alloc _)
      · clear hin
        have h0' : area < 0 := by omega
        go_enter Tryd.func35, Tryd.ntmps35
        go_wp2
        refine bodyPost_ret (v := .tuple #[.agg #[.slice A n c, .int .i64 d.wr, .int .i64 d.ct, .int .i64 d.tn, .bool false], .int .i64 1]) (by simp [results, Tryd.results35, go_sem]) rfl ?_
        exact DRes.mk (by rw [HO.out]) (ha.ext (((Ext.refl w).alloc _).alloc _)) (((Ext.refl w).alloc _).alloc _)

set_option maxHeartbeats 1000000 in
theorem writeR_calls (P : Nat → Prop) (w : World) (hP : Anew w P) (A : Option Addr) (n c : Nat) (d : Dk) (ha : BL w P A n c d.areas) (hn : n ≤ 64)
   (D : Option Addr) (m dc : Nat) (x : List UInt8) {PX : Nat → Prop} (hx : BV w PX D m dc x) (hm : m ≤ 1000000) (area : Int) (hw0 : 0 ≤ d.wr) (hw1 : d.wr < 4611686018427387904) (hs : ∀ l ∈ d.areas, l.length ≤ 35184372088832) :
    Calls Tryd.prog 18 #[.agg #[.slice A n c, .int .i64 d.wr, .int .i64 d.ct, .int .i64 d.tn, .bool d.off], .int .i64 area, .slice D m dc] w (DRes P w n (writeS d area x) (putE d area m)) := by
  go_enter Tryd.func18, Tryd.ntmps18
  go_wp2_with fail
  refine (putR_calls (Sep P w.heap.size (w.heap.size + 2)) _ (Sep.anew (by simp)) A n c d (((ha.sep.ext (((Ext.refl w).alloc _).alloc _)))) hn D m dc x (hx.ext (((Ext.refl w).alloc _).alloc _)) hm area hw0 hw1 hs false d.off rfl).mono ?_
  rintro e w1 ⟨A1, c1, d1, e1, rfl, H1, hb1, hE1⟩
  have hB3 := (Blk.new' (w := w.alloc (.cells #[.slice A n c, .int .i64 d.wr, .int .i64 d.ct, .int .i64 d.tn, .bool d.off] 28)) (t := 28) (cs := #[.slice none 0 0, .int .i64 0, .int .i64 0, .int .i64 0, .bool false]) (n := w.heap.size + 1) (by simp)).ext hE1
  have HB := Lib.hid hB3
  obtain ⟨c0, c1', c2, c3, c4⟩ := hB3.c5
  have f0 := hB3.free
  go_wp2
  refine bodyPost_ret (v := .tuple #[.agg #[.slice A1 n c1, .int .i64 d1.wr, .int .i64 d1.ct, .int .i64 d1.tn, .bool d1.off], .int .i64 e1]) (by simp [results, Tryd.results18, go_sem, c0, c1', c2, c3, c4]) rfl ?_
  have hE0 : Ext w w1 := (((Ext.refl w).alloc _).alloc _).trans hE1
  have hfin := Fr.stores (P := Sep P w.heap.size (w.heap.size + 2)) (g := w.heap.size + 1) [.slice A1 n c1, .int .i64 d1.wr, .int .i64 d1.ct, .int .i64 d1.tn, .bool d1.off] 0 w1 (Fr.refl _ _) (.inl (Sep.off (by omega) (by omega)))
  have hEf := Ext.stores (g := w.heap.size + 1) [.slice A1 n c1, .int .i64 d1.wr, .int .i64 d1.ct, .int .i64 d1.tn, .bool d1.off] 0 w1 hE0 (by omega)
  exact ⟨A1, c1, d1, e1, rfl, H1, (hb1.fr hfin).mono (Sep.back hP (by omega)), hEf⟩

end Go.Proofs.YtbbeoojlgfegjaaDoor
