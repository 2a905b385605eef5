/- The disk of the program: put in all cases, Write, Append. -/
import Derived.Test.YtbbeoojlgfegjaaDoorDiskW2
namespace Go.Proofs.YtbbeoojlgfegjaaDoor
set_option linter.all false
open Go.RowKit
set_option linter.unusedVariables false
set_option linter.unusedSimpArgs false

/-- What put, Write and Append give: the disk d' and the error e'. -/
def DRes (P : Nat → Prop) (w : World) (n : Nat) (d1 : Dk) (e1 : Int) (e : Ending) (w' : World) : Prop :=
  ∃ A' c' d' e', e = .returned (.tuple #[.agg #[.slice A' n c', .int .i64 d'.wr, .int .i64 d'.ct, .int .i64 d'.tn, .bool d'.off], .int .i64 e']) ∧ Hid (d' = d1 ∧ e' = e1) ∧ BL w' P A' n c' d'.areas ∧ Ext w w'
theorem DRes.mk {P : Nat → Prop} {w w' : World} {n c' : Nat} {A' : Option Addr} {d1 : Dk} {e1 : Int} {e : Ending} (he : e = .returned (.tuple #[.agg #[.slice A' n c', .int .i64 d1.wr, .int .i64 d1.ct, .int .i64 d1.tn, .bool d1.off], .int .i64 e1]))
    (hb : BL w' P A' n c' d1.areas) (hE : Ext w w') : DRes P w n d1 e1 e w' := ⟨A', c', d1, e1, he, ⟨rfl, rfl⟩, hb, hE⟩
theorem putS_off {f : List UInt8 → Nat → List UInt8} {d : Dk} {area : Int} {n : Nat} (h : d.off = true) : putS f d area n = d ∧ putE d area n = 29 := by
  unfold putS putE; exact ⟨if_pos h, if_pos h⟩
theorem putS_out {f : List UInt8 → Nat → List UInt8} {d : Dk} {area : Int} {n : Nat} (h : d.off = false) (h1 : ¬ (0 ≤ area ∧ area < d.areas.length)) : putS f d area n = d ∧ putE d area n = 1 := by
  unfold putS putE; exact ⟨by rw [if_neg (by simp [h]), if_pos h1], by rw [if_neg (by simp [h]), if_pos h1]⟩
theorem putS_long {f : List UInt8 → Nat → List UInt8} {d : Dk} {area : Int} {n : Nat} (h : d.off = false) (h1 : 0 ≤ area ∧ area < d.areas.length) (hb : 65536 < n) : putS f d area n = d ∧ putE d area n = 4 := by
  unfold putS putE; exact ⟨by rw [if_neg (by simp [h]), if_neg (by omega), if_pos hb], by rw [if_neg (by simp [h]), if_neg (by omega), if_pos hb]⟩

set_option maxHeartbeats 1000000 in
theorem put_calls (P : Nat → Prop) (w : World) (hP : Anew w P) (A : Option Addr) (n c : Nat) (d : Dk) (ha : BL w P A n c d.areas) (hn : n ≤ 64)
   (D : Option Addr) (m dc : Nat) (hm : m ≤ 1000000) (area : Int) (hw0 : 0 ≤ d.wr) (hw1 : d.wr < 4611686018427387904)
   (f : Nat) (hf0 : f = 43 ∨ f = 43) (caps : Array Value) (F : List UInt8 → Nat → List UInt8)
   (hf : ∀ w1 (Q : Nat → Prop) A n c l k, l ∈ d.areas → Ext w w1 → BV w1 Q A n c l → k ≤ m → Calls Tryd.prog f (#[.slice A n c, .int .i64 (k : Nat)] ++ caps) w1 fun e w' =>
     ∃ S n' k', e = .returned (.slice S n' k') ∧ OB w' w1.heap.size 5 S n' k' (F l k) ∧ Ext w1 w') :
    Calls Tryd.prog 42 #[.agg #[.slice A n c, .int .i64 d.wr, .int .i64 d.ct, .int .i64 d.tn, .bool d.off], .int .i64 area, .slice D m dc, .func (.func f) #[] caps] w (DRes P w n (putS F d area m) (putE d area m)) := by
  have hlen := Lib.hid ha.len
  cases hoff : d.off with
  | true =>
    have H := putS_off (f := F) (area := area) (n := m) hoff
    have HO := Lib.hid hoff
    rw [H.1, H.2]
    clear H hoff
    go_enter Tryd.func42, Tryd.ntmps42
    go_wp2
    refine bodyPost_ret (v := .tuple #[.agg #[.slice A n c, .int .i64 d.wr, .int .i64 d.ct, .int .i64 d.tn, .bool true], .int .i64 29]) (by simp [results, Tryd.results42, go_sem]) rfl ?_
    exact DRes.mk (by rw [HO.out]) (ha.ext (((Ext.refl w).alloc _).alloc _)) (((Ext.refl w).alloc _).alloc _)
  | false =>
    have HO := Lib.hid hoff
    by_cases hin : 0 ≤ area ∧ area < n
    · by_cases hbig : 65536 < m
      · have H := putS_long (f := F) (area := area) (n := m) hoff (by rw [hlen.out]; exact hin) hbig
        rw [H.1, H.2]
        clear H hoff
        obtain ⟨h0, h1⟩ := hin
        go_enter Tryd.func42, Tryd.ntmps42
        go_wp2
        refine bodyPost_ret (v := .tuple #[.agg #[.slice A n c, .int .i64 d.wr, .int .i64 d.ct, .int .i64 d.tn, .bool false], .int .i64 4]) (by simp [results, Tryd.results42, go_sem]) rfl ?_
        exact DRes.mk (by rw [HO.out]) (ha.ext ((((Ext.refl w).alloc _).alloc _).alloc _)) ((((Ext.refl w).alloc _).alloc _).alloc _)
      · obtain ⟨ar, rfl⟩ := Int.eq_ofNat_of_zero_le hin.1
        have har : ar < n := by omega
        rw [← hoff]
        have hput := put_ok P w hP A n c d ha hn D m dc (by omega) ar har hoff hw0 hw1 f hf0 caps F hf
        refine hput.mono ?_
        rintro e w' ⟨A', c', rfl, hb, hE⟩
        refine DRes.mk (A' := A') (c' := c') ?_ hb hE
        rw [putS_in hoff (by rw [hlen.out]; exact har) (by omega)]
    · have H := putS_out (f := F) (area := area) (n := m) hoff (by rw [hlen.out]; exact hin)
      rw [H.1, H.2]
      clear H hoff
      have hth := there_calls
      by_cases h0 : 0 ≤ area
      · have h1 : ¬ area < n := fun h => hin ⟨h0, h⟩
        clear hin
        go_enter Tryd.func42, Tryd.ntmps42
        go_wp2
        refine bodyPost_ret (v := .tuple #[.agg #[.slice A n c, .int .i64 d.wr, .int .i64 d.ct, .int .i64 d.tn, .bool false], .int .i64 1]) (by simp [results, Tryd.results42, go_sem]) rfl ?_
        exact DRes.mk (by rw [HO.out]) (ha.ext ((((Ext.refl w).alloc _).alloc _).alloc _)) ((((Ext.refl w).alloc _).alloc _).alloc _)
      · clear hin
        go_enter Tryd.func42, Tryd.ntmps42
        go_wp2
        refine bodyPost_ret (v := .tuple #[.agg #[.slice A n c, .int .i64 d.wr, .int .i64 d.ct, .int .i64 d.tn, .bool false], .int .i64 1]) (by simp [results, Tryd.results42, go_sem]) rfl ?_
        exact DRes.mk (by rw [HO.out]) (ha.ext ((((Ext.refl w).alloc _).alloc _).alloc _)) ((((Ext.refl w).alloc _).alloc _).alloc _)

theorem put_calls' (P : Nat → Prop) (w : World) (hP : Anew w P) (A : Option Addr) (n c : Nat) (d : Dk) (ha : BL w P A n c d.areas) (hn : n ≤ 64)
   (D : Option Addr) (m dc : Nat) (hm : m ≤ 1000000) (area : Int) (hw0 : 0 ≤ d.wr) (hw1 : d.wr < 4611686018427387904)
   (f : Nat) (hf0 : f = 43 ∨ f = 43) (caps : Array Value) (F : List UInt8 → Nat → List UInt8) (o : Bool) (ho : d.off = o)
   (hf : ∀ w1 (Q : Nat → Prop) A n c l k, l ∈ d.areas → Ext w w1 → BV w1 Q A n c l → k ≤ m → Calls Tryd.prog f (#[.slice A n c, .int .i64 (k : Nat)] ++ caps) w1 fun e w' =>
     ∃ S n' k', e = .returned (.slice S n' k') ∧ OB w' w1.heap.size 5 S n' k' (F l k) ∧ Ext w1 w') :
    Calls Tryd.prog 42 #[.agg #[.slice A n c, .int .i64 d.wr, .int .i64 d.ct, .int .i64 d.tn, .bool o], .int .i64 area, .slice D m dc, .func (.func f) #[] caps] w (DRes P w n (putS F d area m) (putE d area m)) := by
  subst ho
  exact put_calls P w hP A n c d ha hn D m dc hm area hw0 hw1 f hf0 caps F hf

set_option maxHeartbeats 1000000 in
theorem write_calls (P : Nat → Prop) (w : World) (hP : Anew w P) (A : Option Addr) (n c : Nat) (d : Dk) (ha : BL w P A n c d.areas) (hn : n ≤ 64)
   (D : Option Addr) (m dc : Nat) (x : List UInt8) {PX : Nat → Prop} (hx : BV w PX D m dc x) (hm : m ≤ 1000000) (area : Int) (hw0 : 0 ≤ d.wr) (hw1 : d.wr < 4611686018427387904) (hs : ∀ l ∈ d.areas, l.length ≤ 35184372088832) :
    Calls Tryd.prog 25 #[.agg #[.slice A n c, .int .i64 d.wr, .int .i64 d.ct, .int .i64 d.tn, .bool d.off], .int .i64 area, .slice D m dc] w (DRes P w n (writeS d area x) (putE d area m)) := by
  have hxl := Lib.hid hx.len
  cases hoff : d.off with
  | true =>
    have HT : Hid ((!d.off && cutsS d) = false) := Lib.hid (by rw [hoff]; rfl)
    have HO := Lib.hid hoff
    clear hoff
    go_enter Tryd.func25, Tryd.ntmps25
    go_wp2_with fail
    refine (put_calls' (Sep P w.heap.size (w.heap.size + 4)) _ (Sep.anew (by simp)) A n c d (((ha.sep.ext (((((Ext.refl w).alloc _).alloc _).alloc _).alloc _)))) hn D m dc hm area hw0 hw1 43 (.inl rfl) _ (fun old k => write1S false k old x) true HO.out ?hf).mono ?_
    case hf =>
      intro w1 Q A1 n1 c1 l1 k1 hl hE1 hb1 hk1
      obtain ⟨hc, _⟩ := hE1.cells
      have hlen := hb1.len
      have h1 := hs l1 hl
      exact write1_calls (P := fun _ => True) w1 A1 n1 c1 l1 (hb1.mono (fun _ _ => trivial)) (by omega) k1 D m dc x ((hx.ext (((((Ext.refl w).alloc _).alloc _).alloc _).alloc _)).ext hE1 |>.mono (fun _ _ => trivial)) hk1 (by omega) (w.heap.size + 1) (w.heap.size + 3) false
        ((hc _ _ (by simp)).trans (by simp [go_sem])) ((hc _ _ (by simp)).trans (by simp [go_sem])) (by have := hE1.size; simp at this; omega) (by have := hE1.size; simp at this; omega)
    rintro e w1 ⟨A1, c1, d1, e1, rfl, H1, hb1, hE1⟩
    have hB3 := ((Blk.new' (w := (w.alloc (.cells #[.slice A n c, .int .i64 d.wr, .int .i64 d.ct, .int .i64 d.tn, .bool true] 28)).alloc (.cells #[.slice D m dc] 23)) (t := 28) (cs := #[.slice none 0 0, .int .i64 0, .int .i64 0, .int .i64 0, .bool false]) (n := w.heap.size + 2) (by simp)).alloc _).ext hE1
    have HB := Lib.hid hB3
    obtain ⟨c0, c1', c2, c3, c4⟩ := hB3.c5
    have f0 := hB3.free
    go_wp2
    refine bodyPost_ret (v := .tuple #[.agg #[.slice A1 n c1, .int .i64 d1.wr, .int .i64 d1.ct, .int .i64 d1.tn, .bool d1.off], .int .i64 e1]) (by simp [results, Tryd.results25, go_sem, c0, c1', c2, c3, c4]) rfl ?_
    have hE0 : Ext w w1 := (((((Ext.refl w).alloc _).alloc _).alloc _).alloc _).trans hE1
    have hfin := Fr.stores (P := Sep P w.heap.size (w.heap.size + 4)) (g := w.heap.size + 2) [.slice A1 n c1, .int .i64 d1.wr, .int .i64 d1.ct, .int .i64 d1.tn, .bool d1.off] 0 w1 (Fr.refl _ _) (.inl (Sep.off (by omega) (by omega)))
    have hEf := Ext.stores (g := w.heap.size + 2) [.slice A1 n c1, .int .i64 d1.wr, .int .i64 d1.ct, .int .i64 d1.tn, .bool d1.off] 0 w1 hE0 (by omega)
    refine ⟨A1, c1, d1, e1, rfl, ?_, (hb1.fr hfin).mono (Sep.back hP (by omega)), hEf⟩
    have h := H1.out
    exact ⟨h.1.trans (by unfold writeS; rw [hxl.out, HT.out]), h.2⟩

  | false =>
    have HO := Lib.hid hoff
    clear hoff
    cases hcut : cutsS d with
    | true =>
      have HT : Hid ((!d.off && cutsS d) = true) := Lib.hid (by rw [HO.out, hcut]; rfl)
      have hc : ((d.wr + 1) == d.ct) = true := by simpa [cutsS] using hcut
      clear hcut
      go_enter Tryd.func25, Tryd.ntmps25
      go_wp2_with fail
      refine (put_calls' (Sep P w.heap.size (w.heap.size + 4)) _ (Sep.anew (by simp)) A n c d (((ha.sep.ext (((((Ext.refl w).alloc _).alloc _).alloc _).alloc _)))) hn D m dc hm area hw0 hw1 43 (.inl rfl) _ (fun old k => write1S true k old x) false HO.out ?hf).mono ?_
      case hf =>
        intro w1 Q A1 n1 c1 l1 k1 hl hE1 hb1 hk1
        obtain ⟨hc, _⟩ := hE1.cells
        have hlen := hb1.len
        have h1 := hs l1 hl
        exact write1_calls (P := fun _ => True) w1 A1 n1 c1 l1 (hb1.mono (fun _ _ => trivial)) (by omega) k1 D m dc x ((hx.ext (((((Ext.refl w).alloc _).alloc _).alloc _).alloc _)).ext hE1 |>.mono (fun _ _ => trivial)) hk1 (by omega) (w.heap.size + 1) (w.heap.size + 3) true
          ((hc _ _ (by simp)).trans (by simp [go_sem])) ((hc _ _ (by simp)).trans (by simp [go_sem])) (by have := hE1.size; simp at this; omega) (by have := hE1.size; simp at this; omega)
      rintro e w1 ⟨A1, c1, d1, e1, rfl, H1, hb1, hE1⟩
      have hB3 := ((Blk.new' (w := (w.alloc (.cells #[.slice A n c, .int .i64 d.wr, .int .i64 d.ct, .int .i64 d.tn, .bool false] 28)).alloc (.cells #[.slice D m dc] 23)) (t := 28) (cs := #[.slice none 0 0, .int .i64 0, .int .i64 0, .int .i64 0, .bool false]) (n := w.heap.size + 2) (by simp)).alloc _).ext hE1
      have HB := Lib.hid hB3
      obtain ⟨c0, c1', c2, c3, c4⟩ := hB3.c5
      have f0 := hB3.free
      go_wp2
      refine bodyPost_ret (v := .tuple #[.agg #[.slice A1 n c1, .int .i64 d1.wr, .int .i64 d1.ct, .int .i64 d1.tn, .bool d1.off], .int .i64 e1]) (by simp [results, Tryd.results25, go_sem, c0, c1', c2, c3, c4]) rfl ?_
      have hE0 : Ext w w1 := (((((Ext.refl w).alloc _).alloc _).alloc _).alloc _).trans hE1
      have hfin := Fr.stores (P := Sep P w.heap.size (w.heap.size + 4)) (g := w.heap.size + 2) [.slice A1 n c1, .int .i64 d1.wr, .int .i64 d1.ct, .int .i64 d1.tn, .bool d1.off] 0 w1 (Fr.refl _ _) (.inl (Sep.off (by omega) (by omega)))
      have hEf := Ext.stores (g := w.heap.size + 2) [.slice A1 n c1, .int .i64 d1.wr, .int .i64 d1.ct, .int .i64 d1.tn, .bool d1.off] 0 w1 hE0 (by omega)
      refine ⟨A1, c1, d1, e1, rfl, ?_, (hb1.fr hfin).mono (Sep.back hP (by omega)), hEf⟩
      have h := H1.out
      exact ⟨h.1.trans (by unfold writeS; rw [hxl.out, HT.out]), h.2⟩

    | false =>
      have HT : Hid ((!d.off && cutsS d) = false) := Lib.hid (by rw [HO.out, hcut]; rfl)
      have hc : ((d.wr + 1) == d.ct) = false := by simpa [cutsS] using hcut
      clear hcut
      go_enter Tryd.func25, Tryd.ntmps25
      go_wp2_with fail
      refine (put_calls' (Sep P w.heap.size (w.heap.size + 4)) _ (Sep.anew (by simp)) A n c d (((ha.sep.ext (((((Ext.refl w).alloc _).alloc _).alloc _).alloc _)))) hn D m dc hm area hw0 hw1 43 (.inl rfl) _ (fun old k => write1S false k old x) false HO.out ?hf).mono ?_
      case hf =>
        intro w1 Q A1 n1 c1 l1 k1 hl hE1 hb1 hk1
        obtain ⟨hc, _⟩ := hE1.cells
        have hlen := hb1.len
        have h1 := hs l1 hl
        exact write1_calls (P := fun _ => True) w1 A1 n1 c1 l1 (hb1.mono (fun _ _ => trivial)) (by omega) k1 D m dc x ((hx.ext (((((Ext.refl w).alloc _).alloc _).alloc _).alloc _)).ext hE1 |>.mono (fun _ _ => trivial)) hk1 (by omega) (w.heap.size + 1) (w.heap.size + 3) false
          ((hc _ _ (by simp)).trans (by simp [go_sem])) ((hc _ _ (by simp)).trans (by simp [go_sem])) (by have := hE1.size; simp at this; omega) (by have := hE1.size; simp at this; omega)
      rintro e w1 ⟨A1, c1, d1, e1, rfl, H1, hb1, hE1⟩
      have hB3 := ((Blk.new' (w := (w.alloc (.cells #[.slice A n c, .int .i64 d.wr, .int .i64 d.ct, .int .i64 d.tn, .bool false] 28)).alloc (.cells #[.slice D m dc] 23)) (t := 28) (cs := #[.slice none 0 0, .int .i64 0, .int .i64 0, .int .i64 0, .bool false]) (n := w.heap.size + 2) (by simp)).alloc _).ext hE1
      have HB := Lib.hid hB3
      obtain ⟨c0, c1', c2, c3, c4⟩ := hB3.c5
      have f0 := hB3.free
      go_wp2
      refine bodyPost_ret (v := .tuple #[.agg #[.slice A1 n c1, .int .i64 d1.wr, .int .i64 d1.ct, .int .i64 d1.tn, .bool d1.off], .int .i64 e1]) (by simp [results, Tryd.results25, go_sem, c0, c1', c2, c3, c4]) rfl ?_
      have hE0 : Ext w w1 := (((((Ext.refl w).alloc _).alloc _).alloc _).alloc _).trans hE1
      have hfin := Fr.stores (P := Sep P w.heap.size (w.heap.size + 4)) (g := w.heap.size + 2) [.slice A1 n c1, .int .i64 d1.wr, .int .i64 d1.ct, .int .i64 d1.tn, .bool d1.off] 0 w1 (Fr.refl _ _) (.inl (Sep.off (by omega) (by omega)))
      have hEf := Ext.stores (g := w.heap.size + 2) [.slice A1 n c1, .int .i64 d1.wr, .int .i64 d1.ct, .int .i64 d1.tn, .bool d1.off] 0 w1 hE0 (by omega)
      refine ⟨A1, c1, d1, e1, rfl, ?_, (hb1.fr hfin).mono (Sep.back hP (by omega)), hEf⟩
      have h := H1.out
      exact ⟨h.1.trans (by unfold writeS; rw [hxl.out, HT.out]), h.2⟩

end Go.Proofs.YtbbeoojlgfegjaaDoor
