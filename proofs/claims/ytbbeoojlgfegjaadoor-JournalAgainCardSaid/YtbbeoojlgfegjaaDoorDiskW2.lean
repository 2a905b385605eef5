/- The disk of the program: contracts of its functions. -/
import Derived.Test.YtbbeoojlgfegjaaDoorRef1
import Derived.Test.YtbbeoojlgfegjaaDoorDiskW1
namespace Go.Proofs.YtbbeoojlgfegjaaDoor
set_option linter.all false
open Go.RowKit
set_option linter.unusedVariables false
set_option linter.unusedSimpArgs false

attribute [local go_sem ↓ high] run_max_nm run_min_nm

theorem infoBL : (Tryd.prog.info? 23).map (fun i => (i.zero, i.size, i.bytes)) = some (some (.slice none 0 0), 1, 24) := by kernel_rfl

theorem fill_at {α : Type} (vs : List α) (z : α) (n j : Nat) (h1 : j ≤ vs.length) (h2 : j < n) : (vs.take j ++ List.replicate (n - j) z)[j]? = some z := by
  rw [List.getElem?_append_right (by simp; omega)]
  simp [List.getElem?_replicate]
  omega
theorem fill_set {α : Type} (vs : List α) (z : α) (n j : Nat) (x : α) (h1 : n ≤ vs.length) (h2 : j < n) (h3 : vs[j]? = some x) :
    (vs.take j ++ List.replicate (n - j) z).set j x = vs.take (j + 1) ++ List.replicate (n - (j + 1)) z := by
  have hl : j < vs.length := by omega
  have e : n - j = n - (j + 1) + 1 := by omega
  rw [e, List.replicate_succ, List.set_append_right _ _ (by simp; omega), List.take_succ_eq_append_getElem hl]
  rw [List.getElem?_eq_getElem hl] at h3
  injection h3 with h3
  simp [h3, Nat.min_eq_left (Nat.le_of_lt hl)]

set_option maxHeartbeats 1000000 in
theorem put_ok (P : Nat → Prop) (w : World) (hP : Anew w P) (A : Option Addr) (n c : Nat) (d : Dk) (ha : BL w P A n c d.areas) (hn : n ≤ 64)
   (D : Option Addr) (m dc : Nat) (hm : m ≤ 65536) (area : Nat) (h1 : area < n) (hoff : d.off = false) (hw0 : 0 ≤ d.wr) (hw1 : d.wr < 4611686018427387904)
   (f : Nat) (hf0 : f = 43 ∨ f = 43) (caps : Array Value) (F : List UInt8 → Nat → List UInt8)
   (hf : ∀ w1 (Q : Nat → Prop) A n c l k, l ∈ d.areas → Ext w w1 → BV w1 Q A n c l → k ≤ m → Calls Tryd.prog f (#[.slice A n c, .int .i64 (k : Nat)] ++ caps) w1 fun e w' =>
     ∃ S n' k', e = .returned (.slice S n' k') ∧ OB w' w1.heap.size 5 S n' k' (F l k) ∧ Ext w1 w') :
    Calls Tryd.prog 42 #[.agg #[.slice A n c, .int .i64 d.wr, .int .i64 d.ct, .int .i64 d.tn, .bool d.off], .int .i64 area, .slice D m dc, .func (.func f) #[] caps] w fun e w' =>
      ∃ A' c', e = .returned (.tuple #[.agg #[.slice A' n c', .int .i64 (d.wr + 1), .int .i64 d.ct, .int .i64 d.tn, .bool (cutsS d)], .int .i64 (putE d area m)]) ∧
        BL w' P A' n c' (putS F d area m).areas ∧ Ext w w' := by
  have hA := Lib.hid hoff
  have hbig : ¬ (65536 < m) := by omega
  cases hcut : cutsS d with
  | true =>
    have hc : ((d.wr + 1) == d.ct) = true := by simpa [cutsS] using hcut
    have HC := Lib.hid hcut
    clear hcut
    obtain ⟨k, hk⟩ : ∃ k : Nat, k = tornS d.tn m := ⟨_, rfl⟩
    have hkm : k ≤ m := by rw [hk]; unfold tornS; omega
    have hmm : iMin (iMax d.tn 0) (m : Int) = (k : Int) := by rw [hk]; unfold tornS iMin iMax; omega
    have HK := Lib.hid hk
    clear hk
    have HBR : Hid (bringS d m = k) := Lib.hid (by simp [bringS, HC.out, ← HK.out])
    go_enter Tryd.func42, Tryd.ntmps42
    go_wp2_with (first
      | (go_at_call 46; go_in)
      | (at_make
         refine wpList_forget (fun w1 => Blk w1 w.heap.size 28 #[.slice A n c, .int .i64 (d.wr + 1), .int .i64 d.ct, .int .i64 d.tn, .bool true] ∧ Blk w1 (w.heap.size + 1) 28 #[.slice none 0 0, .int .i64 0, .int .i64 0, .int .i64 0, .bool false] ∧ Ext w w1 ∧ w.heap.size + 2 ≤ w1.heap.size) ⟨((Blk.new' (by simp)).alloc _).alloc _, (Blk.new' (by simp)).alloc _, (((Ext.refl _).alloc _).alloc _).alloc _, by simp⟩ ?_
         rintro w1 ⟨hB1, hB2, hE1, hz1⟩
         refine wpList_mk rfl _ _ _ rfl _ _ _ _ infoBL Tryd.underlying22 _ _ n rfl rfl (by omega) (by omega) ?_
         intro g w2 hg1 hg2 hown hE2
         obtain ⟨c0, c1, c2, c3, c4⟩ := (hB1.ext hE2).c5))
    obtain ⟨vs, hvr, hve⟩ := ha
    have hvl : vs.length = n := by have := hvr.1; omega
    have HVL := Lib.hid hvl
    clear hvl
    have hmk : (madeCells (Value.slice none 0 0).cells (n * 1)).toList = List.replicate n (Value.slice none 0 0) := by rw [Nat.mul_one]; exact toList_madeCells_one _ _
    rw [hmk] at hown
    clear hmk
    go_loopw [52] (fun i wr => ∃ k : Nat, k ≤ n ∧ i = .int .i64 k ∧ wr.ownsRow w1.heap.size 23 1 (.slice (some ⟨g, 0, none⟩) n n) n (vs.take k ++ List.replicate (n - k) (Value.slice none 0 0)) ∧ Ext w1 wr) (fun i _ => n - (intOf i).toNat)
    case atStart => exact ⟨0, Nat.zero_le _, rfl, by simpa using hown, hE2⟩
    case round =>
      obtain ⟨j, hj, rfl, hown', hEr⟩ := hrel
      clear hown c0 c1 c2 c3 c4
      obtain ⟨c0, c1, c2, c3, c4⟩ := (hB1.ext hEr).c5
      by_cases hlt : j < n
      · obtain ⟨b, off, rfl, hb, hPb, hcell⟩ := hvr.2.2.2 (by omega)
        obtain ⟨Aj, nj, kj, hv, hbv⟩ := hve.2 j _ (List.getElem?_eq_getElem (show j < d.areas.length by have h2 := hve.1; have h3 := HVL.out; omega))
        have hcj := (World.cell?_of_block (w := w) (a := ⟨b, off + j, none⟩) ((hE1.trans hEr).below.block b hb)).trans (hcell j _ hv)
        have hst : wr.cell? ⟨g, j, none⟩ = some (Value.slice none 0 0) := (hown'.cellAt j (by omega)).trans (fill_at _ _ _ _ (by rw [HVL.out]; omega) hlt)
        have hfz := hown'.frozenAt j
        have HV := Lib.hid hv
        clear hv
        go_wp2
        go_roundw
        case rel =>
          refine ⟨j + 1, by omega, by go_num, ?_, hEr.setCell (by exact hg1) _⟩
          have h2 := (hown'.stored j (.slice Aj nj kj)).1
          rw [fill_set vs _ n j _ (by rw [HVL.out]; exact Nat.le_refl _) hlt HV.out] at h2
          exact h2
        case measure => simp [intOf]; omega
      · have hjn : j = n := by omega
        subst hjn
        obtain ⟨b, off, rfl, hb, hPb, hcell⟩ := hvr.2.2.2 (by omega)
        obtain ⟨Aj, nj, kj, hv, hbv⟩ := hve.2 area _ (List.getElem?_eq_getElem (show area < d.areas.length by have h2 := hve.1; have h3 := HVL.out; omega))
        have hcj := (World.cell?_of_block (w := w) (a := ⟨b, off + area, none⟩) ((hE1.trans hEr).below.block b hb)).trans (hcell area _ hv)
        have HV := Lib.hid hv
        clear hv
        have HF := Lib.hid (hf wr P Aj nj kj _ k (List.getElem_mem _) (hE1.trans hEr) (hbv.ext (hE1.trans hEr)) hkm)
        clear hf
        rcases hf0 with rfl | rfl
        all_goals
          go_wp2_with fail
          refine HF.out.mono ?_
          rintro e w3 ⟨S3, n3, k3, rfl, hO3, hE3⟩
          have hst : w3.cell? ⟨g, area, none⟩ = some (Value.slice Aj nj kj) := by
            refine (hE3.cells.1 g area ((hown'.lt g rfl).2)).trans ((hown'.cellAt area (by omega)).trans ?_)
            rw [Nat.sub_self, List.replicate_zero, List.append_nil, List.take_of_length_le (by rw [HVL.out]; exact Nat.le_refl _)]
            exact HV.out
          have hfz : w3.frozen? ⟨g, area, none⟩ = false := (hE3.cells.2 g area ((hown'.lt g rfl).2)).trans (hown'.frozenAt area)
          have HFIN := Lib.hid (Blk.ext (Blk.ext hB1 hEr) hE3)
          clear c0 c1 c2 c3 c4 hcj
          obtain ⟨c0, c1, c2, c3, c4⟩ := HFIN.out.c5
          have f0 := HFIN.out.free
          have HFIN2 := Lib.hid (Blk.ext (Blk.ext hB2 hEr) hE3)
          obtain ⟨d0, d1, d2, d3, d4⟩ := HFIN2.out.c5
          have g0 := HFIN2.out.free
          go_wp2
          refine bodyPost_ret (v := .tuple #[.agg #[.slice (some ⟨g, 0, none⟩) j j, .int .i64 (d.wr + 1), .int .i64 d.ct, .int .i64 d.tn, .bool true], .int .i64 29]) (by simp [results, Tryd.results42, go_sem, c0, c1, c2, c3, c4, d0, d1, d2, d3, d4]) rfl ?_
          have hlen : area < d.areas.length := by have h2 := hve.1; have h3 := HVL.out; omega
          have hgt := hown'.lt g rfl
          have hgl : g < wr.heap.size := hgt.2
          have hz3 : w1.heap.size ≤ wr.heap.size := hEr.size
          have hs4 := (own_ext hown' hE3).stored area (.slice S3 n3 k3)
          rw [Nat.sub_self, List.replicate_zero, List.append_nil, List.take_of_length_le (by rw [HVL.out]; exact Nat.le_refl _)] at hs4
          have hrow := own_stores [.slice (some ⟨g, 0, none⟩) j j, .int .i64 (d.wr + 1), .int .i64 d.ct, .int .i64 d.tn, .bool true] 0 _ (own_stores (g := w.heap.size) [.slice (some ⟨g, 0, none⟩) j j] 0 _ hs4.1 (by omega)) (g := w.heap.size + 1) (by omega)
          have hnew := own_stores [.slice (some ⟨g, 0, none⟩) j j, .int .i64 (d.wr + 1), .int .i64 d.ct, .int .i64 d.tn, .bool true] 0 _ (own_stores (g := w.heap.size) [.slice (some ⟨g, 0, none⟩) j j] 0 _ (ownsRow_setCell_below hO3 (a := ⟨g, area, none⟩) hgl (.slice S3 n3 k3)) (by omega)) (g := w.heap.size + 1) (by omega)
          have hEf := Ext.stores [.slice (some ⟨g, 0, none⟩) j j, .int .i64 (d.wr + 1), .int .i64 d.ct, .int .i64 d.tn, .bool true] 0 _ (Ext.stores (g := w.heap.size) [.slice (some ⟨g, 0, none⟩) j j] 0 _ (((hE1.trans hEr).trans hE3).setCell (p := ⟨g, area, none⟩) (by show w.heap.size ≤ g; omega) (.slice S3 n3 k3)) (by omega)) (g := w.heap.size + 1) (by omega)
          refine ⟨_, _, ?_, ⟨_, Row.of_own hrow (fun k hk => hP k (by omega)), ?_⟩, hEf⟩
          · rw [putE_in hA.out hlen hm, HC.out]; rfl
          · rw [putS_in hA.out hlen hm]
            simp only [HBR.out]
            exact (hve.fr hEf.fr).set (OB.bv hnew (fun k hk => hP k (by omega)))

  | false =>
    have hc : ((d.wr + 1) == d.ct) = false := by simpa [cutsS] using hcut
    have HC := Lib.hid hcut
    clear hcut
    have HBR : Hid (bringS d m = m) := Lib.hid (by simp [bringS, HC.out])
    have hkm : m ≤ m := Nat.le_refl _
    go_enter Tryd.func42, Tryd.ntmps42
    go_wp2_with (first
      | (go_at_call 46; go_in)
      | (at_make
         refine wpList_forget (fun w1 => Blk w1 w.heap.size 28 #[.slice A n c, .int .i64 (d.wr + 1), .int .i64 d.ct, .int .i64 d.tn, .bool false] ∧ Blk w1 (w.heap.size + 1) 28 #[.slice none 0 0, .int .i64 0, .int .i64 0, .int .i64 0, .bool false] ∧ Ext w w1 ∧ w.heap.size + 2 ≤ w1.heap.size) ⟨((Blk.new' (by simp)).alloc _).alloc _, (Blk.new' (by simp)).alloc _, (((Ext.refl _).alloc _).alloc _).alloc _, by simp⟩ ?_
         rintro w1 ⟨hB1, hB2, hE1, hz1⟩
         refine wpList_mk rfl _ _ _ rfl _ _ _ _ infoBL Tryd.underlying22 _ _ n rfl rfl (by omega) (by omega) ?_
         intro g w2 hg1 hg2 hown hE2
         obtain ⟨c0, c1, c2, c3, c4⟩ := (hB1.ext hE2).c5))
    obtain ⟨vs, hvr, hve⟩ := ha
    have hvl : vs.length = n := by have := hvr.1; omega
    have HVL := Lib.hid hvl
    clear hvl
    have hmk : (madeCells (Value.slice none 0 0).cells (n * 1)).toList = List.replicate n (Value.slice none 0 0) := by rw [Nat.mul_one]; exact toList_madeCells_one _ _
    rw [hmk] at hown
    clear hmk
    go_loopw [52] (fun i wr => ∃ k : Nat, k ≤ n ∧ i = .int .i64 k ∧ wr.ownsRow w1.heap.size 23 1 (.slice (some ⟨g, 0, none⟩) n n) n (vs.take k ++ List.replicate (n - k) (Value.slice none 0 0)) ∧ Ext w1 wr) (fun i _ => n - (intOf i).toNat)
    case atStart => exact ⟨0, Nat.zero_le _, rfl, by simpa using hown, hE2⟩
    case round =>
      obtain ⟨j, hj, rfl, hown', hEr⟩ := hrel
      clear hown c0 c1 c2 c3 c4
      obtain ⟨c0, c1, c2, c3, c4⟩ := (hB1.ext hEr).c5
      by_cases hlt : j < n
      · obtain ⟨b, off, rfl, hb, hPb, hcell⟩ := hvr.2.2.2 (by omega)
        obtain ⟨Aj, nj, kj, hv, hbv⟩ := hve.2 j _ (List.getElem?_eq_getElem (show j < d.areas.length by have h2 := hve.1; have h3 := HVL.out; omega))
        have hcj := (World.cell?_of_block (w := w) (a := ⟨b, off + j, none⟩) ((hE1.trans hEr).below.block b hb)).trans (hcell j _ hv)
        have hst : wr.cell? ⟨g, j, none⟩ = some (Value.slice none 0 0) := (hown'.cellAt j (by omega)).trans (fill_at _ _ _ _ (by rw [HVL.out]; omega) hlt)
        have hfz := hown'.frozenAt j
        have HV := Lib.hid hv
        clear hv
        go_wp2
        go_roundw
        case rel =>
          refine ⟨j + 1, by omega, by go_num, ?_, hEr.setCell (by exact hg1) _⟩
          have h2 := (hown'.stored j (.slice Aj nj kj)).1
          rw [fill_set vs _ n j _ (by rw [HVL.out]; exact Nat.le_refl _) hlt HV.out] at h2
          exact h2
        case measure => simp [intOf]; omega
      · have hjn : j = n := by omega
        subst hjn
        obtain ⟨b, off, rfl, hb, hPb, hcell⟩ := hvr.2.2.2 (by omega)
        obtain ⟨Aj, nj, kj, hv, hbv⟩ := hve.2 area _ (List.getElem?_eq_getElem (show area < d.areas.length by have h2 := hve.1; have h3 := HVL.out; omega))
        have hcj := (World.cell?_of_block (w := w) (a := ⟨b, off + area, none⟩) ((hE1.trans hEr).below.block b hb)).trans (hcell area _ hv)
        have HV := Lib.hid hv
        clear hv
        have HF := Lib.hid (hf wr P Aj nj kj _ m (List.getElem_mem _) (hE1.trans hEr) (hbv.ext (hE1.trans hEr)) hkm)
        clear hf
        rcases hf0 with rfl | rfl
        all_goals
          go_wp2_with fail
          refine HF.out.mono ?_
          rintro e w3 ⟨S3, n3, k3, rfl, hO3, hE3⟩
          have hst : w3.cell? ⟨g, area, none⟩ = some (Value.slice Aj nj kj) := by
            refine (hE3.cells.1 g area ((hown'.lt g rfl).2)).trans ((hown'.cellAt area (by omega)).trans ?_)
            rw [Nat.sub_self, List.replicate_zero, List.append_nil, List.take_of_length_le (by rw [HVL.out]; exact Nat.le_refl _)]
            exact HV.out
          have hfz : w3.frozen? ⟨g, area, none⟩ = false := (hE3.cells.2 g area ((hown'.lt g rfl).2)).trans (hown'.frozenAt area)
          have HFIN := Lib.hid (Blk.ext (Blk.ext hB1 hEr) hE3)
          clear c0 c1 c2 c3 c4 hcj
          obtain ⟨c0, c1, c2, c3, c4⟩ := HFIN.out.c5
          have f0 := HFIN.out.free
          have HFIN2 := Lib.hid (Blk.ext (Blk.ext hB2 hEr) hE3)
          obtain ⟨d0, d1, d2, d3, d4⟩ := HFIN2.out.c5
          have g0 := HFIN2.out.free
          go_wp2
          refine bodyPost_ret (v := .tuple #[.agg #[.slice (some ⟨g, 0, none⟩) j j, .int .i64 (d.wr + 1), .int .i64 d.ct, .int .i64 d.tn, .bool false], .int .i64 0]) (by simp [results, Tryd.results42, go_sem, c0, c1, c2, c3, c4, d0, d1, d2, d3, d4]) rfl ?_
          have hlen : area < d.areas.length := by have h2 := hve.1; have h3 := HVL.out; omega
          have hgt := hown'.lt g rfl
          have hgl : g < wr.heap.size := hgt.2
          have hz3 : w1.heap.size ≤ wr.heap.size := hEr.size
          have hs4 := (own_ext hown' hE3).stored area (.slice S3 n3 k3)
          rw [Nat.sub_self, List.replicate_zero, List.append_nil, List.take_of_length_le (by rw [HVL.out]; exact Nat.le_refl _)] at hs4
          have hrow := own_stores [.slice (some ⟨g, 0, none⟩) j j, .int .i64 (d.wr + 1), .int .i64 d.ct, .int .i64 d.tn, .bool false] 0 _ (own_stores (g := w.heap.size) [.slice (some ⟨g, 0, none⟩) j j] 0 _ hs4.1 (by omega)) (g := w.heap.size + 1) (by omega)
          have hnew := own_stores [.slice (some ⟨g, 0, none⟩) j j, .int .i64 (d.wr + 1), .int .i64 d.ct, .int .i64 d.tn, .bool false] 0 _ (own_stores (g := w.heap.size) [.slice (some ⟨g, 0, none⟩) j j] 0 _ (ownsRow_setCell_below hO3 (a := ⟨g, area, none⟩) hgl (.slice S3 n3 k3)) (by omega)) (g := w.heap.size + 1) (by omega)
          have hEf := Ext.stores [.slice (some ⟨g, 0, none⟩) j j, .int .i64 (d.wr + 1), .int .i64 d.ct, .int .i64 d.tn, .bool false] 0 _ (Ext.stores (g := w.heap.size) [.slice (some ⟨g, 0, none⟩) j j] 0 _ (((hE1.trans hEr).trans hE3).setCell (p := ⟨g, area, none⟩) (by show w.heap.size ≤ g; omega) (.slice S3 n3 k3)) (by omega)) (g := w.heap.size + 1) (by omega)
          refine ⟨_, _, ?_, ⟨_, Row.of_own hrow (fun k hk => hP k (by omega)), ?_⟩, hEf⟩
          · rw [putE_in hA.out hlen hm, HC.out]; rfl
          · rw [putS_in hA.out hlen hm]
            simp only [HBR.out]
            exact (hve.fr hEf.fr).set (OB.bv hnew (fun k hk => hP k (by omega)))

end Go.Proofs.YtbbeoojlgfegjaaDoor
