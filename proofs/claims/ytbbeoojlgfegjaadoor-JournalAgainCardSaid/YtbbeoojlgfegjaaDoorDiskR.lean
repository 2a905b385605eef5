/- The reference's disk: put, Write, Append. -/
import Derived.Test.YtbbeoojlgfegjaaDoorDiskW3
import Derived.Test.YtbbeoojlgfegjaaDoorLib2
import Derived.Deep.DeepCutAuto
namespace Go.Proofs.YtbbeoojlgfegjaaDoor
set_option linter.all false
open Go.RowKit
set_option linter.unusedVariables false
set_option linter.unusedSimpArgs false
attribute [local go_sem ↓ high] run_max_nm run_min_nm run_cut_l run_cut_h run_cut_lh

/-- What the reference puts in an area. -/
def contentR (add : Bool) (d : Dk) (old x : List UInt8) : List UInt8 := if add = true then append1S (bringS d x.length) old x else write1S (cutsS d) (bringS d x.length) old x

/-- The world inside the reference's put: the two boxes, the content of its own. -/
def PutW (w w5 : World) (A : Option Addr) (n c : Nat) (wr ct tn : Int) (o : Bool) (X : Option Addr) (j kx : Nat) (l : List UInt8) : Prop :=
  Blk w5 w.heap.size 28 #[.slice A n c, .int .i64 wr, .int .i64 ct, .int .i64 tn, .bool o] ∧ Blk w5 (w.heap.size + 1) 28 #[.slice none 0 0, .int .i64 0, .int .i64 0, .int .i64 0, .bool false] ∧
  OB w5 (w.heap.size + 2) 5 X j kx l ∧ Ext w w5 ∧ w.heap.size + 2 ≤ w5.heap.size
section
variable {w w5 w6 : World} {A : Option Addr} {n c : Nat} {wr ct tn : Int} {o : Bool} {X : Option Addr} {j kx : Nat} {l : List UInt8}
theorem PutW.set1 (h : PutW w w5 A n c wr ct tn o X j kx l) (wr' : Int) : PutW w (w5.setCell ⟨w.heap.size, 1, none⟩ (.int .i64 wr')) A n c wr' ct tn o X j kx l :=
  ⟨h.1.set_ 1 _, h.2.1.far (by show w.heap.size + 1 ≠ w.heap.size; omega) _, ownsRow_setCell_below h.2.2.1 (a := ⟨w.heap.size, 1, none⟩) (by show w.heap.size < w.heap.size + 2; omega) _, h.2.2.2.1.setCell (p := ⟨w.heap.size, 1, none⟩) (Nat.le_refl _) _, by simpa using h.2.2.2.2⟩
theorem PutW.set4 (h : PutW w w5 A n c wr ct tn o X j kx l) (o' : Bool) : PutW w (w5.setCell ⟨w.heap.size, 4, none⟩ (.bool o')) A n c wr ct tn o' X j kx l :=
  ⟨h.1.set_ 4 _, h.2.1.far (by show w.heap.size + 1 ≠ w.heap.size; omega) _, ownsRow_setCell_below h.2.2.1 (a := ⟨w.heap.size, 4, none⟩) (by show w.heap.size < w.heap.size + 2; omega) _, h.2.2.2.1.setCell (p := ⟨w.heap.size, 4, none⟩) (Nat.le_refl _) _, by simpa using h.2.2.2.2⟩
theorem PutW.app (h : PutW w w5 A n c wr ct tn o X j kx l) {X' : Option Addr} {j' kx' : Nat} {l' : List UInt8} (hO : OB w6 (w.heap.size + 2) 5 X' j' kx' l') (hB : Below (w.heap.size + 2) w5 w6) : PutW w w6 A n c wr ct tn o X' j' kx' l' :=
  ⟨h.1.below hB (by omega), h.2.1.below hB (by omega), hO, h.2.2.2.1.step hB (by omega), by have := hB.size; have := h.2.2.2.2; omega⟩
theorem PutW.ext3 (h : PutW w w5 A n c wr ct tn o X j kx l) (hE : Ext w5 w6) : PutW w w6 A n c wr ct tn o X j kx l := ⟨h.1.ext hE, h.2.1.ext hE, h.2.2.1.ext hE, h.2.2.2.1.trans hE, Nat.le_trans h.2.2.2.2 hE.size⟩
theorem PutW.take (h : PutW w w5 A n c wr ct tn o X j kx l) {k : Nat} (hk : k ≤ j) : PutW w w5 A n c wr ct tn o X k kx (l.take k) := ⟨h.1, h.2.1, h.2.2.1.take hk, h.2.2.2⟩
end
theorem own_some {w : World} {base e size n c : Nat} {A : Option Addr} {xs : List Value} (h : w.ownsRow base e size (.slice A n c) n xs) (hn : 0 < n) : ∃ g, A = some ⟨g, 0, none⟩ ∧ base ≤ g := by
  rcases h.2 with ⟨hv, h0⟩ | ⟨g, cap, cur, hv, hb, hg, hnc, hcm, hcs, ht⟩
  · omega
  · simp only [Value.slice.injEq] at hv
    exact ⟨g, hv.1, hb⟩


theorem putR_end {P : Nat → Prop} {w w5 w6 wf : World} {b off n n0 c g gc area j kx : Nat} {o : Bool} {X : Option Addr} {vs : List Value} {d : Dk} {m : Nat} {x l : List UInt8} {add : Bool} {e2 : Int}
   (hP : Anew w P) (hve : Each w P vs d.areas) (HP : PutW w w5 (some ⟨b, off, none⟩) n c (d.wr + 1) d.ct d.tn o X j kx l) (hOG : w6.ownsRow w5.heap.size 23 1 (.slice (some ⟨g, 0, none⟩) n0 gc) n0 ([] ++ vs)) (hn0 : n0 = n)
   (hB : Ext w5 w6) (hg : w5.heap.size ≤ g) (h1 : area < n) (hoff : d.off = false) (hm : m ≤ 65536) (ho : cutsS d = o) (he : e2 = if o = true then 29 else 0) (hl : l = contentR add d d.areas[area]! x)
   (hwf : wf = stores (stores (w6.setCell ⟨g, area, none⟩ (.slice X j kx)) w.heap.size 0 [.slice (some ⟨g, 0, none⟩) n0 gc]) (w.heap.size + 1) 0 [.slice (some ⟨g, 0, none⟩) n0 gc, .int .i64 (d.wr + 1), .int .i64 d.ct, .int .i64 d.tn, .bool o]) :
   ∃ A' c', Ending.returned (.tuple #[.agg #[.slice (some ⟨g, 0, none⟩) n0 gc, .int .i64 (d.wr + 1), .int .i64 d.ct, .int .i64 d.tn, .bool o], .int .i64 e2]) = .returned (.tuple #[.agg #[.slice A' n c', .int .i64 (d.wr + 1), .int .i64 d.ct, .int .i64 d.tn, .bool o], .int .i64 (putE d area m)]) ∧
        BL wf P A' n c' (d.areas.set area (contentR add d d.areas[area]! x)) ∧ Ext w wf := by
  subst hn0
  obtain ⟨hp1, hp2, hp3, hp4, hp5⟩ := HP
  have hz := hB.size
  have hvl : vs.length = n0 := by simpa using hOG.1
  have hal : area < d.areas.length := by have := hve.1; omega
  have hgl := (hOG.lt g rfl).2
  have hs4 := hOG.stored area (.slice X j kx)
  have hrow := own_stores [.slice (some ⟨g, 0, none⟩) n0 gc, .int .i64 (d.wr + 1), .int .i64 d.ct, .int .i64 d.tn, .bool o] 0 _ (own_stores (g := w.heap.size) [.slice (some ⟨g, 0, none⟩) n0 gc] 0 _ hs4.1 (by omega)) (g := w.heap.size + 1) (by omega)
  have hE6 : Ext w w6 := hp4.trans hB
  have hEf := Ext.stores [.slice (some ⟨g, 0, none⟩) n0 gc, .int .i64 (d.wr + 1), .int .i64 d.ct, .int .i64 d.tn, .bool o] 0 _ (Ext.stores (g := w.heap.size) [.slice (some ⟨g, 0, none⟩) n0 gc] 0 _ (hE6.setCell (p := ⟨g, area, none⟩) (by show w.heap.size ≤ g; omega) (.slice X j kx)) (by omega)) (g := w.heap.size + 1) (by omega)
  have hnew := ((OB.bv (P := fun k => w.heap.size + 2 ≤ k) hp3 (fun k hk => hk)).sep (hi := w6.heap.size)).ext hB
  have hfr : Fr (Sep (fun k => w.heap.size + 2 ≤ k) w5.heap.size w6.heap.size) w6 wf := by
    subst hwf
    refine Fr.stores _ _ _ (Fr.stores _ _ _ ((Fr.refl _ _).setCell (p := ⟨g, area, none⟩) (.inl (Sep.off hg hgl)) _) (.inl ?_)) (.inl ?_)
    · unfold Sep; omega
    · unfold Sep; omega
  subst hwf
  refine ⟨_, _, ?_, ⟨_, Row.of_own hrow (fun k hk => hP k (by omega)), ?_⟩, hEf⟩
  · rw [putE_in hoff hal hm, ho, he]
  · rw [← hl]
    refine (hve.fr hEf.fr).set ((hnew.fr hfr).mono fun k hk => hP k ?_)
    unfold Sep at hk; omega

set_option maxHeartbeats 2000000 in
theorem putR_ok (P : Nat → Prop) (w : World) (hP : Anew w P) (A : Option Addr) (n c : Nat) (d : Dk) (ha : BL w P A n c d.areas) (hn : n ≤ 64)
   (D : Option Addr) (m dc : Nat) (x : List UInt8) {PX : Nat → Prop} (hx : BV w PX D m dc x) (hm : m ≤ 65536) (area : Nat) (h1 : area < n) (hoff : d.off = false) (hw0 : 0 ≤ d.wr) (hw1 : d.wr < 4611686018427387904) (hs : ∀ l ∈ d.areas, l.length ≤ 35184372088832) (add : Bool) :
    Calls Tryd.prog 35 #[.agg #[.slice A n c, .int .i64 d.wr, .int .i64 d.ct, .int .i64 d.tn, .bool false], .int .i64 area, .slice D m dc, .bool add] w fun e w' =>
      ∃ A' c', e = .returned (.tuple #[.agg #[.slice A' n c', .int .i64 (d.wr + 1), .int .i64 d.ct, .int .i64 d.tn, .bool (cutsS d)], .int .i64 (putE d area m)]) ∧
        BL w' P A' n c' (d.areas.set area (contentR add d d.areas[area]! x)) ∧ Ext w w' := by
  have hA := Lib.hid hoff
  have hbig : ¬ (65536 < m) := by omega
  have hxl := Lib.hid hx.len
  obtain ⟨vs, hvr, hve⟩ := ha
  have hvl : vs.length = n := by have := hvr.1; omega
  have HVL := Lib.hid hvl
  have hal : area < d.areas.length := by have := hve.1; omega
  obtain ⟨b, off, rfl, hb, hPb, hcell⟩ := hvr.2.2.2 (by omega)
  obtain ⟨Aj, nj, kj, hv, hbv⟩ := hve.2 area _ (List.getElem?_eq_getElem hal)
  have hcj := hcell area _ hv
  have hnj : nj ≤ 35184372088832 := by have := hs _ (List.getElem_mem hal); have := hbv.len; omega
  have hbl := Lib.hid hbv.len
  have hge : Hid (d.areas[area]! = d.areas[area]) := Lib.hid (by simp [hal])
  have HV := Lib.hid hv
  clear hv hvl hoff
  cases hcut : cutsS d with
  | true =>
    have hc : ((d.wr + 1) == d.ct) = true := by simpa [cutsS] using hcut
    have HC := Lib.hid hcut
    clear hcut
    obtain ⟨k, hk⟩ : ∃ k : Nat, k = tornS d.tn m := ⟨_, rfl⟩
    have hkm : k ≤ m := by rw [hk]; unfold tornS; omega
    have hmm : iMax 0 (iMin d.tn (m : Int)) = (k : Int) := by rw [hk]; unfold tornS iMin iMax; omega
    have HK := Lib.hid hk
    clear hk
    have HBR : Hid (bringS d x.length = k) := Lib.hid (by simp [bringS, HC.out, ← HK.out, hxl.out])
    cases add with
    | false =>
      by_cases hkn : k < nj
      · go_enter Tryd.func35, Tryd.ntmps35
        go_wp2_with fail
        refine (copy_calls _ D m dc x (hx.ext (((Ext.refl w).alloc _).alloc _)) (by omega)).mono ?_
        rintro e w2 ⟨S, k2, rfl, hO, hE2⟩
        have HP0 : Hid (PutW w w2 (some ⟨b, off, none⟩) n c d.wr d.ct d.tn false S m k2 x) := Lib.hid ⟨((Blk.new' rfl).alloc _).ext hE2, (Blk.new' (by simp)).ext hE2, hO.mono (by simp), (((Ext.refl w).alloc _).alloc _).trans hE2, by have := hE2.size; simpa using this⟩
        have hkk2 : m ≤ k2 := hO.cap
        have hkj2 : nj ≤ kj := hbv.len_cap
        clear hO hE2
        obtain ⟨c0, c1, c2, c3, c4⟩ := HP0.out.1.c5
        have f0 := HP0.out.1.free
        have HP1 := Lib.hid (HP0.out.set1 (d.wr + 1))
        clear hcj
        have hbva := hbv.ext HP1.out.2.2.2.1
        have HP2 := Lib.hid (HP1.out.take hkm)
        have hz2 : w.heap.size + 2 ≤ w2.heap.size := HP0.out.2.2.2.2
        go_upto_region 19 with (at_builtin; refine wpList_appO rfl (.tmp 68) (.tmp 71) _ rfl _ infoB Tryd.underlying23 (w.heap.size + 2) S k k2 (x.take k) rfl HP2.out.2.2.1 (Aj.map fun a => a.add k) (nj - k) (kj - k) _ rfl (hbva.cutm hkn) (by omega) (by simpa using hz2) ?_; intro X kx w3 hO3 hBel; have HP3 := Lib.hid (HP2.out.app hO3 hBel); clear hO3 hBel c0 c1 c2 c3 c4 f0; obtain ⟨c0, c1, c2, c3, c4⟩ := HP3.out.1.c5; have f0 := HP3.out.1.free)
        refine wp_forget (fun w5 => PutW w w5 (some ⟨b, off, none⟩) n c (d.wr + 1) d.ct d.tn true X (k + (nj - k)) kx (x.take k ++ d.areas[area].drop k)) (HP3.out.set4 true) ?_
        intro w5 hp
        have HP := Lib.hid hp
        have hz5 : w.heap.size + 2 ≤ w5.heap.size := hp.2.2.2.2
        clear hp
        have HV5 := Lib.hid (hvr.ext HP.out.2.2.2.1)
        obtain ⟨c0, c1, c2, c3, c4⟩ := (HP.out.1.alloc (.cells #[] 23)).c5
        have f0 := HP.out.1.free
        obtain ⟨d0, d1, d2, d3, d4⟩ := HP.out.2.1.c5
        have g0 := HP.out.2.1.free
        go_wp2_with (at_builtin; go_loud (refine wpList_appG rfl (.tmp 79) (.tmp 81) _ rfl _ _ 1 24 infoBL Tryd.underlying22 rfl (by decide) w5.heap.size _ 0 _ [] rfl (World.ownsRow_lit w5 #[] 0 (Nat.le_refl _) (by simp [maxLen]) rfl) (some ⟨b, off, none⟩) n c vs rfl (HV5.out.ext ((Ext.refl _).alloc _)) hve.one (by omega) (by decide) (by simp) ?_); intro G gc w6 hOG hBG; obtain ⟨g, rfl, hg⟩ := own_some hOG (by omega); have hst : w6.cell? ⟨g, area, none⟩ = some (Value.slice Aj nj kj) := (hOG.cellAt area (by omega)).trans (by simpa using HV.out); have hfz := hOG.frozenAt area; have HB6 := Lib.hid (HP.out.1.below (((Below.alloc (Below.refl _ w5) (Nat.le_refl _) _)).trans hBG) (by omega)); have HD6 := Lib.hid (HP.out.2.1.below (((Below.alloc (Below.refl _ w5) (Nat.le_refl _) _)).trans hBG) (by omega)); clear c0 c1 c2 c3 c4 f0 d0 d1 d2 d3 d4 g0; obtain ⟨c0, c1, c2, c3, c4⟩ := HB6.out.c5; obtain ⟨d0, d1, d2, d3, d4⟩ := HD6.out.c5; have f0 := HB6.out.free; have g0 := HD6.out.free; have HOG := Lib.hid hOG; clear hOG)
        refine bodyPost_ret (v := .tuple #[.agg #[.slice (some ⟨g, 0, none⟩) (0 + n) gc, .int .i64 (d.wr + 1), .int .i64 d.ct, .int .i64 d.tn, .bool true], .int .i64 29]) (by simp [results, Tryd.results35, go_sem, c0, c1, c2, c3, c4, d0, d1, d2, d3, d4]) rfl ?_
        refine putR_end (add := false) hP hve HP.out HOG.out (by omega) (Ext.step ((Ext.refl w5).alloc _) hBG (Nat.le_refl _)) hg h1 hA.out hm HC.out (by rfl) ?_ ?_
        rotate_left
        · simp only [stores, Nat.zero_add]
        simp only [contentR, write1S, HC.out, HBR.out, hge.out, hbl.out]
        simp [hkn]
      · have hkn' : ¬ ((k : Int) < (nj : Int)) := by omega
        go_enter Tryd.func35, Tryd.ntmps35
        go_wp2_with fail
        refine (copy_calls _ D m dc x (hx.ext (((Ext.refl w).alloc _).alloc _)) (by omega)).mono ?_
        rintro e w2 ⟨S, k2, rfl, hO, hE2⟩
        have HP0 : Hid (PutW w w2 (some ⟨b, off, none⟩) n c d.wr d.ct d.tn false S m k2 x) := Lib.hid ⟨((Blk.new' rfl).alloc _).ext hE2, (Blk.new' (by simp)).ext hE2, hO.mono (by simp), (((Ext.refl w).alloc _).alloc _).trans hE2, by have := hE2.size; simpa using this⟩
        have hkk2 : m ≤ k2 := hO.cap
        have hkj2 : nj ≤ kj := hbv.len_cap
        clear hO hE2
        obtain ⟨c0, c1, c2, c3, c4⟩ := HP0.out.1.c5
        have f0 := HP0.out.1.free
        have HP1 := Lib.hid (HP0.out.set1 (d.wr + 1))
        clear hcj
        have HP2 := Lib.hid (HP1.out.take hkm)
        go_upto_region 19 with fail
        refine wp_forget (fun w5 => PutW w w5 (some ⟨b, off, none⟩) n c (d.wr + 1) d.ct d.tn true S (k) k2 (x.take k)) (HP2.out.set4 true) ?_
        intro w5 hp
        have HP := Lib.hid hp
        have hz5 : w.heap.size + 2 ≤ w5.heap.size := hp.2.2.2.2
        clear hp
        have HV5 := Lib.hid (hvr.ext HP.out.2.2.2.1)
        obtain ⟨c0, c1, c2, c3, c4⟩ := (HP.out.1.alloc (.cells #[] 23)).c5
        have f0 := HP.out.1.free
        obtain ⟨d0, d1, d2, d3, d4⟩ := HP.out.2.1.c5
        have g0 := HP.out.2.1.free
        go_wp2_with (at_builtin; go_loud (refine wpList_appG rfl (.tmp 79) (.tmp 81) _ rfl _ _ 1 24 infoBL Tryd.underlying22 rfl (by decide) w5.heap.size _ 0 _ [] rfl (World.ownsRow_lit w5 #[] 0 (Nat.le_refl _) (by simp [maxLen]) rfl) (some ⟨b, off, none⟩) n c vs rfl (HV5.out.ext ((Ext.refl _).alloc _)) hve.one (by omega) (by decide) (by simp) ?_); intro G gc w6 hOG hBG; obtain ⟨g, rfl, hg⟩ := own_some hOG (by omega); have hst : w6.cell? ⟨g, area, none⟩ = some (Value.slice Aj nj kj) := (hOG.cellAt area (by omega)).trans (by simpa using HV.out); have hfz := hOG.frozenAt area; have HB6 := Lib.hid (HP.out.1.below (((Below.alloc (Below.refl _ w5) (Nat.le_refl _) _)).trans hBG) (by omega)); have HD6 := Lib.hid (HP.out.2.1.below (((Below.alloc (Below.refl _ w5) (Nat.le_refl _) _)).trans hBG) (by omega)); clear c0 c1 c2 c3 c4 f0 d0 d1 d2 d3 d4 g0; obtain ⟨c0, c1, c2, c3, c4⟩ := HB6.out.c5; obtain ⟨d0, d1, d2, d3, d4⟩ := HD6.out.c5; have f0 := HB6.out.free; have g0 := HD6.out.free; have HOG := Lib.hid hOG; clear hOG)
        refine bodyPost_ret (v := .tuple #[.agg #[.slice (some ⟨g, 0, none⟩) (0 + n) gc, .int .i64 (d.wr + 1), .int .i64 d.ct, .int .i64 d.tn, .bool true], .int .i64 29]) (by simp [results, Tryd.results35, go_sem, c0, c1, c2, c3, c4, d0, d1, d2, d3, d4]) rfl ?_
        refine putR_end (add := false) hP hve HP.out HOG.out (by omega) (Ext.step ((Ext.refl w5).alloc _) hBG (Nat.le_refl _)) hg h1 hA.out hm HC.out (by rfl) ?_ ?_
        rotate_left
        · simp only [stores, Nat.zero_add]
        simp only [contentR, write1S, HC.out, HBR.out, hge.out, hbl.out]
        simp [hkn]
    | true =>
      go_enter Tryd.func35, Tryd.ntmps35
      go_wp2_with fail
      refine (copy_calls _ D m dc x (hx.ext (((Ext.refl w).alloc _).alloc _)) (by omega)).mono ?_
      rintro e w2 ⟨S, k2, rfl, hO, hE2⟩
      have HP0 : Hid (PutW w w2 (some ⟨b, off, none⟩) n c d.wr d.ct d.tn false S m k2 x) := Lib.hid ⟨((Blk.new' rfl).alloc _).ext hE2, (Blk.new' (by simp)).ext hE2, hO.mono (by simp), (((Ext.refl w).alloc _).alloc _).trans hE2, by have := hE2.size; simpa using this⟩
      have hkk2 : m ≤ k2 := hO.cap
      have hkj2 : nj ≤ kj := hbv.len_cap
      clear hO hE2
      obtain ⟨c0, c1, c2, c3, c4⟩ := HP0.out.1.c5
      have f0 := HP0.out.1.free
      have HP1 := Lib.hid (HP0.out.set1 (d.wr + 1))
      clear hcj
      have HP2 := Lib.hid ((HP1.out.take hkm).set4 true)
      have hbva := hbv.ext HP2.out.2.2.2.1
      have hz2 : w.heap.size + 2 ≤ w2.heap.size := HP0.out.2.2.2.2
      go_upto_region 19 with (first | (go_at_call 17; go_loud (refine (copy_calls _ Aj nj kj d.areas[area] hbva (by omega)).mono ?_; rintro e w3 ⟨S3, k3, rfl, hO3, hE3⟩; have HPB := Lib.hid (HP2.out.ext3 hE3); have HO3 := Lib.hid (hO3.mono (base' := w.heap.size + 2) (by simpa using hz2)); clear hO3 c0 c1 c2 c3 c4 f0; obtain ⟨c0, c1, c2, c3, c4⟩ := HPB.out.1.c5; have f0 := HPB.out.1.free)) | (at_builtin; go_loud (refine wpList_appO rfl (.tmp 76) (.tmp 77) _ rfl _ infoB Tryd.underlying23 (w.heap.size + 2) S3 nj k3 _ rfl HO3.out S k k2 _ rfl (OB.bv (P := fun _ => True) HPB.out.2.2.1 (fun _ _ => trivial)) (by omega) HPB.out.2.2.2.2 ?_; intro X kx w4 hO4 hBel; have HP3 := Lib.hid (HPB.out.app hO4 hBel); clear hO4 hBel c0 c1 c2 c3 c4 f0; obtain ⟨c0, c1, c2, c3, c4⟩ := HP3.out.1.c5; have f0 := HP3.out.1.free)))
      refine wp_forget (fun w5 => PutW w w5 (some ⟨b, off, none⟩) n c (d.wr + 1) d.ct d.tn true X (nj + k) kx (d.areas[area] ++ x.take k)) HP3.out ?_
      intro w5 hp
      have HP := Lib.hid hp
      have hz5 : w.heap.size + 2 ≤ w5.heap.size := hp.2.2.2.2
      clear hp
      have HV5 := Lib.hid (hvr.ext HP.out.2.2.2.1)
      obtain ⟨c0, c1, c2, c3, c4⟩ := (HP.out.1.alloc (.cells #[] 23)).c5
      have f0 := HP.out.1.free
      obtain ⟨d0, d1, d2, d3, d4⟩ := HP.out.2.1.c5
      have g0 := HP.out.2.1.free
      go_wp2_with (at_builtin; go_loud (refine wpList_appG rfl (.tmp 79) (.tmp 81) _ rfl _ _ 1 24 infoBL Tryd.underlying22 rfl (by decide) w5.heap.size _ 0 _ [] rfl (World.ownsRow_lit w5 #[] 0 (Nat.le_refl _) (by simp [maxLen]) rfl) (some ⟨b, off, none⟩) n c vs rfl (HV5.out.ext ((Ext.refl _).alloc _)) hve.one (by omega) (by decide) (by simp) ?_); intro G gc w6 hOG hBG; obtain ⟨g, rfl, hg⟩ := own_some hOG (by omega); have hst : w6.cell? ⟨g, area, none⟩ = some (Value.slice Aj nj kj) := (hOG.cellAt area (by omega)).trans (by simpa using HV.out); have hfz := hOG.frozenAt area; have HB6 := Lib.hid (HP.out.1.below (((Below.alloc (Below.refl _ w5) (Nat.le_refl _) _)).trans hBG) (by omega)); have HD6 := Lib.hid (HP.out.2.1.below (((Below.alloc (Below.refl _ w5) (Nat.le_refl _) _)).trans hBG) (by omega)); clear c0 c1 c2 c3 c4 f0 d0 d1 d2 d3 d4 g0; obtain ⟨c0, c1, c2, c3, c4⟩ := HB6.out.c5; obtain ⟨d0, d1, d2, d3, d4⟩ := HD6.out.c5; have f0 := HB6.out.free; have g0 := HD6.out.free; have HOG := Lib.hid hOG; clear hOG)
      refine bodyPost_ret (v := .tuple #[.agg #[.slice (some ⟨g, 0, none⟩) (0 + n) gc, .int .i64 (d.wr + 1), .int .i64 d.ct, .int .i64 d.tn, .bool true], .int .i64 29]) (by simp [results, Tryd.results35, go_sem, c0, c1, c2, c3, c4, d0, d1, d2, d3, d4]) rfl ?_
      refine putR_end (add := true) hP hve HP.out HOG.out (by omega) (Ext.step ((Ext.refl w5).alloc _) hBG (Nat.le_refl _)) hg h1 hA.out hm HC.out (by rfl) ?_ ?_
      rotate_left
      · simp only [stores, Nat.zero_add]
      simp only [contentR, append1S, HC.out, HBR.out, hge.out, hbl.out]
      simp
  | false =>
    have hc : ((d.wr + 1) == d.ct) = false := by simpa [cutsS] using hcut
    have HC := Lib.hid hcut
    clear hcut
    have HBR : Hid (bringS d x.length = m) := Lib.hid (by simp [bringS, HC.out, hxl.out])
    have hxt : Hid (x.take m = x) := Lib.hid (by rw [← hxl.out]; exact List.take_length)
    cases add with
    | false =>
      go_enter Tryd.func35, Tryd.ntmps35
      go_wp2_with fail
      refine (copy_calls _ D m dc x (hx.ext (((Ext.refl w).alloc _).alloc _)) (by omega)).mono ?_
      rintro e w2 ⟨S, k2, rfl, hO, hE2⟩
      have HP0 : Hid (PutW w w2 (some ⟨b, off, none⟩) n c d.wr d.ct d.tn false S m k2 x) := Lib.hid ⟨((Blk.new' rfl).alloc _).ext hE2, (Blk.new' (by simp)).ext hE2, hO.mono (by simp), (((Ext.refl w).alloc _).alloc _).trans hE2, by have := hE2.size; simpa using this⟩
      have hkk2 : m ≤ k2 := hO.cap
      have hkj2 : nj ≤ kj := hbv.len_cap
      clear hO hE2
      obtain ⟨c0, c1, c2, c3, c4⟩ := HP0.out.1.c5
      have f0 := HP0.out.1.free
      have HP1 := Lib.hid (HP0.out.set1 (d.wr + 1))
      clear hcj
      go_upto_region 19 with fail
      refine wp_forget (fun w5 => PutW w w5 (some ⟨b, off, none⟩) n c (d.wr + 1) d.ct d.tn false S (m) k2 (x)) HP1.out ?_
      intro w5 hp
      have HP := Lib.hid hp
      have hz5 : w.heap.size + 2 ≤ w5.heap.size := hp.2.2.2.2
      clear hp
      have HV5 := Lib.hid (hvr.ext HP.out.2.2.2.1)
      obtain ⟨c0, c1, c2, c3, c4⟩ := (HP.out.1.alloc (.cells #[] 23)).c5
      have f0 := HP.out.1.free
      obtain ⟨d0, d1, d2, d3, d4⟩ := HP.out.2.1.c5
      have g0 := HP.out.2.1.free
      go_wp2_with (at_builtin; go_loud (refine wpList_appG rfl (.tmp 79) (.tmp 81) _ rfl _ _ 1 24 infoBL Tryd.underlying22 rfl (by decide) w5.heap.size _ 0 _ [] rfl (World.ownsRow_lit w5 #[] 0 (Nat.le_refl _) (by simp [maxLen]) rfl) (some ⟨b, off, none⟩) n c vs rfl (HV5.out.ext ((Ext.refl _).alloc _)) hve.one (by omega) (by decide) (by simp) ?_); intro G gc w6 hOG hBG; obtain ⟨g, rfl, hg⟩ := own_some hOG (by omega); have hst : w6.cell? ⟨g, area, none⟩ = some (Value.slice Aj nj kj) := (hOG.cellAt area (by omega)).trans (by simpa using HV.out); have hfz := hOG.frozenAt area; have HB6 := Lib.hid (HP.out.1.below (((Below.alloc (Below.refl _ w5) (Nat.le_refl _) _)).trans hBG) (by omega)); have HD6 := Lib.hid (HP.out.2.1.below (((Below.alloc (Below.refl _ w5) (Nat.le_refl _) _)).trans hBG) (by omega)); clear c0 c1 c2 c3 c4 f0 d0 d1 d2 d3 d4 g0; obtain ⟨c0, c1, c2, c3, c4⟩ := HB6.out.c5; obtain ⟨d0, d1, d2, d3, d4⟩ := HD6.out.c5; have f0 := HB6.out.free; have g0 := HD6.out.free; have HOG := Lib.hid hOG; clear hOG)
      refine bodyPost_ret (v := .tuple #[.agg #[.slice (some ⟨g, 0, none⟩) (0 + n) gc, .int .i64 (d.wr + 1), .int .i64 d.ct, .int .i64 d.tn, .bool false], .int .i64 0]) (by simp [results, Tryd.results35, go_sem, c0, c1, c2, c3, c4, d0, d1, d2, d3, d4]) rfl ?_
      refine putR_end (add := false) hP hve HP.out HOG.out (by omega) (Ext.step ((Ext.refl w5).alloc _) hBG (Nat.le_refl _)) hg h1 hA.out hm HC.out (by rfl) ?_ ?_
      rotate_left
      · simp only [stores, Nat.zero_add]
      simp only [contentR, write1S, HC.out, HBR.out, hge.out, hbl.out]
      simp [hxt.out]
    | true =>
      go_enter Tryd.func35, Tryd.ntmps35
      go_wp2_with fail
      refine (copy_calls _ D m dc x (hx.ext (((Ext.refl w).alloc _).alloc _)) (by omega)).mono ?_
      rintro e w2 ⟨S, k2, rfl, hO, hE2⟩
      have HP0 : Hid (PutW w w2 (some ⟨b, off, none⟩) n c d.wr d.ct d.tn false S m k2 x) := Lib.hid ⟨((Blk.new' rfl).alloc _).ext hE2, (Blk.new' (by simp)).ext hE2, hO.mono (by simp), (((Ext.refl w).alloc _).alloc _).trans hE2, by have := hE2.size; simpa using this⟩
      have hkk2 : m ≤ k2 := hO.cap
      have hkj2 : nj ≤ kj := hbv.len_cap
      clear hO hE2
      obtain ⟨c0, c1, c2, c3, c4⟩ := HP0.out.1.c5
      have f0 := HP0.out.1.free
      have HP1 := Lib.hid (HP0.out.set1 (d.wr + 1))
      clear hcj
      have hbva := hbv.ext HP1.out.2.2.2.1
      have HP2 := Lib.hid (HP1.out)
      have hz2 : w.heap.size + 2 ≤ w2.heap.size := HP0.out.2.2.2.2
      go_upto_region 19 with (first | (go_at_call 17; go_loud (refine (copy_calls _ Aj nj kj d.areas[area] hbva (by omega)).mono ?_; rintro e w3 ⟨S3, k3, rfl, hO3, hE3⟩; have HPB := Lib.hid (HP2.out.ext3 hE3); have HO3 := Lib.hid (hO3.mono (base' := w.heap.size + 2) (by simpa using hz2)); clear hO3 c0 c1 c2 c3 c4 f0; obtain ⟨c0, c1, c2, c3, c4⟩ := HPB.out.1.c5; have f0 := HPB.out.1.free)) | (at_builtin; go_loud (refine wpList_appO rfl (.tmp 76) (.tmp 77) _ rfl _ infoB Tryd.underlying23 (w.heap.size + 2) S3 nj k3 _ rfl HO3.out S m k2 _ rfl (OB.bv (P := fun _ => True) HPB.out.2.2.1 (fun _ _ => trivial)) (by omega) HPB.out.2.2.2.2 ?_; intro X kx w4 hO4 hBel; have HP3 := Lib.hid (HPB.out.app hO4 hBel); clear hO4 hBel c0 c1 c2 c3 c4 f0; obtain ⟨c0, c1, c2, c3, c4⟩ := HP3.out.1.c5; have f0 := HP3.out.1.free)))
      refine wp_forget (fun w5 => PutW w w5 (some ⟨b, off, none⟩) n c (d.wr + 1) d.ct d.tn false X (nj + m) kx (d.areas[area] ++ x)) HP3.out ?_
      intro w5 hp
      have HP := Lib.hid hp
      have hz5 : w.heap.size + 2 ≤ w5.heap.size := hp.2.2.2.2
      clear hp
      have HV5 := Lib.hid (hvr.ext HP.out.2.2.2.1)
      obtain ⟨c0, c1, c2, c3, c4⟩ := (HP.out.1.alloc (.cells #[] 23)).c5
      have f0 := HP.out.1.free
      obtain ⟨d0, d1, d2, d3, d4⟩ := HP.out.2.1.c5
      have g0 := HP.out.2.1.free
      go_wp2_with (at_builtin; go_loud (refine wpList_appG rfl (.tmp 79) (.tmp 81) _ rfl _ _ 1 24 infoBL Tryd.underlying22 rfl (by decide) w5.heap.size _ 0 _ [] rfl (World.ownsRow_lit w5 #[] 0 (Nat.le_refl _) (by simp [maxLen]) rfl) (some ⟨b, off, none⟩) n c vs rfl (HV5.out.ext ((Ext.refl _).alloc _)) hve.one (by omega) (by decide) (by simp) ?_); intro G gc w6 hOG hBG; obtain ⟨g, rfl, hg⟩ := own_some hOG (by omega); have hst : w6.cell? ⟨g, area, none⟩ = some (Value.slice Aj nj kj) := (hOG.cellAt area (by omega)).trans (by simpa using HV.out); have hfz := hOG.frozenAt area; have HB6 := Lib.hid (HP.out.1.below (((Below.alloc (Below.refl _ w5) (Nat.le_refl _) _)).trans hBG) (by omega)); have HD6 := Lib.hid (HP.out.2.1.below (((Below.alloc (Below.refl _ w5) (Nat.le_refl _) _)).trans hBG) (by omega)); clear c0 c1 c2 c3 c4 f0 d0 d1 d2 d3 d4 g0; obtain ⟨c0, c1, c2, c3, c4⟩ := HB6.out.c5; obtain ⟨d0, d1, d2, d3, d4⟩ := HD6.out.c5; have f0 := HB6.out.free; have g0 := HD6.out.free; have HOG := Lib.hid hOG; clear hOG)
      refine bodyPost_ret (v := .tuple #[.agg #[.slice (some ⟨g, 0, none⟩) (0 + n) gc, .int .i64 (d.wr + 1), .int .i64 d.ct, .int .i64 d.tn, .bool false], .int .i64 0]) (by simp [results, Tryd.results35, go_sem, c0, c1, c2, c3, c4, d0, d1, d2, d3, d4]) rfl ?_
      refine putR_end (add := true) hP hve HP.out HOG.out (by omega) (Ext.step ((Ext.refl w5).alloc _) hBG (Nat.le_refl _)) hg h1 hA.out hm HC.out (by rfl) ?_ ?_
      rotate_left
      · simp only [stores, Nat.zero_add]
      simp only [contentR, append1S, HC.out, HBR.out, hge.out, hbl.out]
      simp [hxt.out]
end Go.Proofs.YtbbeoojlgfegjaaDoor
