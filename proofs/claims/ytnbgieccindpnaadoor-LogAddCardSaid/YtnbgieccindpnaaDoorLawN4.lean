/- LogAdd: the walk. -/
import Derived.Test.YtnbgieccindpnaaDoorLogP
namespace Go.Proofs.YtnbgieccindpnaaDoor
set_option linter.all false
set_option maxRecDepth 20000
open Go.RowKit
theorem fold_setO : ∀ (vs : List Value) (k o : Nat) (cells : Array Value), o + k + vs.length ≤ cells.size →
    (vs.zipIdx k).foldl (fun (cs : Array Value) (q : Value × Nat) => cs.setIfInBounds (o + q.2) q.1) cells = (cells.toList.take (o + k) ++ vs ++ cells.toList.drop (o + k + vs.length)).toArray
  | [], k, o, cells, h => by
    apply Array.ext'
    simp
  | v :: r, k, o, cells, h => by
    rw [List.length_cons] at h
    rw [List.zipIdx_cons, List.foldl_cons, fold_setO r (k + 1) o _ (by simp; omega)]
    apply Array.ext'
    have hk : o + k < cells.toList.length := by simp; omega
    simp only [Array.toList_setIfInBounds]
    rw [← Nat.add_assoc, List.take_add_one, List.take_set_of_le (Nat.le_refl _), List.drop_set, if_pos (by omega), List.length_cons]
    have e3 : o + k + (r.length + 1) = o + k + 1 + r.length := by omega
    simp only [List.getElem?_set_self hk, Option.toList_some, List.append_assoc, List.singleton_append, List.cons_append, List.nil_append, e3]
theorem fill_two {cs1 cs2 cells : Array Value} (h1 : cs1.size = 4) (h2 : cs2.size = 4) (hs : cells.size = 8) : Instr.fill (fun i => some (i * 4, 4)) cells [(0, .agg cs1), (1, .agg cs2)] = some (cs1.toList ++ cs2.toList).toArray := by
  have hc : ∀ q : Array Value, (Value.agg q).cells = q := fun _ => rfl
  unfold Instr.fill
  simp only [Nat.zero_mul, hc, h1, hs]
  rw [if_neg (by simp), ← Array.foldl_toList, Array.toList_zipIdx]
  generalize hq : List.foldl _ cells _ = q1
  have hA := hq.symm.trans (fold_setO cs1.toList 0 0 cells (by simp [h1, hs]))
  have hl1 : cs1.toList.length = 4 := by simpa using h1
  have hl2 : cs2.toList.length = 4 := by simpa using h2
  have hq1 : q1.size = 8 := by rw [hA]; simp [h1, hs]
  unfold Instr.fill
  simp only [Nat.one_mul, hc, h2, hq1]
  rw [if_neg (by simp), ← Array.foldl_toList, Array.toList_zipIdx]
  generalize hq2 : List.foldl _ q1 _ = q2
  have hB := hq2.symm.trans (fold_setO cs2.toList 0 4 q1 (by simp [h2, hq1]))
  unfold Instr.fill
  rw [hB, hA]
  congr 2
  simp only [List.take_zero, List.nil_append, Nat.zero_add, Nat.add_zero, hl1, hl2]
  rw [List.take_left' hl1, List.drop_eq_nil_of_le (by simp [hl1, hs]), List.append_nil]
/-- a slice literal of two events -/
theorem Does.lit2E {P : Program} {n : Nat} {e : Env} {w : World} {o : Oper} {x y : Operand} {t el : TypeId} {zv a b c d a' b' c' d' : Value} (ho : o.op = .buildSlice t 2 #[(0, x), (1, y)]) (ht : P.underlying t = some (.slice el)) (hinf : (P.info? el).map (fun i => (i.zero, i.size)) = some (some zv, 4)) (hzv : zv.cells.size = 4) (hx : ev e x = some (.agg #[a, b, c, d])) (hy : ev e y = some (.agg #[a', b', c', d'])) :
    Does P n o e w (fun v w' => ∃ g, v = .slice (some ⟨g, 0, none⟩) 2 2 ∧ w.heap.size ≤ g ∧ Blk w' g el #[a, b, c, d, a', b', c', d'] ∧ Ext w w') := by
  intro q ha ops Q rest hw hK
  refine BigFrame.wpList_want hw fun K hk => ?_
  cases hie : P.info? el with
  | none => simp [hie] at hinf
  | some f =>
    have hf : f.zero = some zv ∧ f.size = 4 := by simpa [hie] using hinf
    have hzero : ∀ w, (zeroValue el).run P w = .ok zv w := fun w => by simp [zeroValue, typeInfo, hie, hf.1, go_sem]
    have hs : ∀ w, (sizeOf el).run P w = .ok 4 w := fun w => by simp [sizeOf, typeInfo, hie, hf.2]
    have hrun : (execOp q.eval o).run P w = .ok (.value (.slice (some ⟨w.heap.size, 0, none⟩) 2 2)) (w.alloc (.cells #[a, b, c, d, a', b', c', d'] el)) := by
      unfold execOp
      simp only [ho, Instr.buildSlice, Sem.run_bind, run_underlying ht, Result.andThen_ok, hs]
      rw [if_neg (by omega)]
      rw [if_neg (by omega)]
      simp only [Sem.run_pure, Sem.run_bind, Result.andThen_ok, hzero, List.map_toArray, List.map_cons, List.map_nil, ha.ev hx, ha.ev hy]
      rw [fill_two rfl rfl (by simp)]
      simp [newRow, go_sem]
    unfold Oper.wp
    rw [hrun]
    exact hk _ _ (hK _ _ ⟨_, rfl, Nat.le_refl _, Blk.new _ _ _, (Ext.refl _).alloc _⟩)
theorem two_evs {w : World} {g : Nat} {x y : Ev} {r s : ERow} {P : Nat → Prop} (h : Blk w g 34 (evtC x r ++ evtC y s).toArray) (h1 : EvtV w P x r) (h2 : EvtV w P y s) (hg : P g) : SL Rp.evt w P (some ⟨g, 0, none⟩) 2 2 [x, y] :=
  ⟨evtC x r ++ evtC y s, ⟨rfl, Nat.le_refl _, by simp [maxLen], fun _ => ⟨g, 0, rfl, h.lt, hg, fun i v hv => by rw [Nat.zero_add]; exact (h.cell i).trans (by simpa using hv)⟩⟩, (EachR.single (evt_rep h1)).app (EachR.single (evt_rep h2))⟩
set_option maxRecDepth 20000 in
set_option maxHeartbeats 4000000 in
theorem logAdd_walk {P P1 P2 P3 P4 : Nat → Prop} (w : World) (hT : Tab w) (rg kd : Int) (D : Option Addr) (dn dc : Nat) (ds : List (List UInt8)) (S : Option Addr) (m d : Nat) (pay : List UInt8) (hd : BL w P D dn dc ds) (hp : BV w P S m d pay) (A : Option Addr) (n c : Nat) (codes : List UInt8) (ha : BV w P1 A n c codes) (A1 : Option Addr) (n1 c1 : Nat) (more : List UInt8) (ha1 : BV w P2 A1 n1 c1 more) (active rs : Int) (B : Option Addr) (bn bc : Nat) (zs : List Int) (hb : Row w P3 1 B bn bc (zs.map fun z => .int .i64 z)) (C : Option Addr) (cn cc : Nat) (ys : List UInt8) (hc : BV w P4 C cn cc ys) (cut : Int) :
    Calls Tryd.prog 6 #[.agg #[.int .i64 rg, .int .i64 kd, .slice D dn dc, .slice S m d], .slice A n c, .slice A1 n1 c1, .int .i64 active, .int .i64 rs, .slice B bn bc, .slice C cn cc, .int .i64 cut] w fun e w' => e = .returned (.bool true) ∧ Ext w w' := by
  have ha0 := Int.emod_nonneg active (show (3 : Int) ≠ 0 by decide)
  have ha3 := Int.emod_lt_of_pos active (show (0 : Int) < 3 by decide)
  have hTl := hT.lt
  have hdle := hd.le
  have hple := hp.le
  refine calls_enter Tryd.func6 rfl Tryd.ntmps6 rfl ?_
  have hE : Ext w w := Ext.refl w
  refine vs fun K1 hK1 => vR [(0, _), (1, _), (2, _), (3, _), (4, _), (5, _), (6, _), (7, _)] ?_
  refine Wl.does rfl rfl rfl (Does.boxA rfl rfl) ?_
  rintro _ w0_0 ⟨b8, rfl, hs8, hb8, hx0_0⟩
  have hg8 : w.heap.size ≤ b8 := Nat.le_trans hE.size hs8
  replace hE := hE.trans hx0_0
  refine vA ?_
  refine vn (hK1 _ _ ?_)
  refine Wc.seq (fun K2 hK2 => ?_)
  refine vs fun K3 hK3 => vR [(1, _), (2, _), (3, _), (4, _), (5, _), (6, _), (7, _), (8, _)] ?_
  refine Wl.call rfl rfl rfl rfl Tryd.func10 rfl (by kernel_rfl) rfl (awakeL _ (hT.ext hE)) ?_
  rintro x0 w0 ⟨rfl, hx0⟩
  refine ⟨_, rfl, ?_⟩
  replace hb8 := hb8.ext hx0
  replace hE := hE.trans hx0
  refine vl (Gives.not rfl rfl) ?_
  refine vn (hK3 _ _ ?_)
  refine Wc.condF rfl rfl ?_
  refine Wc.skip ?_
  refine Wx.thenN (hK2 _ _ ?_)
  refine Wc.joinC (ι := Nat × List (List UInt8)) [(1, _), (2, _), (3, _), (4, _), (5, _), (6, _), (7, _), (8, _)] (fun _ => []) (fun (dn', ds') wr => BL w P D dn' dc ds' ∧ Blk wr b8 34 #[.int .i64 rg, .int .i64 kd, .slice D dn' dc, .slice S m d] ∧ Ext w wr) ?_ ?_ (.cons rfl (.cons rfl (.cons rfl (.cons rfl (.cons rfl (.cons rfl (.cons rfl (.cons rfl (.nil)))))))))
  · intro K4 hJ4
    refine vs fun K5 hK5 => vR [(1, _), (2, _), (3, _), (4, _), (5, _), (6, _), (7, _), (8, _)] ?_
    refine vF 2 Tryd.underlying34 ?_
    refine vL hb8 ?_
    refine vl (Gives.lenS rfl Tryd.underlying32 rfl) ?_
    refine vl (Gives.gtr rfl rfl rfl) ?_
    refine vn (hK5 _ _ ?_)
    refine Wc.cond _ rfl (fun h30 => ?_) (fun h30 => ?_)
    · first | replace h30 := dT h30 | replace h30 := nT h30 | skip
      refine vR [(1, _), (2, _), (3, _), (4, _), (5, _), (6, _), (7, _), (8, _)] ?_
      refine vF 2 Tryd.underlying34 ?_
      refine vL hb8 ?_
      refine vl (Gives.cutHiZ 4 rfl Tryd.underlying32 (by kernel_rfl) rfl rfl rfl (by omega)) ?_
      refine vF 2 Tryd.underlying34 ?_
      refine Wl.acts rfl rfl (Does.stC rfl rfl rfl hb8 (by kernel_rfl) (Nat.le_of_ble_eq_true rfl) rfl) ?_
      rintro _ w4_4 ⟨hbn, hF4_4⟩
      replace hE := Ext.over hE hF4_4 hg8
      replace hb8 := hbn
      clear hbn
      (try simp only [List.setIfInBounds_toArray, List.set_cons_zero, List.set_cons_succ, Nat.reduceAdd, Nat.zero_add] at hb8)
      refine Wl.nil ?_
      refine Wx.thenN ?_
      first | exact hJ4 (4, ds.take 4) _ _ (.cons rfl (.cons rfl (.cons rfl (.cons rfl (.cons rfl (.cons rfl (.cons rfl (.cons rfl (.nil))))))))) ⟨bl_of ((of_bl hd).take (k := 4) (by omega)), hb8, hE⟩ | exact hJ4 (dn, ds) _ _ (.cons rfl (.cons rfl (.cons rfl (.cons rfl (.cons rfl (.cons rfl (.cons rfl (.cons rfl (.nil))))))))) ⟨hd, hb8, hE⟩
    first | replace h30 := dF h30 | replace h30 := nF h30 | skip
    refine Wc.skip ?_
    refine Wx.thenN ?_
    first | exact hJ4 (4, ds.take 4) _ _ (.cons rfl (.cons rfl (.cons rfl (.cons rfl (.cons rfl (.cons rfl (.cons rfl (.cons rfl (.nil))))))))) ⟨bl_of ((of_bl hd).take (k := 4) (by omega)), hb8, hE⟩ | exact hJ4 (dn, ds) _ _ (.cons rfl (.cons rfl (.cons rfl (.cons rfl (.cons rfl (.cons rfl (.cons rfl (.cons rfl (.nil))))))))) ⟨hd, hb8, hE⟩
  intro ⟨dn, ds⟩ wj hJ
  clear hE hb8
  obtain ⟨hd, hb8, hE⟩ := hJ
  refine vs fun K6 hK6 => vR [(1, _), (2, _), (3, _), (4, _), (5, _), (6, _), (7, _), (8, _)] ?_
  refine vF 3 Tryd.underlying34 ?_
  refine vL hb8 ?_
  refine Wl.call rfl rfl rfl rfl Tryd.func25 rfl (by kernel_rfl) rfl (cutN_calls _ S m d hple 100 rfl) ?_
  rintro x1 w52 ⟨rfl, rfl⟩
  refine ⟨_, rfl, ?_⟩
  refine vF 3 Tryd.underlying34 ?_
  refine Wl.acts rfl rfl (Does.stC rfl rfl rfl hb8 (by kernel_rfl) (Nat.le_of_ble_eq_true rfl) rfl) ?_
  rintro _ w5_4 ⟨hbn, hF5_4⟩
  replace hE := Ext.over hE hF5_4 hg8
  replace hb8 := hbn
  clear hbn
  (try simp only [List.setIfInBounds_toArray, List.set_cons_zero, List.set_cons_succ, Nat.reduceAdd, Nat.zero_add] at hb8)
  refine vn (hK6 _ _ ?_)
  refine vs fun K7 hK7 => vR [(1, _), (2, _), (3, _), (4, _), (5, _), (6, _), (7, _), (8, _)] ?_
  refine vM ?_
  refine vM ?_
  refine vM ?_
  refine vM ?_
  refine vM ?_
  refine vM ?_
  refine Wl.call rfl rfl rfl rfl Tryd.func26 rfl (by kernel_rfl) rfl (spoiltD _ (hT.ext hE) A n c codes (ha.ext hE) active rs B bn bc zs (Row.ext hb hE) C cn cc ys (hc.ext hE) cut none 0 0 [] (BV.nil_ _ (fun _ => True))) ?_
  rintro x2 w66 ⟨Sb, mb, kb, b, rfl, hB, hm53, hx66⟩
  refine ⟨_, rfl, ?_⟩
  replace hb8 := hb8.ext hx66
  replace hE := hE.trans hx66
  refine vA ?_
  refine vn (hK7 _ _ ?_)
  refine vs fun K8 hK8 => vR [(2, _), (3, _), (8, _), (17, _)] ?_
  refine vM ?_
  refine Wl.call rfl rfl rfl rfl Tryd.func13 rfl (by kernel_rfl) rfl (newD _ A1 n1 c1 more (ha1.ext hE) 20) ?_
  rintro x3 w71 ⟨gC, rfl, hgC0, hC, hx71⟩
  refine ⟨_, rfl, ?_⟩
  have hgC : w.heap.size ≤ gC := Nat.le_trans hE.size hgC0
  have hl8 := hb8.lt
  have hn8g : b8 ≠ gC := by omega
  replace hB := (hB.mono (P' := fun _ => True) fun _ _ => trivial).bd.ext hx71
  have hgT : 0 ≠ gC := by omega
  replace hb8 := hb8.ext hx71
  replace hE := hE.trans hx71
  refine vM ?_
  refine Wl.call rfl rfl rfl rfl Tryd.func11 rfl (by kernel_rfl) rfl (activeD _ active) ?_
  rintro x4 w73 ⟨rfl, rfl⟩
  refine ⟨_, rfl, ?_⟩
  refine Wl.call rfl rfl rfl rfl Tryd.func15 rfl (by kernel_rfl) rfl (eventD _ (hT.ext hE) gC _ hC (Nat.le_refl _) hgT (1 + active % 3) ⟨by omega, by omega⟩) ?_
  rintro x5 w74 ⟨y, s, rfl, hV, hye, hC2, hF74⟩
  refine ⟨_, rfl, ?_⟩
  replace hB := (hB.fr (hF74.mono fun q hq => by omega)).mono (P' := fun _ => True) fun _ _ => trivial
  have hz74 := hF74.size
  replace hb8 := hb8.frA hF74
  replace hE := Ext.over hE hF74 hgC
  refine Wl.does rfl rfl rfl (Does.alB (.agg #[(.int .i64 0), (.int .i64 0), (.slice none 0 0), (.slice none 0 0)]) rfl (by kernel_rfl) rfl) ?_
  rintro _ w7_5 ⟨b18, rfl, hs18, hb18, hx7_5⟩
  have hn8_18 : b8 ≠ b18 := hb8.ne hs18
  have hg18 : w.heap.size ≤ b18 := Nat.le_trans hE.size hs18
  replace hb8 := hb8.ext hx7_5
  replace hE := hE.trans hx7_5
  refine Wl.acts rfl rfl (Does.stL 4 rfl rfl rfl hb18 (by kernel_rfl) rfl rfl rfl) ?_
  rintro _ w7_6 ⟨hbn, hF7_6⟩
  replace hb8 := hb8.frA hF7_6
  replace hE := Ext.over hE hF7_6 hg18
  replace hb18 := hbn
  clear hbn
  have hx7 := Ext.over hx7_5 hF7_6 hs18
  replace hB := hB.ext hx7
  replace hV := hV.ext hx7
  refine vn (hK8 _ _ ?_)
  refine Wc.seq (fun K9 hK9 => ?_)
  refine vs fun K10 hK10 => vR [(8, _), (17, _), (18, _)] ?_
  refine vl (Gives.ldW rfl (by kernel_rfl) rfl hb8 (by kernel_rfl)) ?_
  refine vl (Gives.ldW rfl (by kernel_rfl) rfl hb18 (by kernel_rfl)) ?_
  refine Wl.does rfl rfl rfl (Does.lit2E rfl Tryd.underlying28 infoE2 rfl rfl rfl) ?_
  rintro _ w82 ⟨g82, rfl, hs82, hk82, hx82⟩
  have hV0 : EvtV w82 (fun _ => True) ⟨rg, kd, ds, pay.take 100⟩ ⟨D, dn, dc, S, min m 100, d⟩ := ⟨(hd.mono fun _ _ => trivial).ext (hE.trans hx82), ((hp.cutS 100).mono fun _ _ => trivial).ext (hE.trans hx82)⟩
  have hLL := two_evs (P := fun _ => True) (x := ⟨rg, kd, ds, pay.take 100⟩) (y := y) (r := ⟨D, dn, dc, S, min m 100, d⟩) (s := s) hk82 hV0 ((hV.ext hx82).mono fun _ _ => trivial) trivial
  replace hB := hB.ext hx82
  generalize [(⟨rg, kd, ds, pay.take 100⟩ : Ev), y] = evs at *
  replace hb8 := hb8.ext hx82
  replace hb18 := hb18.ext hx82
  replace hE := hE.trans hx82
  refine vl (Gives.lenS rfl Tryd.underlying28 rfl) ?_
  refine vM ?_
  refine vn (hK10 _ _ ?_)
  refine Wc.block ?_
  refine vK [(17, _), (53, _), (54, _), (55, _)] ?_
  refine Wc.loopC (ι := Nat) [(17, _), (53, _), (54, _)] (fun i => [(55, .int .i64 (i : Int))]) (fun i wr => i ≤ 2 ∧ SL Rp.evt wr (fun _ => True) (some ⟨g82, 0, none⟩) 2 2 evs ∧ BV wr (fun _ => True) Sb mb kb b ∧ Ext w wr) (fun i => 2 - i) (0) (.co (.cons rfl (.cons rfl (.cons rfl (.nil))))) (⟨by omega, hLL, hB, hE⟩) ?_
  intro i wr hJ KL1 hKL1
  clear hE hLL hB
  obtain ⟨hi, hLL, hB, hE⟩ := hJ
  refine vs fun K11 hK11 => vR [(17, _), (53, _), (54, _), (55, _)] ?_
  refine vl (Gives.lss rfl rfl rfl) ?_
  refine vn (hK11 _ _ ?_)
  refine Wc.seq (fun K12 hK12 => ?_)
  refine Wc.cond _ rfl (fun h56 => ?_) (fun h56 => ?_)
  · first | replace h56 := dT h56 | replace h56 := nT h56 | skip
    refine Wc.skip ?_
    refine Wx.thenN (hK12 _ _ ?_)
    refine Wc.seq (fun K13 hK13 => ?_)
    refine Wc.block ?_
    refine vs fun K14 hK14 => vK [(17, _), (53, _), (54, _), (55, _)] ?_
    obtain ⟨xb, xo, hxA, hbw, x, r, hz, hr0, hv⟩ := EL.at_ hLL (show i < 2 by omega)
    cases hxA
    refine Wc.region ?_
    refine vl (Gives.ixSZ (i := i) (sz := 4) rfl Tryd.underlying28 (by kernel_rfl) rfl rfl rfl (by omega)) ?_
    refine vl (Gives.ldM rfl (by kernel_rfl) rfl hr0 (by kernel_rfl)) ?_
    refine Wl.does rfl rfl rfl (Does.alB (.agg #[(.int .i64 0), (.int .i64 0), (.slice none 0 0), (.slice none 0 0)]) rfl (by kernel_rfl) rfl) ?_
    rintro _ w10_2 ⟨b20, rfl, hs20, hb20, hx10_2⟩
    have hg20 : w.heap.size ≤ b20 := Nat.le_trans hE.size hs20
    replace hE := hE.trans hx10_2
    refine Wl.acts rfl rfl (Does.stL 4 rfl rfl rfl hb20 (by kernel_rfl) rfl rfl rfl) ?_
    rintro _ w10_3 ⟨hbn, hF10_3⟩
    replace hE := Ext.over hE hF10_3 hg20
    replace hb20 := hbn
    clear hbn
    have hx10 := Ext.over hx10_2 hF10_3 hs20
    replace hLL := hLL.ext hx10
    replace hB := hB.ext hx10
    replace hv := hv.ext hx10
    refine vn (hK14 _ _ ?_)
    refine vs fun K15 hK15 => vR [(17, _), (20, _), (53, _), (54, _), (55, _)] ?_
    refine vM ?_
    refine vl (Gives.ldW rfl (by kernel_rfl) rfl hb20 (by kernel_rfl)) ?_
    refine Wl.call rfl rfl rfl rfl Tryd.func16 rfl (by kernel_rfl) rfl (addLP _ Sb mb kb b hB x.reg x.kind r.D r.dn r.dc x.ds r.S r.m r.d x.pay hv.1 hv.2) ?_
    rintro x6 w112 ⟨S3, m3, k3, rfl, hO3, hx112⟩
    refine ⟨_, rfl, ?_⟩
    replace hLL := hLL.ext hx112
    replace hB := hB.ext hx112
    replace hv := hv.ext hx112
    replace hb20 := hb20.ext hx112
    replace hE := hE.trans hx112
    refine vM ?_
    refine vl (Gives.extract rfl rfl rfl) ?_
    refine vl (Gives.extract rfl rfl rfl) ?_
    refine vA ?_
    refine vA ?_
    refine vn (hK15 _ _ ?_)
    refine vs fun K16 hK16 => vR [(17, _), (20, _), (21, _), (22, _), (53, _), (54, _), (55, _)] ?_
    refine vM ?_
    refine vl (Gives.ldW rfl (by kernel_rfl) rfl hb20 (by kernel_rfl)) ?_
    refine Wl.call rfl rfl rfl rfl Tryd.func27 rfl (by kernel_rfl) rfl (addLQ _ Sb mb kb b hB x.reg x.kind r.D r.dn r.dc x.ds r.S r.m r.d x.pay hv.1 hv.2) ?_
    rintro x7 w122 ⟨S4, m4, k4, rfl, hO4, hx122⟩
    refine ⟨_, rfl, ?_⟩
    replace hLL := hLL.ext hx122
    replace hB := hB.ext hx122
    replace hO3 := hO3.ext hx122
    replace hb20 := hb20.ext hx122
    replace hE := hE.trans hx122
    refine vM ?_
    refine vl (Gives.extract rfl rfl rfl) ?_
    refine vl (Gives.extract rfl rfl rfl) ?_
    refine vA ?_
    refine vA ?_
    refine vn (hK16 _ _ ?_)
    refine vs fun K17 hK17 => vR [(17, _), (21, _), (22, _), (23, _), (24, _), (53, _), (54, _), (55, _)] ?_
    refine vM ?_
    refine vM ?_
    refine vl (Gives.neq rfl rfl rfl) ?_
    refine vM ?_
    refine Wl.guardT rfl rfl rfl (by simp) ?_
    refine vM ?_
    refine vM ?_
    refine Wl.call rfl rfl rfl rfl Tryd.func18 rfl (by kernel_rfl) rfl (same_calls _ _ _ _ _ _ _ _ _ (hO3.bv (P := fun _ => True) fun _ _ => trivial) (hO4.bv (P := fun _ => True) fun _ _ => trivial)) ?_
    rintro x8 w136 ⟨rfl, hq136⟩
    refine ⟨_, rfl, ?_⟩
    replace hLL := hLL.ext hq136.ext
    replace hB := hB.ext hq136.ext
    replace hb20 := hb20.ext hq136.ext
    replace hE := hE.trans hq136.ext
    refine vl (Gives.not rfl rfl) ?_
    refine vU ?_
    refine vn (hK17 _ _ ?_)
    refine Wc.condF rfl (by simp) ?_
    refine Wc.skip ?_
    refine Wx.blockN ?_
    refine Wx.thenN (hK13 _ _ ?_)
    refine vR [(17, _), (53, _), (54, _), (55, _)] ?_
    refine vAdd ?_
    refine vM ?_
    refine Wl.nil ?_
    refine Wx.thenN ?_
    exact hKL1 (i + 1) _ _ (.co (.cons rfl (.cons rfl (.cons rfl (.nil))))) ⟨by omega, hLL, hB, hE⟩ (by show 2 - (i + 1) < 2 - i; omega)
  first | replace h56 := dF h56 | replace h56 := nF h56 | skip
  refine Wc.exit ?_
  refine Wx.thenE ?_
  refine Wx.thenE ?_
  refine Wx.hit ?_
  refine Wx.thenN (hK9 _ _ ?_)
  refine vs fun K18 hK18 => vR [] ?_
  refine vA ?_
  refine vn (hK18 _ _ ?_)
  refine Wc.ret ?_
  refine Wx.ret [_] ⟨rfl, trivial⟩ ?_
  exact ⟨rfl, hE⟩
end Go.Proofs.YtnbgieccindpnaaDoor
