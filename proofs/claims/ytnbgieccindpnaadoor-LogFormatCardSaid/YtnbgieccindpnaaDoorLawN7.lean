/- LogFormat: the walk. -/
import Derived.Test.YtnbgieccindpnaaDoorLogP
namespace Go.Proofs.YtnbgieccindpnaaDoor
set_option linter.all false
set_option maxRecDepth 20000
open Go.RowKit
section
variable {w w' : World} {base n c : Nat} {A : Option Addr} {l : List Ev} {S : Nat → Prop}
theorem EOs.len (h : EOs w base S A n c l) : l.length = n := by
  obtain ⟨vs, ho, he⟩ := h
  have h1 := he.1
  have h2 := ho.1
  have h3 : Rp.evt.size = 4 := rfl
  rw [h3] at h1
  omega
theorem EOs.sl (h : EOs w base S A n c l) : SL Rp.evt w (fun _ => True) A n c l := let ⟨vs, ho, he⟩ := h; ⟨vs, Row.of_own ho (fun _ _ => trivial), he.mono fun _ _ _ => trivial⟩
theorem EOs.slP {P : Nat → Prop} (h : EOs w base S A n c l) (hb : ∀ k, base ≤ k → P k) (hs : ∀ k, S k → P k) : SL Rp.evt w P A n c l := let ⟨vs, ho, he⟩ := h; ⟨vs, Row.of_own ho hb, he.mono fun k hk _ => hs k hk.1⟩
theorem EOs.head (h : EOs w base S A n c l) (hm : 0 < n) : ∃ g, A = some ⟨g, 0, none⟩ ∧ base ≤ g ∧ g < w.heap.size := let ⟨vs, ho, _⟩ := h; own_head ho hm
theorem EOs.at_ {g k : Nat} (h : EOs w base S (some ⟨g, 0, none⟩) n c l) (hk : k < n) :
    ∃ x r, l[k]? = some x ∧ w.rangeAt g (0 + k * 4) (evtC x r) ∧ EvtV w (NOwn w S (.slice (some ⟨g, 0, none⟩) n c)) x r := by
  have hln := h.len
  obtain ⟨vs, ho, he⟩ := h
  have hz : l[k]? = some l[k] := List.getElem?_eq_getElem (by omega)
  generalize l[k] = x at hz
  obtain ⟨r, h5, h6⟩ := evt_of (he.2 k x hz)
  refine ⟨x, r, hz, fun j v hj => ?_, h6⟩
  have hc := ho.cells (g := g) rfl (k * 4 + j) v (by
    have e : ((vs.drop (k * Rp.evt.size)).take Rp.evt.size)[j]? = some v := by rw [h5]; exact hj
    rw [List.getElem?_take] at e
    split at e
    · rw [List.getElem?_drop] at e; exact e
    · cases e)
  have e2 : (0 + k * 4 + j) = k * 4 + j := by omega
  rw [e2]
  simpa [Addr.add_lit] using hc
variable {n' : Nat} {e : Env} {o : Oper} {x y : Operand}
/-- a field of an event of the row stored -/
theorem Does.stEvF {g m c j q : Nat} {l : List Ev} {v : Value} {t : TypeId} (ho : o.op = .store t x y) (hx : ev e x = some (.pointer (some ⟨g, 0 + (j * 4 + q), none⟩))) (hy : ev e y = some v) (h1 : v.oneCell' = true) (hown : EOs w base S (some ⟨g, 0, none⟩) m c l) (hi : (Tryd.prog.info? t).map (·.size) = some 1) (hj : j < m) (hq : q < 4)
    (hnew : ∀ (z : Ev) (r : ERow), l[j]? = some z → EvtV w (NOwn w S (.slice (some ⟨g, 0, none⟩) m c)) z r → ∃ z' r', (evtC z r).set q v = evtC z' r' ∧ EvtV w (NOwn w S (.slice (some ⟨g, 0, none⟩) m c)) z' r') :
    Does Tryd.prog n' o e w (fun _ w' => ∃ l', EOs w' base S (some ⟨g, 0, none⟩) m c l' ∧ Fr (fun k => k ≠ g) w w') := by
  have hln := hown.len
  obtain ⟨vs, hw, he⟩ := hown
  have hl := hw.1
  have hz : l[j]? = some l[j] := List.getElem?_eq_getElem (by omega)
  generalize l[j] = z at hz
  obtain ⟨r, h5, h6⟩ := evt_of (he.2 j z hz)
  obtain ⟨z', r', h7, h8⟩ := hnew z r hz h6
  have h5' : (vs.drop (j * 4)).take 4 = evtC z r := h5
  have hvs : vs = vs.take (j * 4) ++ evtC z r ++ vs.drop ((j + 1) * 4) := by
    have e3 : (j + 1) * 4 = j * 4 + 4 := by omega
    rw [← h5', e3, ← List.drop_drop, List.append_assoc, List.take_append_drop, List.take_append_drop]
  have hlen : (vs.take (j * 4)).length = j * 4 := by rw [List.length_take]; omega
  have hset : vs.set (j * 4 + q) v = vs.take (j * 4) ++ evtC z' r' ++ vs.drop ((j + 1) * 4) := by
    conv => lhs; rw [hvs]
    rw [← h7, List.append_assoc, List.append_assoc, List.set_append_right _ _ (by omega), hlen, Nat.add_sub_cancel_left, List.set_append_left _ _ (by show q < 4; omega)]
  refine (Does.stR (i := j * 4 + q) ho hx hy h1 hw hi (by omega)).mono ?_
  rintro _ w' ⟨h9, h10⟩
  refine ⟨l.take j ++ [z'] ++ l.drop (j + 1), ⟨_, h9, ?_⟩, h10⟩
  rw [hset]
  refine ((((he.take j).app (EachR.single (evt_rep h8))).app (he.drop (j + 1))).fr (h10.mono fun k hk hkg => ?_)).mono fun k hk _ => ⟨hk.1, Nat.lt_of_lt_of_le hk.2.1 h10.size, hk.2.2⟩
  subst hkg
  exact hk.2.2 rfl
end
def FewLR (w : World) (P : Nat → Prop) (act rs : Int) (e : Ending) (w' : World) : Prop := ∃ A n c l, e = .returned (.agg #[.int .i64 act, .int .i64 rs, .slice A n c]) ∧ SL Rp.evt w' (fun q => P q ∨ w.heap.size ≤ q) A n c l ∧ Ext w w'
set_option maxRecDepth 20000 in
set_option maxHeartbeats 4000000 in
theorem fewD {P : Nat → Prop} (w : World) (act rs : Int) (A : Option Addr) (n c : Nat) (l : List Ev) (hl : SL Rp.evt w P A n c l) :
    Calls Tryd.prog 30 #[.agg #[.int .i64 act, .int .i64 rs, .slice A n c]] w (FewLR w P act rs) := by
  have hle := hl.le
  refine calls_enter Tryd.func30 rfl Tryd.ntmps30 rfl ?_
  have hE : Ext w w := Ext.refl w
  refine vs fun K1 hK1 => vR [(0, _)] ?_
  refine Wl.does rfl rfl rfl (Does.boxA rfl rfl) ?_
  rintro _ w0_0 ⟨b1, rfl, hs1, hb1, hx0_0⟩
  have hg1 : w.heap.size ≤ b1 := Nat.le_trans hE.size hs1
  replace hE := hE.trans hx0_0
  refine Wl.does rfl rfl rfl (Does.alB (.agg #[(.int .i64 0), (.int .i64 0), (.slice none 0 0)]) rfl (by kernel_rfl) rfl) ?_
  rintro _ w0_1 ⟨b2, rfl, hs2, hb2, hx0_1⟩
  have hn1_2 : b1 ≠ b2 := hb1.ne hs2
  have hg2 : w.heap.size ≤ b2 := Nat.le_trans hE.size hs2
  replace hb1 := hb1.ext hx0_1
  replace hE := hE.trans hx0_1
  refine vn (hK1 _ _ ?_)
  refine Wc.joinC (ι := Nat × List Ev) [(1, _), (2, _)] (fun _ => []) (fun (n', l') wr => n' ≤ 50 ∧ SL Rp.evt w P A n' c l' ∧ Blk wr b1 30 #[.int .i64 act, .int .i64 rs, .slice A n' c] ∧ Blk wr b2 30 #[.int .i64 0, .int .i64 0, .slice none 0 0] ∧ Ext w wr) ?_ ?_ (.cons rfl (.cons rfl (.nil)))
  · intro K2 hJ2
    refine vs fun K3 hK3 => vR [(1, _), (2, _)] ?_
    refine vF 2 Tryd.underlying30 ?_
    refine vL hb1 ?_
    refine vl (Gives.lenS rfl Tryd.underlying28 rfl) ?_
    refine vl (Gives.gtr rfl rfl rfl) ?_
    refine vn (hK3 _ _ ?_)
    refine Wc.cond _ rfl (fun h8 => ?_) (fun h8 => ?_)
    · first | replace h8 := dT h8 | replace h8 := nT h8 | skip
      refine vR [(1, _), (2, _)] ?_
      refine vF 2 Tryd.underlying30 ?_
      refine vL hb1 ?_
      refine vl (Gives.cutHiZ 50 rfl Tryd.underlying28 (by kernel_rfl) rfl rfl rfl (by omega)) ?_
      refine vF 2 Tryd.underlying30 ?_
      refine Wl.acts rfl rfl (Does.stC rfl rfl rfl hb1 (by kernel_rfl) (Nat.le_of_ble_eq_true rfl) rfl) ?_
      rintro _ w2_4 ⟨hbn, hF2_4⟩
      replace hb2 := hb2.frA hF2_4
      replace hE := Ext.over hE hF2_4 hg1
      replace hb1 := hbn
      clear hbn
      (try simp only [List.setIfInBounds_toArray, List.set_cons_zero, List.set_cons_succ, Nat.reduceAdd, Nat.zero_add] at hb1)
      refine Wl.nil ?_
      refine Wx.thenN ?_
      first | exact hJ2 (50, l.take 50) _ _ (.cons rfl (.cons rfl (.nil))) ⟨by omega, hl.take (k := 50) (by omega), hb1, hb2, hE⟩ | exact hJ2 (n, l) _ _ (.cons rfl (.cons rfl (.nil))) ⟨by omega, hl, hb1, hb2, hE⟩
    first | replace h8 := dF h8 | replace h8 := nF h8 | skip
    refine Wc.skip ?_
    refine Wx.thenN ?_
    first | exact hJ2 (50, l.take 50) _ _ (.cons rfl (.cons rfl (.nil))) ⟨by omega, hl.take (k := 50) (by omega), hb1, hb2, hE⟩ | exact hJ2 (n, l) _ _ (.cons rfl (.cons rfl (.nil))) ⟨by omega, hl, hb1, hb2, hE⟩
  intro ⟨n, l⟩ wj hJ
  clear hE hb1 hb2
  obtain ⟨hn50, hl, hb1, hb2, hE⟩ := hJ
  refine vs fun K4 hK4 => vR [(1, _), (2, _)] ?_
  have hz3 := hE.size
  have hl1 := hb1.lt
  have hl2 := hb2.lt
  refine Wl.does rfl rfl rfl (Does.lit0 4 rfl Tryd.underlying28 infoE2) ?_
  rintro _ w30 ⟨g30, rfl, hs30, hk30, hx30⟩
  obtain ⟨vsA, hrA, heA⟩ := hl.bd
  have hw1 := hg1
  have hw2 := hg2
  have hO0 : EOs w30 wj.heap.size (fun q => (q ≠ b1 ∧ q ≠ b2) ∧ P q) (some ⟨g30, 0, none⟩) 0 0 [] := EOs.lit0 hk30 hs30
  replace hb1 := hb1.ext hx30
  replace hb2 := hb2.ext hx30
  replace hE := hE.trans hx30
  refine vF 2 Tryd.underlying30 ?_
  refine vL hb1 ?_
  have hz30 := hx30.size
  refine Wl.does rfl rfl rfl (Does.appEO0 rfl rfl rfl hO0 (hrA.fr hE.fr) ((heA.fr hE.fr).mono fun q hq hlt => ⟨⟨⟨by have := hq.2; omega, by have := hq.2; omega⟩, hq.1⟩, hlt, fun he => by have h : g30 = q := Option.some.inj he; have := hq.2; omega⟩) (by omega) hz30) ?_
  rintro _ w33 ⟨B, sc, rfl, hO, hB33, _, _⟩
  have hBle := hO.sl.le
  replace hb1 := Blk.bel hb1 hB33 (by omega)
  replace hb2 := Blk.bel hb2 hB33 (by omega)
  replace hE := Ext.step hE hB33 (by omega)
  refine vA ?_
  refine vn (hK4 _ _ ?_)
  refine Wc.seq (fun K5 hK5 => ?_)
  refine vs fun K6 hK6 => vR [(1, _), (2, _), (3, _)] ?_
  refine vA ?_
  refine vn (hK6 _ _ ?_)
  refine Wc.block ?_
  refine vK [(1, _), (2, _), (3, _), (4, _)] ?_
  refine Wc.loopC (ι := Nat × List Ev) [(1, _), (2, _), (3, _)] (fun | (i, _) => [(4, .int .i64 (i : Int))]) (fun | (i, l2), wr => i ≤ n ∧ EOs wr wj.heap.size (fun q => (q ≠ b1 ∧ q ≠ b2) ∧ P q) B n sc l2 ∧ Blk wr b1 30 #[.int .i64 act, .int .i64 rs, .slice A n c] ∧ Blk wr b2 30 #[.int .i64 0, .int .i64 0, .slice none 0 0] ∧ Ext w wr) (fun | (i, _) => n - i) ((0, l)) (.co (.cons rfl (.cons rfl (.cons rfl (.nil))))) (⟨by omega, hO, hb1, hb2, hE⟩) ?_
  intro ⟨i, l2⟩ wr hJ KL1 hKL1
  clear hE hb1 hb2 hO
  obtain ⟨hi, hO, hb1, hb2, hE⟩ := hJ
  refine Wc.seq (fun K7 hK7 => ?_)
  refine vs fun K8 hK8 => vR [(1, _), (2, _), (3, _), (4, _)] ?_
  refine vM ?_
  refine vM ?_
  refine vl (Gives.lenS rfl Tryd.underlying28 rfl) ?_
  refine vl (Gives.lss rfl rfl rfl) ?_
  refine vn (hK8 _ _ ?_)
  refine Wc.cond _ rfl (fun h20 => ?_) (fun h20 => ?_)
  · first | replace h20 := dT h20 | replace h20 := nT h20 | skip
    refine Wc.skip ?_
    refine Wx.thenN (hK7 _ _ ?_)
    refine Wc.seq (fun K9 hK9 => ?_)
    refine Wc.block ?_
    refine Wc.joinC (ι := List Ev) [(1, _), (2, _), (3, _), (4, _)] (fun _ => []) (fun l2 wr => EOs wr wj.heap.size (fun q => (q ≠ b1 ∧ q ≠ b2) ∧ P q) B n sc l2 ∧ Blk wr b1 30 #[.int .i64 act, .int .i64 rs, .slice A n c] ∧ Blk wr b2 30 #[.int .i64 0, .int .i64 0, .slice none 0 0] ∧ Ext w wr) ?_ ?_ (.cons rfl (.cons rfl (.cons rfl (.cons rfl (.nil)))))
    · intro K10 hJ10
      refine vs fun K11 hK11 => vK [(1, _), (2, _), (3, _), (4, _)] ?_
      obtain ⟨g, rfl, hgb, hgl⟩ := hO.head (by omega)
      have hgw : w.heap.size ≤ g := by omega
      have hn1g : b1 ≠ g := by omega
      have hn2g : b2 ≠ g := by omega
      obtain ⟨x, r, hz, hr0, hv⟩ := hO.at_ (show i < n by omega)
      refine Wc.region ?_
      refine vM ?_
      refine vM ?_
      refine vl (Gives.ixSZ (i := i) (sz := 4) rfl Tryd.underlying28 (by kernel_rfl) rfl rfl rfl (by omega)) ?_
      refine vF 2 Tryd.underlying34 ?_
      refine vl (Gives.ldC rfl (by kernel_rfl) rfl (hr0 2 _ rfl)) ?_
      refine vl (Gives.lenS rfl Tryd.underlying32 rfl) ?_
      refine vl (Gives.gtr rfl rfl rfl) ?_
      refine vn (hK11 _ _ ?_)
      refine Wc.cond _ rfl (fun h29 => ?_) (fun h29 => ?_)
      · first | replace h29 := dT h29 | replace h29 := nT h29 | skip
        refine vR [(1, _), (2, _), (3, _), (4, _)] ?_
        refine vM ?_
        refine vM ?_
        refine vM ?_
        refine vM ?_
        refine vl (Gives.ixSZ (i := i) (sz := 4) rfl Tryd.underlying28 (by kernel_rfl) rfl rfl rfl (by omega)) ?_
        refine vF 2 Tryd.underlying34 ?_
        refine vl (Gives.ldC rfl (by kernel_rfl) rfl (hr0 2 _ rfl)) ?_
        refine vl (Gives.cutHiZ 4 rfl Tryd.underlying32 (by kernel_rfl) rfl rfl rfl (by have := hv.1.le; omega)) ?_
        refine vl (Gives.ixSZ (i := i) (sz := 4) rfl Tryd.underlying28 (by kernel_rfl) rfl rfl rfl (by omega)) ?_
        refine vF 2 Tryd.underlying34 ?_
        refine Wl.acts rfl rfl (Does.stEvF (j := i) (q := 2) rfl rfl rfl rfl hO (by kernel_rfl) (by omega) (by omega) (fun z s hz2 hv2 => ?_)) ?_
        · obtain rfl : z = x := by rw [hz] at hz2; exact (Option.some.inj hz2).symm
          exact ⟨⟨z.reg, z.kind, z.ds.take 4, z.pay⟩, ⟨r.D, 4, r.dc, s.S, s.m, s.d⟩, rfl, bl_of ((of_bl hv.1).take (k := 4) (by omega)), hv2.2⟩
        rintro _ w810 ⟨l3, hO3, hF810⟩
        replace hb1 := hb1.frA hF810
        replace hb2 := hb2.frA hF810
        replace hE := Ext.over hE hF810 hgw
        refine Wl.nil ?_
        refine Wx.thenN ?_
        first | exact hJ10 l3 _ _ (.cons rfl (.cons rfl (.cons rfl (.cons rfl (.nil))))) ⟨hO3, hb1, hb2, hE⟩ | exact hJ10 l2 _ _ (.cons rfl (.cons rfl (.cons rfl (.cons rfl (.nil))))) ⟨hO, hb1, hb2, hE⟩
      first | replace h29 := dF h29 | replace h29 := nF h29 | skip
      refine Wc.skip ?_
      refine Wx.thenN ?_
      first | exact hJ10 l3 _ _ (.cons rfl (.cons rfl (.cons rfl (.cons rfl (.nil))))) ⟨hO3, hb1, hb2, hE⟩ | exact hJ10 l2 _ _ (.cons rfl (.cons rfl (.cons rfl (.cons rfl (.nil))))) ⟨hO, hb1, hb2, hE⟩
    intro l2 wk hJ
    clear hE hb1 hb2 hO
    obtain ⟨hO, hb1, hb2, hE⟩ := hJ
    obtain ⟨g, rfl, hgb, hgl⟩ := hO.head (by omega)
    have hgw : w.heap.size ≤ g := by omega
    have hn1g : b1 ≠ g := by omega
    have hn2g : b2 ≠ g := by omega
    obtain ⟨x, r, hz, hr0, hv⟩ := hO.at_ (show i < n by omega)
    have hvle := hv.2.le
    refine vR [(1, _), (2, _), (3, _), (4, _)] ?_
    refine vM ?_
    refine vM ?_
    refine vM ?_
    refine vM ?_
    refine vl (Gives.ixSZ (i := i) (sz := 4) rfl Tryd.underlying28 (by kernel_rfl) rfl rfl rfl (by omega)) ?_
    refine vF 3 Tryd.underlying34 ?_
    refine vl (Gives.ldC rfl (by kernel_rfl) rfl (hr0 3 _ rfl)) ?_
    refine Wl.call rfl rfl rfl rfl Tryd.func25 rfl (by kernel_rfl) rfl (cutN_calls _ r.S r.m r.d hvle 80 rfl) ?_
    rintro x1 w97 ⟨rfl, rfl⟩
    refine ⟨_, rfl, ?_⟩
    refine vl (Gives.ixSZ (i := i) (sz := 4) rfl Tryd.underlying28 (by kernel_rfl) rfl rfl rfl (by omega)) ?_
    refine vF 3 Tryd.underlying34 ?_
    refine Wl.acts rfl rfl (Does.stEvF (j := i) (q := 3) rfl rfl rfl rfl hO (by kernel_rfl) (by omega) (by omega) (fun z s hz2 hv2 => ?_)) ?_
    · obtain rfl : z = x := by rw [hz] at hz2; exact (Option.some.inj hz2).symm
      exact ⟨⟨z.reg, z.kind, z.ds, z.pay.take 80⟩, ⟨s.D, s.dn, s.dc, r.S, min r.m 80, r.d⟩, rfl, hv2.1, hv.2.cutS 80⟩
    rintro _ w910 ⟨l4, hO4, hF910⟩
    replace hb1 := hb1.frA hF910
    replace hb2 := hb2.frA hF910
    replace hE := Ext.over hE hF910 hgw
    refine Wl.nil ?_
    refine Wx.blockN ?_
    refine Wx.thenN (hK9 _ _ ?_)
    refine vR [(1, _), (2, _), (3, _), (4, _)] ?_
    refine vM ?_
    refine vAdd ?_
    refine vA ?_
    refine Wl.nil ?_
    refine Wx.thenN ?_
    exact hKL1 (i + 1, l4) _ _ (.co (.cons rfl (.cons rfl (.cons rfl (.nil))))) ⟨by omega, hO4, hb1, hb2, hE⟩ (by show n - (i + 1) < n - i; omega)
  first | replace h20 := dF h20 | replace h20 := nF h20 | skip
  refine Wc.exit ?_
  refine Wx.thenE ?_
  refine Wx.thenE ?_
  refine Wx.hit ?_
  refine Wx.thenN (hK5 _ _ ?_)
  refine vs fun K12 hK12 => vR [(1, _), (2, _), (3, _)] ?_
  refine vM ?_
  refine vF 2 Tryd.underlying30 ?_
  refine Wl.acts rfl rfl (Does.stC rfl rfl rfl hb1 (by kernel_rfl) (Nat.le_of_ble_eq_true rfl) rfl) ?_
  rintro _ w10_2 ⟨hbn, hF10_2⟩
  replace hb2 := hb2.frA hF10_2
  replace hE := Ext.over hE hF10_2 hg1
  replace hb1 := hbn
  clear hbn
  (try simp only [List.setIfInBounds_toArray, List.set_cons_zero, List.set_cons_succ, Nat.reduceAdd, Nat.zero_add] at hb1)
  have hS10 := hO.fr hF10_2 (fun q hq => by omega) (fun q hq => hq.1.1)
  refine vn (hK12 _ _ ?_)
  refine vs fun K13 hK13 => vR [(1, _), (2, _)] ?_
  refine vl (Gives.ldW rfl (by kernel_rfl) rfl hb1 (by kernel_rfl)) ?_
  refine Wl.acts rfl rfl (Does.stL 3 rfl rfl rfl hb2 (by kernel_rfl) rfl rfl rfl) ?_
  rintro _ w11_1 ⟨hbn, hF11_1⟩
  replace hb1 := hb1.frA hF11_1
  replace hE := Ext.over hE hF11_1 hg2
  replace hb2 := hbn
  clear hbn
  refine vn (hK13 _ _ ?_)
  refine Wc.ret ?_
  refine Wx.ret [_] ⟨⟨_, rfl, res_blk hb2 Tryd.underlying30 rfl (by kernel_rfl)⟩, trivial⟩ ?_
  exact ⟨B, n, sc, _, rfl, (hS10.fr hF11_1 (fun q hq => by omega) (fun q hq => hq.1.2)).slP (P := fun q => P q ∨ w.heap.size ≤ q) (fun q hq => .inr (by omega)) (fun q hq => .inl hq.2), hE⟩
set_option maxRecDepth 20000 in
set_option maxHeartbeats 4000000 in
theorem logFormat_walk {P P1 : Nat → Prop} (w : World) (hT : Tab w) (ac0 rs0 : Int) (A : Option Addr) (n c : Nat) (l : List Ev) (hl : SL Rp.evt w P A n c l) (A1 : Option Addr) (n1 c1 : Nat) (codes : List UInt8) (ha1 : BV w P1 A1 n1 c1 codes) (active rs : Int) :
    Calls Tryd.prog 8 #[.agg #[.int .i64 ac0, .int .i64 rs0, .slice A n c], .slice A1 n1 c1, .int .i64 active, .int .i64 rs] w fun e w' => e = .returned (.bool true) ∧ Ext w w' := by
  have ha0 := Int.emod_nonneg active (show (3 : Int) ≠ 0 by decide)
  have ha3 := Int.emod_lt_of_pos active (show (0 : Int) < 3 by decide)
  refine calls_enter Tryd.func8 rfl Tryd.ntmps8 rfl ?_
  have hE : Ext w w := Ext.refl w
  refine vs fun K1 hK1 => vR [(0, _), (1, _), (2, _), (3, _)] ?_
  refine Wl.does rfl rfl rfl (Does.boxA rfl rfl) ?_
  rintro _ w0_0 ⟨b4, rfl, hs4, hb4, hx0_0⟩
  have hg4 : w.heap.size ≤ b4 := Nat.le_trans hE.size hs4
  replace hE := hE.trans hx0_0
  refine vA ?_
  refine vn (hK1 _ _ ?_)
  refine Wc.seq (fun K2 hK2 => ?_)
  refine vs fun K3 hK3 => vR [(1, _), (2, _), (3, _), (4, _)] ?_
  refine Wl.call rfl rfl rfl rfl Tryd.func10 rfl (by kernel_rfl) rfl (awakeL _ (hT.ext hE)) ?_
  rintro x0 w0 ⟨rfl, hx0⟩
  refine ⟨_, rfl, ?_⟩
  replace hb4 := hb4.ext hx0
  replace hE := hE.trans hx0
  refine vl (Gives.not rfl rfl) ?_
  refine vn (hK3 _ _ ?_)
  refine Wc.condF rfl rfl ?_
  refine Wc.skip ?_
  refine Wx.thenN (hK2 _ _ ?_)
  refine vs fun K4 hK4 => vR [(1, _), (2, _), (3, _), (4, _)] ?_
  refine vl (Gives.ldW rfl (by kernel_rfl) rfl hb4 (by kernel_rfl)) ?_
  refine Wl.call rfl rfl rfl rfl Tryd.func30 rfl (by kernel_rfl) rfl (fewD _ ac0 rs0 A n c l ((hl.bd.mono (P' := fun q => q < w.heap.size) fun q hq => hq.2).ext hE)) ?_
  rintro x1 w31 ⟨B, bn, bc, fl, rfl, hF, hx31⟩
  refine ⟨_, rfl, ?_⟩
  have hl4 := hb4.lt
  have hzw := hE.size
  replace hb4 := hb4.ext hx31
  replace hE := hE.trans hx31
  refine Wl.acts rfl rfl (Does.stL 3 rfl rfl rfl hb4 (by kernel_rfl) rfl rfl rfl) ?_
  rintro _ w3_2 ⟨hbn, hF3_2⟩
  replace hE := Ext.over hE hF3_2 hg4
  replace hb4 := hbn
  clear hbn
  replace hF := (hF.fr (hF3_2.mono fun q hq => by omega)).mono (P' := fun _ => True) fun _ _ => trivial
  refine vn (hK4 _ _ ?_)
  refine vs fun K5 hK5 => vR [(1, _), (2, _), (3, _), (4, _)] ?_
  refine vl (Gives.ldW rfl (by kernel_rfl) rfl hb4 (by kernel_rfl)) ?_
  refine Wl.call rfl rfl rfl rfl Tryd.func17 rfl (by kernel_rfl) rfl (fmtP _ ac0 rs0 B bn bc fl hF) ?_
  rintro x2 w41 ⟨S1, m1, k1, rfl, hO1, hx41⟩
  refine ⟨_, rfl, ?_⟩
  replace hF := hF.ext hx41
  replace hb4 := hb4.ext hx41
  replace hE := hE.trans hx41
  refine vM ?_
  refine vl (Gives.extract rfl rfl rfl) ?_
  refine vl (Gives.extract rfl rfl rfl) ?_
  refine vA ?_
  refine vA ?_
  refine vn (hK5 _ _ ?_)
  refine vs fun K6 hK6 => vR [(1, _), (2, _), (3, _), (4, _), (9, _), (10, _)] ?_
  refine vl (Gives.ldW rfl (by kernel_rfl) rfl hb4 (by kernel_rfl)) ?_
  refine Wl.call rfl rfl rfl rfl Tryd.func31 rfl (by kernel_rfl) rfl (fmtQ _ ac0 rs0 B bn bc fl hF) ?_
  rintro x3 w51 ⟨S2, m2, k2, rfl, hO2, hx51⟩
  refine ⟨_, rfl, ?_⟩
  replace hO1 := hO1.ext hx51
  replace hb4 := hb4.ext hx51
  replace hE := hE.trans hx51
  refine vM ?_
  refine vl (Gives.extract rfl rfl rfl) ?_
  refine vl (Gives.extract rfl rfl rfl) ?_
  refine vA ?_
  refine vA ?_
  refine vn (hK6 _ _ ?_)
  refine Wc.seq (fun K7 hK7 => ?_)
  refine vs fun K8 hK8 => vR [(1, _), (2, _), (3, _), (9, _), (10, _), (11, _), (12, _)] ?_
  refine vM ?_
  refine vM ?_
  refine vl (Gives.neq rfl rfl rfl) ?_
  refine vM ?_
  refine Wl.guardT rfl rfl rfl (by simp) ?_
  refine vM ?_
  refine vM ?_
  refine Wl.call rfl rfl rfl rfl Tryd.func18 rfl (by kernel_rfl) rfl (same_calls _ _ _ _ _ _ _ _ _ (hO1.bv (P := fun _ => True) fun _ _ => trivial) (hO2.bv (P := fun _ => True) fun _ _ => trivial)) ?_
  rintro x4 w66 ⟨rfl, hq66⟩
  refine ⟨_, rfl, ?_⟩
  replace hb4 := hb4.ext hq66.ext
  replace hE := hE.trans hq66.ext
  refine vl (Gives.not rfl rfl) ?_
  refine vU ?_
  refine vn (hK8 _ _ ?_)
  refine Wc.condF rfl (by simp) ?_
  refine Wc.skip ?_
  refine Wx.thenN (hK7 _ _ ?_)
  refine vs fun K9 hK9 => vR [(1, _), (2, _), (3, _)] ?_
  refine vM ?_
  refine vM ?_
  refine Wl.call rfl rfl rfl rfl Tryd.func11 rfl (by kernel_rfl) rfl (activeD _ active) ?_
  rintro x5 w82 ⟨rfl, rfl⟩
  refine ⟨_, rfl, ?_⟩
  refine vM ?_
  refine Wl.call rfl rfl rfl rfl Tryd.func19 rfl (by kernel_rfl) rfl (drawLog _ (hT.ext hE) A1 n1 c1 codes (ha1.ext hE) (1 + active % 3) ⟨by omega, by omega⟩ rs) ?_
  rintro x6 w84 ⟨S, m, k, evs, rfl, hIO, hok, hm37, hx84⟩
  refine ⟨_, rfl, ?_⟩
  have hml := hIO.len
  obtain ⟨hlo, hlb, hl11⟩ := drawn_ok (act := 1 + active % 3) (rs := rs) ⟨by omega, by omega⟩ hok (by omega)
  have hSL := (hIO.sl (P := fun _ => True) fun _ _ => trivial).bd
  replace hE := hE.trans hx84
  refine Wl.does rfl rfl rfl (Does.alB (.agg #[(.int .i64 0), (.int .i64 0), (.slice none 0 0)]) rfl (by kernel_rfl) rfl) ?_
  rintro _ w8_5 ⟨b13, rfl, hs13, hb13, hx8_5⟩
  have hg13 : w.heap.size ≤ b13 := Nat.le_trans hE.size hs13
  replace hE := hE.trans hx8_5
  refine Wl.acts rfl rfl (Does.stL 3 rfl rfl rfl hb13 (by kernel_rfl) rfl rfl rfl) ?_
  rintro _ w8_6 ⟨hbn, hF8_6⟩
  replace hE := Ext.over hE hF8_6 hg13
  replace hb13 := hbn
  clear hbn
  replace hSL := ((hSL.ext hx8_5).fr (hF8_6.mono fun q hq => by omega)).mono (P' := fun _ => True) fun _ _ => trivial
  refine vn (hK9 _ _ ?_)
  refine vs fun K10 hK10 => vR [(13, _)] ?_
  refine vl (Gives.ldW rfl (by kernel_rfl) rfl hb13 (by kernel_rfl)) ?_
  refine Wl.call rfl rfl rfl rfl Tryd.func17 rfl (by kernel_rfl) rfl (fmtP _ (1 + active % 3) (rs % 1000) S m k evs hSL) ?_
  rintro x7 w91 ⟨S3, m3, k3, rfl, hO3, hx91⟩
  refine ⟨_, rfl, ?_⟩
  rw [fmt_ok hlo (by omega)] at hO3 ⊢
  replace hSL := hSL.ext hx91
  replace hb13 := hb13.ext hx91
  replace hE := hE.trans hx91
  refine vM ?_
  refine vl (Gives.extract rfl rfl rfl) ?_
  refine vl (Gives.extract rfl rfl rfl) ?_
  refine vA ?_
  refine vA ?_
  refine vn (hK10 _ _ ?_)
  refine vs fun K11 hK11 => vR [(9, _), (10, _), (13, _)] ?_
  refine vl (Gives.ldW rfl (by kernel_rfl) rfl hb13 (by kernel_rfl)) ?_
  refine Wl.call rfl rfl rfl rfl Tryd.func31 rfl (by kernel_rfl) rfl (fmtQ _ (1 + active % 3) (rs % 1000) S m k evs hSL) ?_
  rintro x8 w101 ⟨S4, m4, k4, rfl, hO4, hx101⟩
  refine ⟨_, rfl, ?_⟩
  rw [fmt_ok hlo (by omega)] at hO4 ⊢
  replace hSL := hSL.ext hx101
  replace hO3 := hO3.ext hx101
  replace hb13 := hb13.ext hx101
  replace hE := hE.trans hx101
  refine vM ?_
  refine vl (Gives.extract rfl rfl rfl) ?_
  refine vl (Gives.extract rfl rfl rfl) ?_
  refine vA ?_
  refine vA ?_
  refine vn (hK11 _ _ ?_)
  refine Wc.seq (fun K12 hK12 => ?_)
  refine vs fun K13 hK13 => vR [(9, _), (10, _), (11, _), (12, _), (13, _)] ?_
  refine vM ?_
  refine vM ?_
  refine vl (Gives.neq rfl rfl rfl) ?_
  refine vM ?_
  refine Wl.guardT rfl rfl rfl rfl ?_
  refine vM ?_
  refine vl (Gives.neq rfl rfl rfl) ?_
  refine vU ?_
  refine vM ?_
  refine Wl.guardT rfl rfl rfl rfl ?_
  refine vM ?_
  refine vM ?_
  refine Wl.call rfl rfl rfl rfl Tryd.func18 rfl (by kernel_rfl) rfl (same_calls _ _ _ _ _ _ _ _ _ (hO3.bv (P := fun _ => True) fun _ _ => trivial) (hO4.bv (P := fun _ => True) fun _ _ => trivial)) ?_
  rintro x9 w1110 ⟨rfl, hq1110⟩
  refine ⟨_, rfl, ?_⟩
  replace hSL := hSL.ext hq1110.ext
  replace hO3 := hO3.ext hq1110.ext
  replace hb13 := hb13.ext hq1110.ext
  replace hE := hE.trans hq1110.ext
  refine vl (Gives.not rfl rfl) ?_
  refine vU ?_
  refine vn (hK13 _ _ ?_)
  refine Wc.condF rfl (by simp) ?_
  refine Wc.skip ?_
  refine Wx.thenN (hK12 _ _ ?_)
  refine vs fun K14 hK14 => vR [(9, _), (13, _)] ?_
  refine vM ?_
  refine Wl.call rfl rfl rfl rfl Tryd.func22 rfl (by kernel_rfl) rfl (parseLP _ S3 m3 k3 _ (hO3.bv (P := fun _ => True) fun _ _ => trivial)) ?_
  rintro x10 w131 ⟨S5, m5, k5, rfl, hS5, hx131⟩
  refine ⟨_, rfl, ?_⟩
  rw [par_fmt hlo (by omega)] at hS5 ⊢
  replace hSL := (hSL.ext hx131).bd
  replace hS5 := hS5.bd
  replace hb13 := hb13.ext hx131
  replace hE := hE.trans hx131
  refine vM ?_
  refine vl (Gives.extract rfl rfl rfl) ?_
  refine vl (Gives.extract rfl rfl rfl) ?_
  refine Wl.does rfl rfl rfl (Does.alB (.agg #[(.int .i64 0), (.int .i64 0), (.slice none 0 0)]) rfl (by kernel_rfl) rfl) ?_
  rintro _ w13_5 ⟨b14, rfl, hs14, hb14, hx13_5⟩
  have hn13_14 : b13 ≠ b14 := hb13.ne hs14
  have hg14 : w.heap.size ≤ b14 := Nat.le_trans hE.size hs14
  replace hb13 := hb13.ext hx13_5
  replace hE := hE.trans hx13_5
  refine Wl.acts rfl rfl (Does.stL 3 rfl rfl rfl hb14 (by kernel_rfl) rfl rfl rfl) ?_
  rintro _ w13_6 ⟨hbn, hF13_6⟩
  replace hb13 := hb13.frA hF13_6
  replace hE := Ext.over hE hF13_6 hg14
  replace hb14 := hbn
  clear hbn
  replace hSL := (hSL.ext hx13_5).fr (hF13_6.mono fun q hq => by omega)
  replace hS5 := (hS5.ext hx13_5).fr (hF13_6.mono fun q hq => by omega)
  refine vA ?_
  refine vn (hK14 _ _ ?_)
  refine vs fun K15 hK15 => vR [(13, _), (14, _), (15, _)] ?_
  refine vM ?_
  refine vl (Gives.eql rfl rfl rfl) ?_
  refine vM ?_
  refine Wl.guardT rfl rfl rfl rfl ?_
  refine vl (Gives.ldW rfl (by kernel_rfl) rfl hb13 (by kernel_rfl)) ?_
  refine vl (Gives.ldW rfl (by kernel_rfl) rfl hb14 (by kernel_rfl)) ?_
  refine Wl.call rfl rfl rfl rfl Tryd.func29 rfl (by kernel_rfl) rfl (sameLg _ _ _ _ _ S S5 _ _ _ _ _ _ hSL hS5) ?_
  rintro x11 w145 ⟨rfl, hx145⟩
  refine ⟨_, rfl, ?_⟩
  replace hb13 := hb13.ext hx145
  replace hb14 := hb14.ext hx145
  replace hE := hE.trans hx145
  refine vT ?_
  refine vA ?_
  refine vn (hK15 _ _ ?_)
  refine Wc.ret ?_
  refine Wx.ret [_] ⟨rfl, trivial⟩ ?_
  exact ⟨ret_bool (by simp), hE⟩
end Go.Proofs.YtnbgieccindpnaaDoor
