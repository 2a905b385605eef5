/- LogO: merged. -/
import Derived.Test.YtnbgieccindpnaaDoorLogM
/- Logs: Format of both. -/
namespace Go.Proofs.YtnbgieccindpnaaDoor
set_option linter.all false
set_option maxRecDepth 20000
open Go.RowKit
def firstE (act : Int) : List Ev → Int
  | [] => 0
  | x :: r => if evE x act ≠ 0 then evE x act else firstE act r
theorem first_bad {act : Int} {x : Ev} {r : List Ev} (h : ¬ evE x act = 0) : firstE act (x :: r) = evE x act := by show (if evE x act ≠ 0 then evE x act else firstE act r) = _; rw [if_pos h]
theorem first_go {act : Int} {x : Ev} {r : List Ev} (h : evE x act = 0) : firstE act (x :: r) = firstE act r := by show (if evE x act ≠ 0 then evE x act else firstE act r) = _; rw [if_neg (by simp [h])]
theorem first_ok {act : Int} : ∀ {l : List Ev}, firstE act l = 0 ↔ ∀ x ∈ l, evE x act = 0
  | [] => by simp [firstE]
  | x :: r => by
    by_cases h : evE x act = 0
    · rw [first_go h, first_ok]
      constructor
      · intro h2 y hy
        rcases List.mem_cons.1 hy with rfl | hy
        · exact h
        · exact h2 y hy
      · exact fun h2 y hy => h2 y (List.mem_cons_of_mem _ hy)
    · rw [first_bad h]
      exact ⟨fun h2 => absurd h2 h, fun h2 => h2 x (List.mem_cons_self ..)⟩
def fmtS (L : Lg) : List UInt8 × Int := if ¬ rngH L.active L.resets then ([], 1) else if firstE L.active L.events ≠ 0 then ([], firstE L.active L.events) else if 40 < L.events.length then ([], 25) else if 8192 < (lgB L).length then ([], 4) else (lgB L, 0)
theorem fmt_1 {L : Lg} (h : ¬ rngH L.active L.resets) : fmtS L = ([], 1) := by unfold fmtS; rw [if_pos h]
theorem fmt_e {L : Lg} (h : rngH L.active L.resets) (h2 : ¬ firstE L.active L.events = 0) : fmtS L = ([], firstE L.active L.events) := by unfold fmtS; rw [if_neg (fun q => q h), if_pos h2]
theorem fmt_25 {L : Lg} (h : rngH L.active L.resets) (h2 : firstE L.active L.events = 0) (h3 : 40 < L.events.length) : fmtS L = ([], 25) := by unfold fmtS; rw [if_neg (fun q => q h), if_neg (by simp [h2]), if_pos h3]
theorem fmt_4 {L : Lg} (h : rngH L.active L.resets) (h2 : firstE L.active L.events = 0) (h3 : ¬ 40 < L.events.length) (h4 : 8192 < (lgB L).length) : fmtS L = ([], 4) := by unfold fmtS; rw [if_neg (fun q => q h), if_neg (by simp [h2]), if_neg h3, if_pos h4]
theorem fmt_0 {L : Lg} (h : rngH L.active L.resets) (h2 : firstE L.active L.events = 0) (h3 : ¬ 40 < L.events.length) (h4 : ¬ 8192 < (lgB L).length) : fmtS L = (lgB L, 0) := by unfold fmtS; rw [if_neg (fun q => q h), if_neg (by simp [h2]), if_neg h3, if_neg h4]
/-- a log is written just when it is well formed and short -/
theorem fmt_ok {L : Lg} (h : lgOk L) (hl : (lgB L).length ≤ 8192) : fmtS L = (lgB L, 0) := fmt_0 h.1 (first_ok.2 h.2.1) (by have := h.2.2; omega) (by omega)
theorem body_rs0 {act : Int} : ∀ (f : Nat) (acc : List Ev) (rs : List UInt8) {acc' : List Ev} {rs' : List UInt8}, acc.length + f = 41 → acc.length ≤ 40 → bodyS act f acc rs = (acc', rs', 0) → rs' = [] ∧ acc'.length ≤ 40
  | 0, acc, rs, acc', rs', h1, h2, h => by omega
  | f + 1, acc, rs, acc', rs', h1, h2, h => by
    unfold bodyS at h
    split at h
    · rename_i hn
      simp only [Prod.mk.injEq] at h
      obtain ⟨rfl, rfl, _⟩ := h
      exact ⟨hn, h2⟩
    · split at h
      · simp only [Prod.mk.injEq] at h
        exact absurd h.2.2 (by decide)
      · split at h
        · simp only [Prod.mk.injEq] at h
          exact absurd h.2.2 (by decide)
        · split at h
          · exact body_rs0 f _ _ (by rw [List.length_append, List.length_singleton]; omega) (by rw [List.length_append, List.length_singleton]; omega) h
          · simp only [Prod.mk.injEq] at h
            exact absurd h.2.2 (by decide)
/-- what is read is written again as it was -/
theorem par_lg {b : List UInt8} (h : (parS b).2 = 0) : lgOk (parS b).1 ∧ lgB (parS b).1 = b := by
  have hl := par_len h
  by_cases h2 : (scanS b).2.2 = 0
  · rw [par_0 (by omega) h2]
    by_cases hk : hOk b
    · obtain ⟨⟨acc, rs, er⟩, hR⟩ : ∃ q, bodyS (lh1 b).2 41 [] (b.drop 11) = q := ⟨_, rfl⟩
      have hsc := scan_y hk hR
      rw [hsc] at h2 ⊢
      have her : er = 0 := h2
      subst her
      obtain ⟨hrs, hal⟩ := body_rs0 41 [] (b.drop 11) rfl (by decide) hR
      obtain ⟨l, h3, h4, h5⟩ := body_inv 41 [] (b.drop 11) hR
      rw [List.nil_append] at h3
      subst h3
      subst hrs
      rw [List.append_nil] at h4
      have hb := head_bwd hk
      rw [(head_drop hk).1, h4] at hb
      exact ⟨⟨hk.2.2, h5, hal⟩, hb.symm⟩
    · rw [scan_n hk] at h2; cases h2
  · rw [par_e (by omega) h2] at h; exact absurd h h2
theorem fmt_par {b : List UInt8} (h : (parS b).2 = 0) : fmtS (parS b).1 = (b, 0) := by
  obtain ⟨h1, h2⟩ := par_lg h
  have hl := par_len h
  rw [fmt_ok h1 (by rw [h2]; exact hl), h2]
def LFmtR (w : World) (L : Lg) (e : Ending) (w' : World) : Prop := ∃ S m k, e = .returned (.tuple #[.slice S m k, .int .i64 (fmtS L).2]) ∧ OB w' w.heap.size 5 S m k (fmtS L).1 ∧ Ext w w'
theorem LFmtR.no {w w' : World} {L : Lg} {z : Int} (h : fmtS L = ([], z)) (hE : Ext w w') : LFmtR w L (.returned (resV [.slice none 0 0, .int .i64 z])) w' := by
  unfold LFmtR
  rw [h]
  exact ⟨none, 0, 0, rfl, OB.nil_ _ _ _, hE⟩
theorem evT_snoc {l : List Ev} {i : Nat} {x : Ev} (h : l[i]? = some x) : evT (l.take (i + 1)) = evT (l.take i) ++ blobT (evB x) := by
  rw [← take_ev h, evT_app]
  simp [evT]
theorem drop_ev {l : List Ev} {i : Nat} {x : Ev} (h : l[i]? = some x) : l.drop i = x :: l.drop (i + 1) := by
  obtain ⟨hi, hx⟩ := List.getElem?_eq_some_iff.1 h
  rw [List.drop_eq_getElem_cons hi, hx]
theorem blobs_len (b : List UInt8) (x : Ev) : (blobS b (evB x)).length ≤ b.length + 138 := by
  have := evB_le x
  rw [blobS_eq _ _ (by omega), List.length_append, blobT_len]; omega
set_option maxRecDepth 20000 in
set_option maxHeartbeats 2000000 in
theorem fmtP {P : Nat → Prop} (w : World) (act rs : Int) (A : Option Addr) (n c : Nat) (l : List Ev) (hl : SL Rp.evt w P A n c l) :
    Calls Tryd.prog 17 #[.agg #[.int .i64 act, .int .i64 rs, .slice A n c]] w (LFmtR w ⟨act, rs, l⟩) := by
  have hln := hl.len
  have hle := hl.le
  refine calls_enter Tryd.func17 rfl Tryd.ntmps17 rfl ?_
  have hE : Ext w w := Ext.refl w
  refine vs fun K1 hK1 => vR [(0, _)] ?_
  refine Wl.does rfl rfl rfl (Does.boxA rfl rfl) ?_
  rintro _ w0_0 ⟨b1, rfl, hs1, hb1, hx0_0⟩
  have hg1 : w.heap.size ≤ b1 := Nat.le_trans hE.size hs1
  replace hE := hE.trans hx0_0
  refine vA ?_
  refine vA ?_
  refine vn (hK1 _ _ ?_)
  refine vs fun K2 hK2 => vR [(1, _)] ?_
  refine vF 0 Tryd.underlying30 ?_
  refine vL hb1 ?_
  refine vF 1 Tryd.underlying30 ?_
  refine vL hb1 ?_
  refine Wl.call rfl rfl rfl rfl Tryd.func14 rfl (by kernel_rfl) rfl (headP _ act rs) ?_
  rintro x1 w14 ⟨S0, m0, k0, rfl, hO, hx14⟩
  refine ⟨_, rfl, ?_⟩
  have hm0 := hO.len
  have hzE := hE.size
  replace hO := hO.mono hzE
  replace hb1 := hb1.ext hx14
  replace hE := hE.trans hx14
  refine vA ?_
  refine vn (hK2 _ _ ?_)
  refine Wc.seq (fun K3 hK3 => ?_)
  refine vs fun K4 hK4 => vR [(1, _), (4, _)] ?_
  refine vM ?_
  refine vl (Gives.lenS rfl Tryd.underlying22 rfl) ?_
  refine vl (Gives.eql rfl rfl rfl) ?_
  refine vn (hK4 _ _ ?_)
  refine Wc.cond _ rfl (fun h17 => ?_) (fun h17 => ?_)
  · first | replace h17 := dT h17 | replace h17 := nT h17 | skip
    refine vs fun K5 hK5 => vR [] ?_
    refine vA ?_
    refine vA ?_
    refine vn (hK5 _ _ ?_)
    refine Wc.ret ?_
    refine Wx.thenR ?_
    refine Wx.ret [_, _] ⟨rfl, ⟨rfl, trivial⟩⟩ ?_
    exact LFmtR.no (fmt_1 (fun (h : rngH act rs) => by have := hdS_len h; omega)) hE
  first | replace h17 := dF h17 | replace h17 := nF h17 | skip
  refine Wc.skip ?_
  refine Wx.thenN (hK3 _ _ ?_)
  refine Wc.seq (fun K6 hK6 => ?_)
  refine vs fun K7 hK7 => vK [(1, _), (4, _)] ?_
  have hr : rngH act rs := hdS_pos (by omega)
  refine Wc.region ?_
  refine vF 2 Tryd.underlying30 ?_
  refine vL hb1 ?_
  refine vl (Gives.lenS rfl Tryd.underlying28 rfl) ?_
  refine vM ?_
  refine vn (hK7 _ _ ?_)
  refine Wc.block ?_
  refine vK [(1, _), (4, _), (19, _), (20, _), (21, _)] ?_
  refine Wc.loopC (ι := Nat) [(1, _), (4, _), (19, _), (20, _)] (fun i => [(21, .int .i64 (i : Int))]) (fun i wr => i ≤ n ∧ firstE act l = firstE act (l.drop i) ∧ OB wr w.heap.size 5 S0 m0 k0 (hdS act rs) ∧ Blk wr b1 30 #[.int .i64 act, .int .i64 rs, .slice A n c] ∧ Ext w wr) (fun i => n - i) (0) (.co (.cons rfl (.cons rfl (.cons rfl (.cons rfl (.nil)))))) (⟨by omega, rfl, hO, hb1, hE⟩) ?_
  intro i wr hJ KL1 hKL1
  clear hE hb1 hO
  obtain ⟨hi, hfi, hO, hb1, hE⟩ := hJ
  refine vs fun K8 hK8 => vR [(1, _), (4, _), (19, _), (20, _), (21, _)] ?_
  refine vl (Gives.lss rfl rfl rfl) ?_
  refine vn (hK8 _ _ ?_)
  refine Wc.seq (fun K9 hK9 => ?_)
  refine Wc.cond _ rfl (fun h22 => ?_) (fun h22 => ?_)
  · first | replace h22 := dT h22 | replace h22 := nT h22 | skip
    refine Wc.skip ?_
    refine Wx.thenN (hK9 _ _ ?_)
    refine Wc.seq (fun K10 hK10 => ?_)
    refine Wc.block ?_
    refine vs fun K11 hK11 => vK [(1, _), (4, _), (19, _), (20, _), (21, _)] ?_
    obtain ⟨xb, xo, hxA, hbw, x, r, hz, hr0, hv⟩ := EL.at_ (hl.ext hE) (show i < n by omega)
    subst hxA
    rw [drop_ev hz] at hfi
    refine Wc.region ?_
    refine vl (Gives.ixSZ (i := i) (sz := 4) rfl Tryd.underlying28 (by kernel_rfl) rfl rfl rfl (by omega)) ?_
    refine vl (Gives.ldM rfl (by kernel_rfl) rfl hr0 (by kernel_rfl)) ?_
    refine Wl.does rfl rfl rfl (Does.alB (.agg #[(.int .i64 0), (.int .i64 0), (.slice none 0 0), (.slice none 0 0)]) rfl (by kernel_rfl) rfl) ?_
    rintro _ w6_2 ⟨b6, rfl, hs6, hb6, hx6_2⟩
    have hn1_6 : b1 ≠ b6 := hb1.ne hs6
    have hg6 : w.heap.size ≤ b6 := Nat.le_trans hE.size hs6
    replace hb1 := hb1.ext hx6_2
    replace hE := hE.trans hx6_2
    refine Wl.acts rfl rfl (Does.stL 4 rfl rfl rfl hb6 (by kernel_rfl) rfl rfl rfl) ?_
    rintro _ w6_3 ⟨hbn, hF6_3⟩
    replace hb1 := hb1.frA hF6_3
    replace hE := Ext.over hE hF6_3 hg6
    replace hb6 := hbn
    clear hbn
    have hx6 := Ext.over hx6_2 hF6_3 hs6
    replace hO := hO.ext hx6
    replace hv := hv.ext hx6
    refine vn (hK11 _ _ ?_)
    refine vs fun K12 hK12 => vR [(1, _), (4, _), (6, _), (19, _), (20, _), (21, _)] ?_
    refine vl (Gives.ldW rfl (by kernel_rfl) rfl hb6 (by kernel_rfl)) ?_
    refine vF 0 Tryd.underlying30 ?_
    refine vL hb1 ?_
    refine Wl.call rfl rfl rfl rfl Tryd.func39 rfl (by kernel_rfl) rfl (evCheckP _ x.reg x.kind r.D r.dn r.dc x.ds r.S r.m r.d x.pay hv.1 hv.2 act) ?_
    rintro x2 w73 ⟨rfl, hx73⟩
    refine ⟨_, rfl, ?_⟩
    replace hO := hO.ext hx73
    replace hb1 := hb1.ext hx73
    replace hb6 := hb6.ext hx73
    replace hE := hE.trans hx73
    refine vA ?_
    refine vn (hK12 _ _ ?_)
    refine vs fun K13 hK13 => vR [(1, _), (4, _), (7, _), (19, _), (20, _), (21, _)] ?_
    refine vM ?_
    refine vl (Gives.neq rfl rfl rfl) ?_
    refine vn (hK13 _ _ ?_)
    refine Wc.cond _ rfl (fun h29 => ?_) (fun h29 => ?_)
    · first | replace h29 := dT h29 | replace h29 := nT h29 | skip
      refine vs fun K14 hK14 => vR [(7, _)] ?_
      refine vM ?_
      refine vA ?_
      refine vA ?_
      refine vn (hK14 _ _ ?_)
      refine Wc.ret ?_
      refine Wx.blockR ?_
      refine Wx.thenR ?_
      refine Wx.thenR ?_
      refine Wx.blockR ?_
      refine Wx.thenR ?_
      refine Wx.ret [_, _] ⟨rfl, ⟨rfl, trivial⟩⟩ ?_
      have hb := (hfi.trans (first_bad h29))
      exact LFmtR.no (by rw [fmt_e hr (by show ¬ firstE act l = 0; rw [hb]; exact h29)]; exact congrArg (Prod.mk []) hb) hE
    first | replace h29 := dF h29 | replace h29 := nF h29 | skip
    refine Wc.skip ?_
    refine Wx.blockN ?_
    refine Wx.thenN (hK10 _ _ ?_)
    refine vR [(1, _), (4, _), (19, _), (20, _), (21, _)] ?_
    refine vAdd ?_
    refine vM ?_
    refine Wl.nil ?_
    refine Wx.thenN ?_
    exact hKL1 (i + 1) _ _ (.co (.cons rfl (.cons rfl (.cons rfl (.cons rfl (.nil)))))) ⟨by omega, by rw [hfi]; exact first_go h29, hO, hb1, hE⟩ (by show n - (i + 1) < n - i; omega)
  first | replace h22 := dF h22 | replace h22 := nF h22 | skip
  refine Wc.exit ?_
  refine Wx.thenE ?_
  refine Wx.thenE ?_
  refine Wx.hit ?_
  refine Wx.thenN (hK6 _ _ ?_)
  refine Wc.seq (fun K15 hK15 => ?_)
  refine vs fun K16 hK16 => vK [(1, _), (4, _)] ?_
  have hf0 : firstE act l = 0 := by rw [hfi, List.drop_eq_nil_of_le (by omega)]; rfl
  have hok := first_ok.1 hf0
  clear hfi hi
  refine Wc.region ?_
  refine vF 2 Tryd.underlying30 ?_
  refine vL hb1 ?_
  refine vl (Gives.lenS rfl Tryd.underlying28 rfl) ?_
  refine vl (Gives.gtr rfl rfl rfl) ?_
  refine vn (hK16 _ _ ?_)
  refine Wc.cond _ rfl (fun h36 => ?_) (fun h36 => ?_)
  · first | replace h36 := dT h36 | replace h36 := nT h36 | skip
    refine vs fun K17 hK17 => vR [] ?_
    refine vA ?_
    refine vA ?_
    refine vn (hK17 _ _ ?_)
    refine Wc.ret ?_
    refine Wx.thenR ?_
    refine Wx.ret [_, _] ⟨rfl, ⟨rfl, trivial⟩⟩ ?_
    exact LFmtR.no (fmt_25 hr hf0 (by show 40 < l.length; omega)) hE
  first | replace h36 := dF h36 | replace h36 := nF h36 | skip
  refine Wc.skip ?_
  refine Wx.thenN (hK15 _ _ ?_)
  refine Wc.seq (fun K18 hK18 => ?_)
  refine vs fun K19 hK19 => vR [(1, _), (4, _)] ?_
  refine vF 2 Tryd.underlying30 ?_
  refine vL hb1 ?_
  refine vl (Gives.lenS rfl Tryd.underlying28 rfl) ?_
  refine vM ?_
  refine vn (hK19 _ _ ?_)
  refine Wc.block ?_
  refine vK [(4, _), (38, _), (39, _), (40, _)] ?_
  refine Wc.loopC (ι := Nat × Option Addr × Nat × Nat) [(38, _), (39, _)] (fun | (i, S, m, k) => [(40, .int .i64 (i : Int)), (4, .slice S m k)]) (fun | (i, S, m, k), wr => i ≤ n ∧ m ≤ 11 + 138 * i ∧ OB wr w.heap.size 5 S m k (hdS act rs ++ evT (l.take i)) ∧ Blk wr b1 30 #[.int .i64 act, .int .i64 rs, .slice A n c] ∧ Ext w wr) (fun | (i, _) => n - i) ((0, S0, m0, k0)) (.co (.co (.cons rfl (.cons rfl (.nil))))) (⟨by omega, by have := hdS_le act rs; omega, by rw [List.take_zero]; simpa [evT] using hO, hb1, hE⟩) ?_
  intro ⟨i, S, m, k⟩ wr2 hJ KL2 hKL2
  clear hE hb1 hO
  obtain ⟨hi, hmi, hO, hb1, hE⟩ := hJ
  refine vs fun K20 hK20 => vR [(4, _), (38, _), (39, _), (40, _)] ?_
  refine vl (Gives.lss rfl rfl rfl) ?_
  refine vn (hK20 _ _ ?_)
  refine Wc.seq (fun K21 hK21 => ?_)
  refine Wc.cond _ rfl (fun h41 => ?_) (fun h41 => ?_)
  · first | replace h41 := dT h41 | replace h41 := nT h41 | skip
    refine Wc.skip ?_
    refine Wx.thenN (hK21 _ _ ?_)
    refine Wc.seq (fun K22 hK22 => ?_)
    refine Wc.block ?_
    refine vs fun K23 hK23 => vK [(4, _), (38, _), (39, _), (40, _)] ?_
    obtain ⟨xb, xo, hxA, hbw, x, r, hz, hr0, hv⟩ := EL.at_ (hl.ext hE) (show i < n by omega)
    subst hxA
    have hxe := hok x (List.mem_of_getElem? hz)
    refine Wc.region ?_
    refine vl (Gives.ixSZ (i := i) (sz := 4) rfl Tryd.underlying28 (by kernel_rfl) rfl rfl rfl (by omega)) ?_
    refine vl (Gives.ldM rfl (by kernel_rfl) rfl hr0 (by kernel_rfl)) ?_
    refine Wl.does rfl rfl rfl (Does.alB (.agg #[(.int .i64 0), (.int .i64 0), (.slice none 0 0), (.slice none 0 0)]) rfl (by kernel_rfl) rfl) ?_
    rintro _ w15_2 ⟨b9, rfl, hs9, hb9, hx15_2⟩
    have hn1_9 : b1 ≠ b9 := hb1.ne hs9
    have hg9 : w.heap.size ≤ b9 := Nat.le_trans hE.size hs9
    replace hb1 := hb1.ext hx15_2
    replace hE := hE.trans hx15_2
    refine Wl.acts rfl rfl (Does.stL 4 rfl rfl rfl hb9 (by kernel_rfl) rfl rfl rfl) ?_
    rintro _ w15_3 ⟨hbn, hF15_3⟩
    replace hb1 := hb1.frA hF15_3
    replace hE := Ext.over hE hF15_3 hg9
    replace hb9 := hbn
    clear hbn
    have hx15 := Ext.over hx15_2 hF15_3 hs9
    replace hO := hO.ext hx15
    replace hv := hv.ext hx15
    refine vn (hK23 _ _ ?_)
    refine vR [(4, _), (9, _), (38, _), (39, _), (40, _)] ?_
    refine vM ?_
    refine vl (Gives.ldW rfl (by kernel_rfl) rfl hb9 (by kernel_rfl)) ?_
    refine Wl.call rfl rfl rfl rfl Tryd.func41 rfl (by kernel_rfl) rfl (evEncP _ x.reg x.kind r.D r.dn r.dc x.ds r.S r.m r.d x.pay hv.1 hv.2) ?_
    rintro x3 w162 ⟨S3, m3, k3, rfl, hO3, hx162⟩
    refine ⟨_, rfl, ?_⟩
    have hm3 := hO3.len
    have hm3' := evB_le x
    have hm3e : (evB x).length = m3 := hm3
    replace hO := hO.ext hx162
    replace hb1 := hb1.ext hx162
    replace hb9 := hb9.ext hx162
    replace hE := hE.trans hx162
    refine Wl.call rfl rfl rfl rfl Tryd.func40 rfl (by kernel_rfl) rfl (blob_calls _ S m k _ (hO.bv (P := fun _ => True) fun _ _ => trivial) (by omega) S3 m3 k3 (evB x) (hO3.bv (P := fun _ => True) fun _ _ => trivial) (by omega)) ?_
    rintro x4 w163 ⟨S4, m4, k4, rfl, hO4, hx163⟩
    refine ⟨_, rfl, ?_⟩
    have hm4 := hO4.len
    have hm4' := blobs_len (hdS act rs ++ evT (l.take i)) x
    have hml := hO.len
    have hzE2 := hE.size
    replace hO4 := hO4.mono hzE2
    replace hb1 := hb1.ext hx163
    replace hb9 := hb9.ext hx163
    replace hE := hE.trans hx163
    refine vA ?_
    refine Wl.nil ?_
    refine Wx.blockN ?_
    refine Wx.thenN (hK22 _ _ ?_)
    refine vR [(4, _), (38, _), (39, _), (40, _)] ?_
    refine vAdd ?_
    refine vM ?_
    refine Wl.nil ?_
    refine Wx.thenN ?_
    exact hKL2 (i + 1, S4, m4, k4) _ _ (.co (.co (.cons rfl (.cons rfl (.nil))))) ⟨by omega, by omega, by rw [evT_snoc hz, ← List.append_assoc, ← blobS_eq _ _ (by omega)]; exact hO4, hb1, hE⟩ (by show n - (i + 1) < n - i; omega)
  first | replace h41 := dF h41 | replace h41 := nF h41 | skip
  refine Wc.exit ?_
  refine Wx.thenE ?_
  refine Wx.thenE ?_
  refine Wx.hit ?_
  refine Wx.thenN (hK18 _ _ ?_)
  refine Wc.seq (fun K24 hK24 => ?_)
  refine vs fun K25 hK25 => vK [(4, _)] ?_
  obtain rfl : i = n := by omega
  rw [List.take_of_length_le (by omega)] at hO
  have hml := hO.len
  have hlg : (lgB ⟨act, rs, l⟩).length = m := hml
  refine Wc.region ?_
  refine vM ?_
  refine vl (Gives.lenS rfl Tryd.underlying22 rfl) ?_
  refine vl (Gives.gtr rfl rfl rfl) ?_
  refine vn (hK25 _ _ ?_)
  refine Wc.cond _ rfl (fun h51 => ?_) (fun h51 => ?_)
  · first | replace h51 := dT h51 | replace h51 := nT h51 | skip
    refine vs fun K26 hK26 => vR [] ?_
    refine vA ?_
    refine vA ?_
    refine vn (hK26 _ _ ?_)
    refine Wc.ret ?_
    refine Wx.thenR ?_
    refine Wx.ret [_, _] ⟨rfl, ⟨rfl, trivial⟩⟩ ?_
    exact LFmtR.no (fmt_4 hr hf0 (by show ¬ 40 < l.length; omega) (by omega)) hE
  first | replace h51 := dF h51 | replace h51 := nF h51 | skip
  refine Wc.skip ?_
  refine Wx.thenN (hK24 _ _ ?_)
  refine vs fun K27 hK27 => vR [(4, _)] ?_
  refine vM ?_
  refine vA ?_
  refine vA ?_
  refine vn (hK27 _ _ ?_)
  refine Wc.ret ?_
  refine Wx.ret [_, _] ⟨rfl, ⟨rfl, trivial⟩⟩ ?_
  unfold LFmtR
  rw [fmt_0 hr hf0 (by show ¬ 40 < l.length; omega) (by omega)]
  exact ⟨S, m, k, rfl, hO, hE⟩
set_option maxRecDepth 20000 in
set_option maxHeartbeats 2000000 in
theorem fmtQ {P : Nat → Prop} (w : World) (act rs : Int) (A : Option Addr) (n c : Nat) (l : List Ev) (hl : SL Rp.evt w P A n c l) :
    Calls Tryd.prog 31 #[.agg #[.int .i64 act, .int .i64 rs, .slice A n c]] w (LFmtR w ⟨act, rs, l⟩) := by
  have hln := hl.len
  have hle := hl.le
  refine calls_enter Tryd.func31 rfl Tryd.ntmps31 rfl ?_
  have hE : Ext w w := Ext.refl w
  refine vs fun K1 hK1 => vR [(0, _)] ?_
  refine Wl.does rfl rfl rfl (Does.boxA rfl rfl) ?_
  rintro _ w0_0 ⟨b1, rfl, hs1, hb1, hx0_0⟩
  have hg1 : w.heap.size ≤ b1 := Nat.le_trans hE.size hs1
  replace hE := hE.trans hx0_0
  refine vA ?_
  refine vA ?_
  refine vn (hK1 _ _ ?_)
  refine vs fun K2 hK2 => vR [(1, _)] ?_
  refine vF 0 Tryd.underlying30 ?_
  refine vL hb1 ?_
  refine vF 1 Tryd.underlying30 ?_
  refine vL hb1 ?_
  refine Wl.call rfl rfl rfl rfl Tryd.func24 rfl (by kernel_rfl) rfl (headR _ act rs) ?_
  rintro x1 w14 ⟨S0, m0, k0, rfl, hO, hx14⟩
  refine ⟨_, rfl, ?_⟩
  have hm0 := hO.len
  have hzE := hE.size
  replace hO := hO.mono hzE
  replace hb1 := hb1.ext hx14
  replace hE := hE.trans hx14
  refine vA ?_
  refine vn (hK2 _ _ ?_)
  refine Wc.seq (fun K3 hK3 => ?_)
  refine vs fun K4 hK4 => vR [(1, _), (4, _)] ?_
  refine vM ?_
  refine vl (Gives.lenS rfl Tryd.underlying22 rfl) ?_
  refine vl (Gives.eql rfl rfl rfl) ?_
  refine vn (hK4 _ _ ?_)
  refine Wc.cond _ rfl (fun h17 => ?_) (fun h17 => ?_)
  · first | replace h17 := dT h17 | replace h17 := nT h17 | skip
    refine vs fun K5 hK5 => vR [] ?_
    refine vA ?_
    refine vA ?_
    refine vn (hK5 _ _ ?_)
    refine Wc.ret ?_
    refine Wx.thenR ?_
    refine Wx.ret [_, _] ⟨rfl, ⟨rfl, trivial⟩⟩ ?_
    exact LFmtR.no (fmt_1 (fun (h : rngH act rs) => by have := hdS_len h; omega)) hE
  first | replace h17 := dF h17 | replace h17 := nF h17 | skip
  refine Wc.skip ?_
  refine Wx.thenN (hK3 _ _ ?_)
  refine Wc.seq (fun K6 hK6 => ?_)
  refine vs fun K7 hK7 => vK [(1, _), (4, _)] ?_
  have hr : rngH act rs := hdS_pos (by omega)
  refine Wc.region ?_
  refine vA ?_
  refine vn (hK7 _ _ ?_)
  refine Wc.block ?_
  refine vK [(1, _), (4, _), (5, _)] ?_
  refine Wc.loopC (ι := Nat) [(1, _), (4, _)] (fun i => [(5, .int .i64 (i : Int))]) (fun i wr => i ≤ n ∧ firstE act l = firstE act (l.drop i) ∧ OB wr w.heap.size 5 S0 m0 k0 (hdS act rs) ∧ Blk wr b1 30 #[.int .i64 act, .int .i64 rs, .slice A n c] ∧ Ext w wr) (fun i => n - i) (0) (.co (.cons rfl (.cons rfl (.nil)))) (⟨by omega, rfl, hO, hb1, hE⟩) ?_
  intro i wr hJ KL1 hKL1
  clear hE hb1 hO
  obtain ⟨hi, hfi, hO, hb1, hE⟩ := hJ
  refine Wc.seq (fun K8 hK8 => ?_)
  refine vs fun K9 hK9 => vR [(1, _), (4, _), (5, _)] ?_
  refine vM ?_
  refine vF 2 Tryd.underlying30 ?_
  refine vL hb1 ?_
  refine vl (Gives.lenS rfl Tryd.underlying28 rfl) ?_
  refine vl (Gives.lss rfl rfl rfl) ?_
  refine vn (hK9 _ _ ?_)
  refine Wc.cond _ rfl (fun h22 => ?_) (fun h22 => ?_)
  · first | replace h22 := dT h22 | replace h22 := nT h22 | skip
    refine Wc.skip ?_
    refine Wx.thenN (hK8 _ _ ?_)
    refine Wc.seq (fun K10 hK10 => ?_)
    refine Wc.block ?_
    refine vs fun K11 hK11 => vK [(1, _), (4, _), (5, _)] ?_
    refine Wc.regionD (fun _ => true) Eq (.read 0 (.read 1 (.read 2 (.read 3 (.read 4 (.read 5 (.read 6 .tail))))))) 7 (by kernel_rfl) (by kernel_rfl) (by kernel_rfl) (fun _ => rfl) (fun _ _ _ h k => h.trans k) Quiet ⟨1, rfl⟩ ?_
    intro w7 hR7
    replace hb1 := hb1.ext hR7.ext
    replace hE := hE.trans hR7.ext
    replace hO := hO.ext hR7.ext
    obtain ⟨xb, xo, hxA, hbw, x, r, hz, hr0, hv⟩ := EL.at_ (hl.ext hE) (show i < n by omega)
    subst hxA
    rw [drop_ev hz] at hfi
    refine rE rfl (Gives.fieldAt 2 rfl Tryd.underlying30 rfl (by kernel_rfl) rfl rfl) ?_
    refine rE rfl (Gives.ldK rfl (by kernel_rfl) rfl hb1 rfl) ?_
    refine rE rfl (Gives.move rfl rfl) ?_
    refine rE rfl (Gives.ixSZ (i := i) (sz := 4) rfl Tryd.underlying28 (by kernel_rfl) rfl rfl rfl (by omega)) ?_
    refine rE rfl (Gives.ldM rfl (by kernel_rfl) rfl hr0 (by kernel_rfl)) ?_
    refine rE rfl (Gives.fieldAt 0 rfl Tryd.underlying30 rfl (by kernel_rfl) rfl rfl) ?_
    refine rE rfl (Gives.ldK rfl (by kernel_rfl) rfl hb1 rfl) ?_
    refine RunE.tail rfl ?_
    refine Wl.call rfl rfl rfl rfl Tryd.func50 rfl (by kernel_rfl) rfl (evCheckR _ x.reg x.kind r.D r.dn r.dc x.ds r.S r.m r.d x.pay hv.1 hv.2 act) ?_
    rintro x2 w77 ⟨rfl, hx77⟩
    refine ⟨_, rfl, ?_⟩
    replace hO := hO.ext hx77
    replace hb1 := hb1.ext hx77
    replace hE := hE.trans hx77
    refine vA ?_
    refine vn (hK11 _ _ ?_)
    refine vs fun K12 hK12 => vR [(1, _), (4, _), (5, _), (6, _)] ?_
    refine vM ?_
    refine vl (Gives.neq rfl rfl rfl) ?_
    refine vn (hK12 _ _ ?_)
    refine Wc.cond _ rfl (fun h29 => ?_) (fun h29 => ?_)
    · first | replace h29 := dT h29 | replace h29 := nT h29 | skip
      refine vs fun K13 hK13 => vR [(6, _)] ?_
      refine vM ?_
      refine vA ?_
      refine vA ?_
      refine vn (hK13 _ _ ?_)
      refine Wc.ret ?_
      refine Wx.blockR ?_
      refine Wx.thenR ?_
      refine Wx.thenR ?_
      refine Wx.blockR ?_
      refine Wx.thenR ?_
      refine Wx.ret [_, _] ⟨rfl, ⟨rfl, trivial⟩⟩ ?_
      have hb := (hfi.trans (first_bad h29))
      exact LFmtR.no (by rw [fmt_e hr (by show ¬ firstE act l = 0; rw [hb]; exact h29)]; exact congrArg (Prod.mk []) hb) hE
    first | replace h29 := dF h29 | replace h29 := nF h29 | skip
    refine Wc.skip ?_
    refine Wx.blockN ?_
    refine Wx.thenN (hK10 _ _ ?_)
    refine vR [(1, _), (4, _), (5, _)] ?_
    refine vM ?_
    refine vAdd ?_
    refine vA ?_
    refine Wl.nil ?_
    refine Wx.thenN ?_
    exact hKL1 (i + 1) _ _ (.co (.cons rfl (.cons rfl (.nil)))) ⟨by omega, by rw [hfi]; exact first_go h29, hO, hb1, hE⟩ (by show n - (i + 1) < n - i; omega)
  first | replace h22 := dF h22 | replace h22 := nF h22 | skip
  refine Wc.exit ?_
  refine Wx.thenE ?_
  refine Wx.thenE ?_
  refine Wx.hit ?_
  refine Wx.thenN (hK6 _ _ ?_)
  refine Wc.seq (fun K14 hK14 => ?_)
  refine vs fun K15 hK15 => vK [(1, _), (4, _)] ?_
  have hf0 : firstE act l = 0 := by rw [hfi, List.drop_eq_nil_of_le (by omega)]; rfl
  have hok := first_ok.1 hf0
  clear hfi hi
  refine Wc.region ?_
  refine vF 2 Tryd.underlying30 ?_
  refine vL hb1 ?_
  refine vl (Gives.lenS rfl Tryd.underlying28 rfl) ?_
  refine vl (Gives.gtr rfl rfl rfl) ?_
  refine vn (hK15 _ _ ?_)
  refine Wc.cond _ rfl (fun h36 => ?_) (fun h36 => ?_)
  · first | replace h36 := dT h36 | replace h36 := nT h36 | skip
    refine vs fun K16 hK16 => vR [] ?_
    refine vA ?_
    refine vA ?_
    refine vn (hK16 _ _ ?_)
    refine Wc.ret ?_
    refine Wx.thenR ?_
    refine Wx.ret [_, _] ⟨rfl, ⟨rfl, trivial⟩⟩ ?_
    exact LFmtR.no (fmt_25 hr hf0 (by show 40 < l.length; omega)) hE
  first | replace h36 := dF h36 | replace h36 := nF h36 | skip
  refine Wc.skip ?_
  refine Wx.thenN (hK14 _ _ ?_)
  refine Wc.seq (fun K17 hK17 => ?_)
  refine vs fun K18 hK18 => vR [(1, _), (4, _)] ?_
  refine vA ?_
  refine vn (hK18 _ _ ?_)
  refine Wc.block ?_
  refine vK [(1, _), (4, _), (7, _)] ?_
  refine Wc.loopC (ι := Nat × Option Addr × Nat × Nat) [(1, _)] (fun | (i, S, m, k) => [(7, .int .i64 (i : Int)), (4, .slice S m k)]) (fun | (i, S, m, k), wr => i ≤ n ∧ m ≤ 11 + 138 * i ∧ OB wr w.heap.size 5 S m k (hdS act rs ++ evT (l.take i)) ∧ Blk wr b1 30 #[.int .i64 act, .int .i64 rs, .slice A n c] ∧ Ext w wr) (fun | (i, _) => n - i) ((0, S0, m0, k0)) (.co (.co (.cons rfl (.nil)))) (⟨by omega, by have := hdS_le act rs; omega, by rw [List.take_zero]; simpa [evT] using hO, hb1, hE⟩) ?_
  intro ⟨i, S, m, k⟩ wr2 hJ KL2 hKL2
  clear hE hb1 hO
  obtain ⟨hi, hmi, hO, hb1, hE⟩ := hJ
  refine Wc.seq (fun K19 hK19 => ?_)
  refine vs fun K20 hK20 => vR [(1, _), (4, _), (7, _)] ?_
  refine vM ?_
  refine vF 2 Tryd.underlying30 ?_
  refine vL hb1 ?_
  refine vl (Gives.lenS rfl Tryd.underlying28 rfl) ?_
  refine vl (Gives.lss rfl rfl rfl) ?_
  refine vn (hK20 _ _ ?_)
  refine Wc.cond _ rfl (fun h41 => ?_) (fun h41 => ?_)
  · first | replace h41 := dT h41 | replace h41 := nT h41 | skip
    refine Wc.skip ?_
    refine Wx.thenN (hK19 _ _ ?_)
    refine Wc.seq (fun K21 hK21 => ?_)
    refine Wc.block ?_
    refine vK [(1, _), (4, _), (7, _)] ?_
    obtain ⟨xb, xo, hxA, hbw, x, r, hz, hr0, hv⟩ := EL.at_ (hl.ext hE) (show i < n by omega)
    subst hxA
    have hxe := hok x (List.mem_of_getElem? hz)
    refine Wc.region ?_
    refine vM ?_
    refine vF 2 Tryd.underlying30 ?_
    refine vL hb1 ?_
    refine vM ?_
    refine vl (Gives.ixSZ (i := i) (sz := 4) rfl Tryd.underlying28 (by kernel_rfl) rfl rfl rfl (by omega)) ?_
    refine vl (Gives.ldM rfl (by kernel_rfl) rfl hr0 (by kernel_rfl)) ?_
    refine Wl.call rfl rfl rfl rfl Tryd.func20 rfl (by kernel_rfl) rfl (evEncR _ x.reg x.kind r.D r.dn r.dc x.ds r.S r.m r.d x.pay hv.1 hv.2) ?_
    rintro x3 w162 ⟨S3, m3, k3, rfl, hO3, hx162⟩
    refine ⟨_, rfl, ?_⟩
    have hm3 := hO3.len
    have hm3' := evB_le x
    have hm3e : (evB x).length = m3 := hm3
    replace hO := hO.ext hx162
    replace hb1 := hb1.ext hx162
    replace hE := hE.trans hx162
    refine Wl.call rfl rfl rfl rfl Tryd.func46 rfl (by kernel_rfl) rfl (blobR_calls _ S m k _ (hO.bv (P := fun _ => True) fun _ _ => trivial) (by omega) S3 m3 k3 (evB x) (hO3.bv (P := fun _ => True) fun _ _ => trivial) (by omega)) ?_
    rintro x4 w163 ⟨S4, m4, k4, rfl, hO4, hx163⟩
    refine ⟨_, rfl, ?_⟩
    have hm4 := hO4.len
    have hm4' := blobs_len (hdS act rs ++ evT (l.take i)) x
    have hml := hO.len
    have hzE2 := hE.size
    replace hO4 := hO4.mono hzE2
    replace hb1 := hb1.ext hx163
    replace hE := hE.trans hx163
    refine vA ?_
    refine Wl.nil ?_
    refine Wx.blockN ?_
    refine Wx.thenN (hK21 _ _ ?_)
    refine vR [(1, _), (4, _), (7, _)] ?_
    refine vM ?_
    refine vAdd ?_
    refine vA ?_
    refine Wl.nil ?_
    refine Wx.thenN ?_
    exact hKL2 (i + 1, S4, m4, k4) _ _ (.co (.co (.cons rfl (.nil)))) ⟨by omega, by omega, by rw [evT_snoc hz, ← List.append_assoc, ← blobS_eq _ _ (by omega)]; exact hO4, hb1, hE⟩ (by show n - (i + 1) < n - i; omega)
  first | replace h41 := dF h41 | replace h41 := nF h41 | skip
  refine Wc.exit ?_
  refine Wx.thenE ?_
  refine Wx.thenE ?_
  refine Wx.hit ?_
  refine Wx.thenN (hK17 _ _ ?_)
  refine Wc.seq (fun K22 hK22 => ?_)
  refine vs fun K23 hK23 => vK [(4, _)] ?_
  obtain rfl : i = n := by omega
  rw [List.take_of_length_le (by omega)] at hO
  have hml := hO.len
  have hlg : (lgB ⟨act, rs, l⟩).length = m := hml
  refine Wc.region ?_
  refine vM ?_
  refine vl (Gives.lenS rfl Tryd.underlying22 rfl) ?_
  refine vl (Gives.gtr rfl rfl rfl) ?_
  refine vn (hK23 _ _ ?_)
  refine Wc.cond _ rfl (fun h51 => ?_) (fun h51 => ?_)
  · first | replace h51 := dT h51 | replace h51 := nT h51 | skip
    refine vs fun K24 hK24 => vR [] ?_
    refine vA ?_
    refine vA ?_
    refine vn (hK24 _ _ ?_)
    refine Wc.ret ?_
    refine Wx.thenR ?_
    refine Wx.ret [_, _] ⟨rfl, ⟨rfl, trivial⟩⟩ ?_
    exact LFmtR.no (fmt_4 hr hf0 (by show ¬ 40 < l.length; omega) (by omega)) hE
  first | replace h51 := dF h51 | replace h51 := nF h51 | skip
  refine Wc.skip ?_
  refine Wx.thenN (hK22 _ _ ?_)
  refine vs fun K25 hK25 => vR [(4, _)] ?_
  refine vM ?_
  refine vA ?_
  refine vA ?_
  refine vn (hK25 _ _ ?_)
  refine Wc.ret ?_
  refine Wx.ret [_, _] ⟨rfl, ⟨rfl, trivial⟩⟩ ?_
  unfold LFmtR
  rw [fmt_0 hr hf0 (by show ¬ 40 < l.length; omega) (by omega)]
  exact ⟨S, m, k, rfl, hO, hE⟩
end Go.Proofs.YtnbgieccindpnaaDoor
/- Logs: Intact of both. -/
namespace Go.Proofs.YtnbgieccindpnaaDoor
set_option linter.all false
set_option maxRecDepth 20000
open Go.RowKit
theorem hok_take {b : List UInt8} (k : Nat) (hk : 11 ≤ k) (h : hOk b) : hOk (b.take k) ∧ (lh1 (b.take k)).2 = (lh1 b).2 ∧ (lh2 (b.take k)).2 = (lh2 b).2 := by
  have hb := head_bwd h
  have hl := hdS_len h.2.2
  have hc : b.take k = hdS (lh1 b).2 (lh2 b).2 ++ (rest (lh2 b).1).take (k - 11) := by
    conv => lhs; rw [hb]
    rw [List.take_append, hl, List.take_of_length_le (by omega)]
  obtain ⟨h1, h2, h3, _⟩ := head_fwd h.2.2 hc
  exact ⟨h1, h2, h3⟩
theorem hok_untake {b : List UInt8} {k : Nat} (h : hOk (b.take k)) : hOk b := by
  have hb := head_bwd h
  exact (head_fwd (b := b) (post := rest (lh2 (b.take k)).1 ++ b.drop k) h.2.2 (by rw [← List.append_assoc, ← hb, List.take_append_drop])).1
/-- what the loop of a scan leaves -/
theorem body_inv' {act : Int} : ∀ (f : Nat) (acc : List Ev) (rs : List UInt8) {acc' : List Ev} {rs' : List UInt8} {er : Int}, acc.length + f = 41 → acc.length ≤ 40 → bodyS act f acc rs = (acc', rs', er) → acc'.length ≤ 40 ∧ er ≠ 5
  | 0, acc, rs, acc', rs', er, h1, h2, h => by omega
  | f + 1, acc, rs, acc', rs', er, h1, h2, h => by
    have stop : ∀ {z : Int}, z ≠ 5 → (acc, rs, z) = (acc', rs', er) → acc'.length ≤ 40 ∧ er ≠ 5 := fun hz h => by
      simp only [Prod.mk.injEq] at h
      obtain ⟨rfl, rfl, rfl⟩ := h
      exact ⟨h2, hz⟩
    unfold bodyS at h
    split at h
    · exact stop (by decide) h
    · split at h
      · exact stop (by decide) h
      · split at h
        · exact stop (by decide) h
        · split at h
          · exact body_inv' f _ _ (by rw [List.length_append, List.length_singleton]; omega) (by rw [List.length_append, List.length_singleton]; omega) h
          · exact stop (by decide) h
/-- the scan stops here, if there is no further event -/
theorem body_stop {act : Int} {acc : List Ev} {rs : List UInt8} (ha : acc.length ≤ 40) (h : acc.length = 40 ∨ ∀ x rs', blobOf rs = some (x, rs') → ¬ (decEvE x = 0 ∧ evE (decEvI x) act = 0)) : ∃ z, bodyS act (41 - acc.length) acc rs = (acc, rs, z) := by
  by_cases hn : rs = []
  · rw [hn]; exact ⟨_, body_end _ _ _⟩
  · by_cases h4 : acc.length = 40
    · exact ⟨_, body_25 hn h4⟩
    · cases hq : blobOf rs with
      | none => exact ⟨_, body_2 hn (by omega) hq⟩
      | some q =>
        obtain ⟨x, rs'⟩ := q
        rcases h with h | h
        · exact absurd h h4
        · exact ⟨_, body_30 hn (by omega) hq (h x rs' hq)⟩
/-- the blob at the head of a text that was cut -/
theorem blobOf_take {rs x rs' : List UInt8} {k : Nat} (h : blobOf (rs.take k) = some (x, rs')) : blobOf rs = some (x, rs.drop (2 + x.length)) ∧ 2 + x.length ≤ k ∧ rs' = (rs.drop (2 + x.length)).take (k - (2 + x.length)) := by
  unfold blobOf at h
  split at h
  · cases h
  · rename_i h1
    split at h
    · cases h
    · rename_i h2
      simp only [Option.some.injEq, Prod.mk.injEq] at h
      obtain ⟨hx, hr⟩ := h
      rw [List.length_take] at h1 h2
      have ht2 : (rs.take k).take 2 = rs.take 2 := by rw [List.take_take, Nat.min_eq_left (by omega)]
      rw [ht2] at hx hr h2
      have hxl : x.length = beV (rs.take 2) := by rw [← hx, List.length_take, List.length_drop, List.length_take]; omega
      have hxe : x = (rs.drop 2).take (beV (rs.take 2)) := by rw [← hx, List.drop_take, List.take_take, Nat.min_eq_left (by omega)]
      refine ⟨?_, by omega, ?_⟩
      · unfold blobOf
        rw [if_neg (by omega), if_neg (by omega), ← hxe, hxl]
      · rw [← hr, hxl, List.drop_take]
theorem blobOf_keep {rs x rs' : List UInt8} {k : Nat} (h : blobOf rs = some (x, rs')) (hk : 2 + x.length ≤ k) : blobOf (rs.take k) = some (x, rs'.take (k - (2 + x.length))) := by
  have hl := blobOf_len h
  unfold blobOf at h
  split at h
  · cases h
  · rename_i h1
    split at h
    · cases h
    · rename_i h2
      simp only [Option.some.injEq, Prod.mk.injEq] at h
      obtain ⟨hx, hr⟩ := h
      have hxl : x.length = beV (rs.take 2) := by rw [← hx, List.length_take, List.length_drop]; omega
      have ht2 : (rs.take k).take 2 = rs.take 2 := by rw [List.take_take, Nat.min_eq_left (by omega)]
      have e1 : ((rs.take k).drop 2).take x.length = x := by
        rw [List.drop_take, List.take_take, Nat.min_eq_left (by omega), hxl]
        exact hx
      have e2 : (rs.take k).drop (2 + x.length) = rs'.take (k - (2 + x.length)) := by rw [List.drop_take, ← hr, hxl]
      unfold blobOf
      rw [ht2, if_neg (by rw [List.length_take]; omega), if_neg (by rw [List.length_take]; omega), ← hxl, e1, e2]
def intS (b : List UInt8) : Lg × Int × Int := if (scanS (b.take 8192)).2.2 = 5 then (⟨0, 0, []⟩, 0, 5) else ((scanS (b.take 8192)).1, (scanS (b.take 8192)).2.1, 0)
theorem int_n {b : List UInt8} (h : (scanS (b.take 8192)).2.2 = 5) : intS b = (⟨0, 0, []⟩, 0, 5) := by unfold intS; rw [if_pos h]
theorem int_y {b : List UInt8} (h : ¬ (scanS (b.take 8192)).2.2 = 5) : intS b = ((scanS (b.take 8192)).1, (scanS (b.take 8192)).2.1, 0) := by unfold intS; rw [if_neg h]
theorem int_no {b : List UInt8} (h : ¬ hOk b) : intS b = (⟨0, 0, []⟩, 0, 5) := int_n (by rw [scan_n (fun h2 => h (hok_untake h2))])
theorem int_yes {b : List UInt8} {acc : List Ev} {rs : List UInt8} {er : Int} (h : hOk b) (hb : bodyS (lh1 b).2 41 [] ((b.take 8192).drop 11) = (acc, rs, er)) : intS b = (⟨(lh1 b).2, (lh2 b).2, acc⟩, ((b.take 8192).length : Int) - (rs.length : Int), 0) := by
  obtain ⟨h1, h2, h3⟩ := hok_take 8192 (by decide) h
  have h5 := (body_inv' 41 [] _ rfl (by decide) hb).2
  have hs := scan_y (acc := acc) (rs := rs) (er := er) h1 (by rw [h2]; exact hb)
  rw [int_y (by rw [hs]; exact h5), hs, h2, h3]
/-- the longest intact beginning is a log -/
theorem int_par {b : List UInt8} (h : (intS b).2.2 = 0) : ∃ n : Nat, (intS b).2.1 = (n : Int) ∧ n ≤ b.length ∧ parS (b.take n) = ((intS b).1, 0) := by
  by_cases hk : hOk b
  · obtain ⟨⟨acc, rs, er⟩, hR⟩ : ∃ q, bodyS (lh1 b).2 41 [] ((b.take 8192).drop 11) = q := ⟨_, rfl⟩
    rw [int_yes hk hR]
    obtain ⟨hal, _⟩ := body_inv' 41 [] _ rfl (by decide) hR
    obtain ⟨l, h3, h4, h5⟩ := body_inv 41 [] _ hR
    rw [List.nil_append] at h3
    subst h3
    obtain ⟨k1, k2, k3⟩ := hok_take 8192 (by decide) hk
    have hb := head_bwd k1
    rw [(head_drop k1).1, h4, k2, k3, ← List.append_assoc] at hb
    have hlg : hdS (lh1 b).2 (lh2 b).2 ++ evT acc = lgB ⟨(lh1 b).2, (lh2 b).2, acc⟩ := rfl
    rw [hlg] at hb
    have hl := congrArg List.length hb
    rw [List.length_append] at hl
    have hl2 : (b.take 8192).length ≤ 8192 := by rw [List.length_take]; omega
    have hl3 : (b.take 8192).length ≤ b.length := by rw [List.length_take]; omega
    refine ⟨(lgB ⟨(lh1 b).2, (lh2 b).2, acc⟩).length, by show ((b.take 8192).length : Int) - (rs.length : Int) = _; omega, by omega, ?_⟩
    have he : b.take (lgB ⟨(lh1 b).2, (lh2 b).2, acc⟩).length = lgB ⟨(lh1 b).2, (lh2 b).2, acc⟩ := by
      have h6 : (b.take 8192).take (lgB ⟨(lh1 b).2, (lh2 b).2, acc⟩).length = lgB ⟨(lh1 b).2, (lh2 b).2, acc⟩ := by rw [hb, List.take_left' rfl]
      rw [List.take_take, Nat.min_eq_left (by omega)] at h6
      exact h6
    rw [he]
    exact par_fmt ⟨hk.2.2, h5, hal⟩ (by omega)
  · rw [int_no hk] at h; cases h
/-- a log that was cut -/
theorem body_more {act : Int} : ∀ (l acc : List Ev) (r : List UInt8), (∀ x ∈ l, evE x act = 0) → acc.length + l.length ≤ 40 → bodyS act (41 - acc.length) acc (evT l ++ r) = bodyS act (41 - (acc ++ l).length) (acc ++ l) r
  | [], acc, r, _, _ => by simp [evT]
  | x :: l, acc, r, h, hn => by
    have hx := h x (List.mem_cons_self ..)
    have hw := (ev_wr hx).1
    have hd := dec_ev hw
    have hle := evB_le x
    rw [List.length_cons] at hn
    rw [evT_cons, List.append_assoc, body_go (blobT_ne _ _) (by omega) (blobOf_T (by omega)) (by rw [hd.2]; exact ⟨hd.1, hx⟩), hd.2, body_more l (acc ++ [x]) r (fun y hy => h y (List.mem_cons_of_mem _ hy)) (by rw [List.length_append, List.length_singleton]; omega), List.append_assoc]
    rfl
theorem blobOf_short {y : List UInt8} {k : Nat} (hy : y.length ≤ 65535) (hk : k < (blobT y).length) : blobOf ((blobT y).take k) = none := by
  cases hq : blobOf ((blobT y).take k) with
  | none => rfl
  | some q =>
    obtain ⟨x, rs⟩ := q
    obtain ⟨h1, h2, _⟩ := blobOf_take hq
    have h3 := blobOf_T (y := y) (r := []) hy
    rw [List.append_nil] at h3
    rw [h3] at h1
    simp only [Option.some.injEq, Prod.mk.injEq] at h1
    rw [blobT_len] at hk
    rw [← h1.1] at h2
    omega
theorem cut_body {act : Int} {l1 l2 : List Ev} {k : Nat} (h : ∀ x ∈ l1 ++ l2, evE x act = 0) (hn : (l1 ++ l2).length ≤ 40) (hk : ∀ x r, l2 = x :: r → k < 2 + (evB x).length) (h0 : l2 = [] → k = 0) :
    bodyS act 41 [] (evT l1 ++ (evT l2).take k) = (l1, (evT l2).take k, if k = 0 then 0 else 2) ∧ ((evT l2).take k).length = k := by
  have hl1 : l1.length ≤ 40 := by rw [List.length_append] at hn; omega
  have hm := body_more l1 [] ((evT l2).take k) (fun x hx => h x (List.mem_append_left _ hx)) (by simpa using hl1)
  rw [List.nil_append] at hm
  have hm' : bodyS act 41 [] (evT l1 ++ (evT l2).take k) = bodyS act (41 - l1.length) l1 ((evT l2).take k) := hm
  rw [hm']
  cases l2 with
  | nil =>
    obtain rfl := h0 rfl
    rw [List.take_zero, body_end, if_pos rfl]
    exact ⟨rfl, rfl⟩
  | cons x r =>
    have hk1 := hk x r rfl
    have hle := evB_le x
    have hbl : (blobT (evB x)).length = 2 + (evB x).length := blobT_len _
    have ht : (evT (x :: r)).take k = (blobT (evB x)).take k := by rw [evT_cons, List.take_append_of_le_length (by omega)]
    have hlen : ((blobT (evB x)).take k).length = k := by rw [List.length_take]; omega
    rw [ht]
    refine ⟨?_, hlen⟩
    by_cases hk0 : k = 0
    · subst hk0
      rw [List.take_zero, body_end, if_pos rfl]
    · rw [if_neg hk0]
      refine body_2 (fun hh => ?_) ?_ (blobOf_short (by omega) (by omega))
      · rw [hh] at hlen; simp at hlen; omega
      · rw [List.length_append, List.length_cons] at hn; omega
/-- what a beginning of a log's bytes holds -/
theorem cut_log {act rs : Int} {l1 l2 : List Ev} {k : Nat} (h : lgOk ⟨act, rs, l1 ++ l2⟩) (hb : (lgB ⟨act, rs, l1 ++ l2⟩).length ≤ 8192) (hk : ∀ x r, l2 = x :: r → k < 2 + (evB x).length) (h0 : l2 = [] → k = 0) (cut : Nat) (hc : cut = 11 + (evT l1).length + k) :
    intS ((lgB ⟨act, rs, l1 ++ l2⟩).take cut) = (⟨act, rs, l1⟩, ((11 + (evT l1).length : Nat) : Int), 0) ∧ (parS ((lgB ⟨act, rs, l1 ++ l2⟩).take cut)).2 = if k = 0 then 0 else 2 := by
  obtain ⟨hr, hev, hn⟩ := h
  replace hr : rngH act rs := hr
  have hl : (hdS act rs).length = 11 := hdS_len hr
  obtain ⟨hbd, hkl⟩ := cut_body (act := act) (l1 := l1) (l2 := l2) (k := k) hev hn hk h0
  have hbt : (lgB ⟨act, rs, l1 ++ l2⟩).take cut = hdS act rs ++ (evT l1 ++ (evT l2).take k) := by
    unfold lgB
    show (hdS act rs ++ evT (l1 ++ l2)).take cut = _
    rw [evT_app, ← List.append_assoc, List.take_append, List.take_of_length_le (by rw [List.length_append]; omega), List.length_append, hl, show cut - (11 + (evT l1).length) = k by omega, List.append_assoc]
  have hble : ((lgB ⟨act, rs, l1 ++ l2⟩).take cut).length ≤ 8192 := by rw [List.length_take]; omega
  have hbl : ((lgB ⟨act, rs, l1 ++ l2⟩).take cut).length = 11 + (evT l1).length + k := by rw [hbt, List.length_append, List.length_append, hl, hkl]; omega
  rw [hbt] at hble hbl
  rw [hbt]
  obtain ⟨f1, f2, f3, f4⟩ := head_fwd (b := hdS act rs ++ (evT l1 ++ (evT l2).take k)) hr rfl
  have hdr := (head_drop f1).1
  rw [f4] at hdr
  have ht8 : (hdS act rs ++ (evT l1 ++ (evT l2).take k)).take 8192 = hdS act rs ++ (evT l1 ++ (evT l2).take k) := List.take_of_length_le hble
  constructor
  · rw [int_yes (acc := l1) (rs := (evT l2).take k) (er := if k = 0 then 0 else 2) f1 (by rw [ht8, f2, ← hdr]; exact hbd), f2, f3, ht8, hbl, hkl]
    congr 2
    omega
  · have hs := scan_y f1 (acc := l1) (rs := (evT l2).take k) (er := if k = 0 then 0 else 2) (by rw [f2, ← hdr]; exact hbd)
    by_cases hk0 : k = 0
    · rw [par_0 (by omega) (by rw [hs, if_pos hk0]), if_pos hk0]
    · rw [par_e (by omega) (by rw [hs, if_neg hk0]; show ¬ ((2 : Int) = 0); decide), hs]
def LIntR (w : World) (b : List UInt8) (e : Ending) (w' : World) : Prop := ∃ S m k, e = .returned (.tuple #[.agg #[.int .i64 (intS b).1.active, .int .i64 (intS b).1.resets, .slice S m k], .int .i64 (intS b).2.1, .int .i64 (intS b).2.2]) ∧ SL Rp.evt w' (fun q => w.heap.size ≤ q) S m k (intS b).1.events ∧ Ext w w'
theorem LIntR.no {w w' : World} {b : List UInt8} (h : intS b = (⟨0, 0, []⟩, 0, 5)) (hE : Ext w w') : LIntR w b (.returned (resV [.agg #[.int .i64 0, .int .i64 0, .slice none 0 0], .int .i64 0, .int .i64 5])) w' := by
  unfold LIntR
  rw [h]
  exact ⟨none, 0, 0, rfl, SL.nil_ _ _ _, hE⟩
theorem iMin_nat (n : Nat) (k : Nat) : iMin ((n : Nat) : Int) ((k : Nat) : Int) = ((min n k : Nat) : Int) := by unfold iMin; omega
set_option maxRecDepth 20000 in
set_option maxHeartbeats 2000000 in
theorem intP {P : Nat → Prop} (w : World) (A : Option Addr) (n c : Nat) (b : List UInt8) (ha : BV w P A n c b) :
    Calls Tryd.prog 21 #[.slice A n c] w (LIntR w b) := by
  have hl := ha.len
  have hle := ha.le
  refine calls_enter Tryd.func21 rfl Tryd.ntmps21 rfl ?_
  have hE : Ext w w := Ext.refl w
  refine vs fun K1 hK1 => vR [(0, _)] ?_
  refine Wl.does rfl rfl rfl (Does.alB (.agg #[(.int .i64 0), (.int .i64 0), (.slice none 0 0)]) rfl (by kernel_rfl) rfl) ?_
  rintro _ w0_0 ⟨b2, rfl, hs2, hb2, hx0_0⟩
  have hg2 : w.heap.size ≤ b2 := Nat.le_trans hE.size hs2
  replace hE := hE.trans hx0_0
  refine vA ?_
  refine vA ?_
  refine vn (hK1 _ _ ?_)
  refine vs fun K2 hK2 => vR [(0, _), (2, _)] ?_
  refine vM ?_
  refine vM ?_
  refine vl (Gives.lenS rfl Tryd.underlying22 rfl) ?_
  refine vl (Gives.min rfl rfl rfl (iMin_nat n 8192)) ?_
  refine vl (Gives.cutHi rfl Tryd.underlying22 (by kernel_rfl) rfl (min n 8192) rfl rfl (by omega)) ?_
  refine Wl.call rfl rfl rfl rfl Tryd.func47 rfl (by kernel_rfl) rfl (scanP _ A (min n 8192) c (b.take 8192) ((ha.cutS 8192).ext hE) (by omega)) ?_
  rintro x1 w15 ⟨S, m, k, rfl, hS, hx15⟩
  refine ⟨_, rfl, ?_⟩
  have hz := hE.size
  have hb2l := hb2.lt
  replace hb2 := hb2.ext hx15
  replace hE := hE.trans hx15
  refine vM ?_
  refine vl (Gives.extract rfl rfl rfl) ?_
  refine vl (Gives.extract rfl rfl rfl) ?_
  refine vl (Gives.extract rfl rfl rfl) ?_
  refine Wl.does rfl rfl rfl (Does.alB (.agg #[(.int .i64 0), (.int .i64 0), (.slice none 0 0)]) rfl (by kernel_rfl) rfl) ?_
  rintro _ w1_10 ⟨b5, rfl, hs5, hb5, hx1_10⟩
  have hn2_5 : b2 ≠ b5 := hb2.ne hs5
  have hg5 : w.heap.size ≤ b5 := Nat.le_trans hE.size hs5
  replace hb2 := hb2.ext hx1_10
  replace hE := hE.trans hx1_10
  refine Wl.acts rfl rfl (Does.stL 3 rfl rfl rfl hb5 (by kernel_rfl) rfl rfl rfl) ?_
  rintro _ w1_11 ⟨hbn, hF1_11⟩
  replace hb2 := hb2.frA hF1_11
  replace hE := Ext.over hE hF1_11 hg5
  replace hb5 := hbn
  clear hbn
  replace hS := (hS.bd.ext hx1_10).fr (hF1_11.mono fun q hq => by omega)
  refine vA ?_
  refine vA ?_
  refine vn (hK2 _ _ ?_)
  refine Wc.seq (fun K3 hK3 => ?_)
  refine vs fun K4 hK4 => vR [(2, _), (5, _), (6, _), (7, _)] ?_
  refine vM ?_
  refine vl (Gives.eql rfl rfl rfl) ?_
  refine vn (hK4 _ _ ?_)
  refine Wc.cond _ rfl (fun h19 => ?_) (fun h19 => ?_)
  · first | replace h19 := dT h19 | replace h19 := nT h19 | skip
    refine vs fun K5 hK5 => vR [(2, _), (7, _)] ?_
    refine vl (Gives.buildS (pl := [(0, 1), (1, 1), (2, 1)]) (zv := (.agg #[(.int .i64 0), (.int .i64 0), (.slice none 0 0)])) rfl Tryd.underlying30 (by kernel_rfl) (by kernel_rfl) rfl rfl) ?_
    refine vM ?_
    refine Wl.acts rfl rfl (Does.stL 3 rfl rfl rfl hb2 (by kernel_rfl) rfl rfl rfl) ?_
    rintro _ w3_2 ⟨hbn, hF3_2⟩
    replace hb5 := hb5.frA hF3_2
    replace hE := Ext.over hE hF3_2 hg2
    replace hb2 := hbn
    clear hbn
    refine vA ?_
    refine vA ?_
    refine vn (hK5 _ _ ?_)
    refine Wc.ret ?_
    refine Wx.thenR ?_
    refine Wx.ret [_, _, _] ⟨⟨_, rfl, res_blk hb2 Tryd.underlying30 rfl (by kernel_rfl)⟩, ⟨rfl, ⟨rfl, trivial⟩⟩⟩ ?_
    have hn5 := int_n h19
    refine ⟨none, 0, 0, ?_, by rw [hn5]; exact SL.nil_ _ _ _, hE⟩
    rw [hn5, h19]; rfl
  first | replace h19 := dF h19 | replace h19 := nF h19 | skip
  refine Wc.skip ?_
  refine Wx.thenN (hK3 _ _ ?_)
  refine vs fun K6 hK6 => vR [(2, _), (5, _), (6, _)] ?_
  refine vl (Gives.ldW rfl (by kernel_rfl) rfl hb5 (by kernel_rfl)) ?_
  refine vM ?_
  refine Wl.acts rfl rfl (Does.stL 3 rfl rfl rfl hb2 (by kernel_rfl) rfl rfl rfl) ?_
  rintro _ w4_2 ⟨hbn, hF4_2⟩
  replace hb5 := hb5.frA hF4_2
  replace hE := Ext.over hE hF4_2 hg2
  replace hb2 := hbn
  clear hbn
  replace hS := hS.fr (hF4_2.mono fun q hq => by omega)
  refine vA ?_
  refine vA ?_
  refine vn (hK6 _ _ ?_)
  refine Wc.ret ?_
  refine Wx.ret [_, _, _] ⟨⟨_, rfl, res_blk hb2 Tryd.underlying30 rfl (by kernel_rfl)⟩, ⟨rfl, ⟨rfl, trivial⟩⟩⟩ ?_
  unfold LIntR
  rw [int_y h19]
  exact ⟨S, m, k, rfl, hS.mono fun q hq => by omega, hE⟩
set_option maxRecDepth 20000 in
set_option maxHeartbeats 2000000 in
theorem intQ {P : Nat → Prop} (w : World) (A : Option Addr) (n c : Nat) (b : List UInt8) (ha : BV w P A n c b) (hn : n ≤ 1000000) :
    Calls Tryd.prog 28 #[.slice A n c] w (LIntR w b) := by
  have hl := ha.len
  refine calls_enter Tryd.func28 rfl Tryd.ntmps28 rfl ?_
  have hE : Ext w w := Ext.refl w
  refine vs fun K1 hK1 => vR [(0, _)] ?_
  refine Wl.does rfl rfl rfl (Does.alB (.agg #[(.int .i64 0), (.int .i64 0), (.slice none 0 0)]) rfl (by kernel_rfl) rfl) ?_
  rintro _ w0_0 ⟨b2, rfl, hs2, hb2, hx0_0⟩
  have hg2 : w.heap.size ≤ b2 := Nat.le_trans hE.size hs2
  replace hE := hE.trans hx0_0
  refine vA ?_
  refine vA ?_
  refine vn (hK1 _ _ ?_)
  refine vs fun K2 hK2 => vR [(0, _), (2, _)] ?_
  refine vM ?_
  refine Wl.call rfl rfl rfl rfl Tryd.func51 rfl (by kernel_rfl) rfl (headLR _ A n c b (ha.ext hE)) ?_
  rintro x1 w31 ⟨rfl, hx31⟩
  refine ⟨_, rfl, ?_⟩
  have hzE := hE.size
  have hb2l := hb2.lt
  have hz31 := hx31.size
  replace hb2 := hb2.ext hx31
  replace hE := hE.trans hx31
  refine vM ?_
  refine vl (Gives.extract rfl rfl rfl) ?_
  refine vl (Gives.extract rfl rfl rfl) ?_
  refine Wl.does rfl rfl rfl (Does.alB (.agg #[(.int .i64 0), (.int .i64 0), (.slice none 0 0)]) rfl (by kernel_rfl) rfl) ?_
  rintro _ w1_5 ⟨b5, rfl, hs5, hb5, hx1_5⟩
  have hn2_5 : b2 ≠ b5 := hb2.ne hs5
  have hg5 : w.heap.size ≤ b5 := Nat.le_trans hE.size hs5
  replace hb2 := hb2.ext hx1_5
  replace hE := hE.trans hx1_5
  have hb24 : b2 < b5 := by omega
  have hw4 : w.heap.size ≤ b5 := by omega
  refine Wl.acts rfl rfl (Does.stL 3 rfl rfl rfl hb5 (by kernel_rfl) rfl rfl rfl) ?_
  rintro _ w1_6 ⟨hbn, hF1_6⟩
  replace hb2 := hb2.frA hF1_6
  replace hE := Ext.over hE hF1_6 hg5
  replace hb5 := hbn
  clear hbn
  refine vA ?_
  refine vn (hK2 _ _ ?_)
  refine Wc.seq (fun K3 hK3 => ?_)
  refine vs fun K4 hK4 => vR [(0, _), (2, _), (5, _), (6, _)] ?_
  refine vM ?_
  refine vl (Gives.not rfl rfl) ?_
  refine vn (hK4 _ _ ?_)
  refine Wc.cond _ rfl (fun h20 => ?_) (fun h20 => ?_)
  · first | replace h20 := dT h20 | replace h20 := nT h20 | skip
    refine vs fun K5 hK5 => vR [(2, _)] ?_
    refine vl (Gives.buildS (pl := [(0, 1), (1, 1), (2, 1)]) (zv := (.agg #[(.int .i64 0), (.int .i64 0), (.slice none 0 0)])) rfl Tryd.underlying30 (by kernel_rfl) (by kernel_rfl) rfl rfl) ?_
    refine Wl.acts rfl rfl (Does.stL 3 rfl rfl rfl hb2 (by kernel_rfl) rfl rfl rfl) ?_
    rintro _ w3_1 ⟨hbn, hF3_1⟩
    replace hb5 := hb5.frA hF3_1
    replace hE := Ext.over hE hF3_1 hg2
    replace hb2 := hbn
    clear hbn
    refine vA ?_
    refine vA ?_
    refine vn (hK5 _ _ ?_)
    refine Wc.ret ?_
    refine Wx.thenR ?_
    refine Wx.ret [_, _, _] ⟨⟨_, rfl, res_blk hb2 Tryd.underlying30 rfl (by kernel_rfl)⟩, ⟨rfl, ⟨rfl, trivial⟩⟩⟩ ?_
    exact LIntR.no (int_no (by simpa using h20)) hE
  first | replace h20 := dF h20 | replace h20 := nF h20 | skip
  refine Wc.skip ?_
  refine Wx.thenN (hK3 _ _ ?_)
  refine vs fun K6 hK6 => vK [(0, _), (2, _), (5, _)] ?_
  have hok : hOk b := by simpa using h20
  have hv : hdV b = ((lh1 b).2, (lh2 b).2) := by unfold hdV; rw [if_pos hok]
  rw [hv] at hb5
  have h11 := (head_drop hok).2
  generalize hact : (lh1 b).2 = act at *
  generalize hnum : (lh2 b).2 = num at *
  refine Wc.region ?_
  refine vA ?_
  refine vn (hK6 _ _ ?_)
  refine Wc.joinC (ι := (Option Addr × Nat × Nat) × List Ev × Nat) [(2, _), (5, _)] (fun | (_, _, i) => [(7, .int .i64 (i : Int))]) (fun | ((S, m, k), acc, i), wr => (∃ z, bodyS act 41 [] ((b.take 8192).drop 11) = (acc, (b.take 8192).drop i, z)) ∧ i ≤ n ∧ i ≤ 8192 ∧ SL Rp.evt wr (fun q => b5 < q) S m k acc ∧ Blk wr b5 30 #[.int .i64 act, .int .i64 num, .slice S m k] ∧ Blk wr b2 30 #[.int .i64 0, .int .i64 0, .slice none 0 0] ∧ Ext w wr) ?_ ?_ (.cons rfl (.cons rfl (.nil)))
  · intro K7 hJ7
    refine Wc.block ?_
    refine vK [(0, _), (2, _), (5, _), (7, _)] ?_
    refine Wc.loopC (ι := Nat × (Option Addr × Nat × Nat) × List Ev) [(0, _), (2, _), (5, _)] (fun | (i, _, _) => [(7, .int .i64 (i : Int))]) (fun | (i, (S, m, k), acc), wr => i ≤ n ∧ i ≤ 8192 ∧ acc.length ≤ 40 ∧ bodyS act (41 - acc.length) acc ((b.take 8192).drop i) = bodyS act 41 [] ((b.take 8192).drop 11) ∧ EO wr (b5 + 1) S m k acc ∧ Blk wr b5 30 #[.int .i64 act, .int .i64 num, .slice S m k] ∧ Blk wr b2 30 #[.int .i64 0, .int .i64 0, .slice none 0 0] ∧ Ext w wr) (fun | (_, _, acc) => 41 - acc.length) ((11, (none, 0, 0), [])) (.co (.cons rfl (.cons rfl (.cons rfl (.nil))))) (⟨by omega, by omega, by simp, rfl, EO.nil_ _ _, hb5, hb2, hE⟩) ?_
    intro ⟨i, ⟨S, m, k⟩, acc⟩ wr hJ KL1 hKL1
    clear hE hb5 hb2
    obtain ⟨hi, hi8, ha40, hbody, hIO, hb5, hb2, hE⟩ := hJ
    have hacc := hIO.len
    have hb5l := hb5.lt
    have hdt : (b.take 8192).drop i = (b.drop i).take (8192 - i) := List.drop_take ..
    have hstop : (acc.length = 40 ∨ ∀ x rs', blobOf ((b.take 8192).drop i) = some (x, rs') → ¬ (decEvE x = 0 ∧ evE (decEvI x) act = 0)) → ∃ z, bodyS act 41 [] ((b.take 8192).drop 11) = (acc, (b.take 8192).drop i, z) := fun h => by
      obtain ⟨z, hz⟩ := body_stop (act := act) ha40 h
      exact ⟨z, hbody.symm.trans hz⟩
    refine Wc.seq (fun K8 hK8 => ?_)
    refine vs fun K9 hK9 => vR [(0, _), (2, _), (5, _), (7, _)] ?_
    refine vM ?_
    refine vM ?_
    refine vl (Gives.lenS rfl Tryd.underlying22 rfl) ?_
    refine vl (Gives.lss rfl rfl rfl) ?_
    refine vM ?_
    refine Wl.guard rfl rfl rfl (fun h23 => ?_) (fun h23 => ?_)
    · first | replace h23 := dT h23 | replace h23 := nT h23 | skip
      refine vF 2 Tryd.underlying30 ?_
      refine vL hb5 ?_
      refine vl (Gives.lenS rfl Tryd.underlying28 rfl) ?_
      refine vl (Gives.lss rfl rfl rfl) ?_
      refine vT ?_
      refine vn (hK9 _ _ ?_)
      refine Wc.cond _ rfl (fun h28 => ?_) (fun h28 => ?_)
      · first | replace h28 := dT h28 | replace h28 := nT h28 | skip
        refine Wc.skip ?_
        refine Wx.thenN (hK8 _ _ ?_)
        refine Wc.block ?_
        refine vs fun K10 hK10 => vK [(0, _), (2, _), (5, _), (7, _)] ?_
        have hown := hIO.lt
        refine Wc.region ?_
        refine vM ?_
        refine vM ?_
        refine vF 0 Tryd.underlying30 ?_
        refine vL hb5 ?_
        refine Wl.call rfl rfl rfl rfl Tryd.func52 rfl (by kernel_rfl) rfl (nextLR _ A n c b (ha.ext hE) (by omega) i (by omega) act) ?_
        rintro x2 w104 ⟨D, dn, dc, S4, m4, k4, rfl, hD, hP, hx104⟩
        refine ⟨_, rfl, ?_⟩
        replace hIO := hIO.ext hx104
        have hz104 := hx104.size
        replace hb2 := hb2.ext hx104
        replace hb5 := hb5.ext hx104
        replace hE := hE.trans hx104
        refine vM ?_
        refine vl (Gives.extract rfl rfl rfl) ?_
        refine vl (Gives.extract rfl rfl rfl) ?_
        refine vl (Gives.extract rfl rfl rfl) ?_
        refine Wl.does rfl rfl rfl (Does.alB (.agg #[(.int .i64 0), (.int .i64 0), (.slice none 0 0), (.slice none 0 0)]) rfl (by kernel_rfl) rfl) ?_
        rintro _ w6_9 ⟨b8, rfl, hs8, hb8, hx6_9⟩
        have hn2_8 : b2 ≠ b8 := hb2.ne hs8
        have hn5_8 : b5 ≠ b8 := hb5.ne hs8
        have hg8 : w.heap.size ≤ b8 := Nat.le_trans hE.size hs8
        replace hb2 := hb2.ext hx6_9
        replace hb5 := hb5.ext hx6_9
        replace hE := hE.trans hx6_9
        refine Wl.acts rfl rfl (Does.stL 4 rfl rfl rfl hb8 (by kernel_rfl) rfl rfl rfl) ?_
        rintro _ w6_10 ⟨hbn, hF6_10⟩
        replace hb2 := hb2.frA hF6_10
        replace hb5 := hb5.frA hF6_10
        replace hE := Ext.over hE hF6_10 hg8
        replace hb8 := hbn
        clear hbn
        have hx10 := Ext.over hx6_9 hF6_10 hs8
        replace hIO := hIO.ext hx10
        replace hD := hD.ext hx10
        replace hP := hP.ext hx10
        have hz10 := hx10.size
        refine vA ?_
        refine vA ?_
        refine vn (hK10 _ _ ?_)
        refine Wc.seq (fun K11 hK11 => ?_)
        refine vs fun K12 hK12 => vR [(0, _), (2, _), (5, _), (7, _), (8, _), (9, _), (10, _)] ?_
        refine vM ?_
        refine vl (Gives.neq rfl rfl rfl) ?_
        refine vM ?_
        refine Wl.guard rfl rfl rfl (fun h39 => ?_) (fun h39 => ?_)
        · first | replace h39 := dF h39 | replace h39 := nF h39 | skip
          refine vM ?_
          refine vl (Gives.gtr rfl rfl rfl) ?_
          refine vU ?_
          refine vn (hK12 _ _ ?_)
          refine Wc.cond _ rfl (fun h43 => ?_) (fun h43 => ?_)
          · first | replace h43 := dT h43 | replace h43 := nT h43 | skip
            refine Wc.exit ?_
            refine Wx.thenE ?_
            refine Wx.miss rfl ?_
            refine Wx.thenE ?_
            refine Wx.hit ?_
            refine Wx.thenN ?_
            have hS := hIO.sl (P := fun q => b5 < q) (fun q hq => hq)
            refine hJ7 ((S, m, k), acc, i) _ _ (.co (.cons rfl (.cons rfl (.nil)))) ⟨hstop ?_, by omega, by omega, hS, hb5, hb2, hE⟩
            first | exact .inl (by omega) | (refine .inr fun x rs' hb' => ?_; obtain ⟨q1, q2, q3⟩ := blobOf_take (by rw [← hdt]; exact hb'); intro hck; first | (have hq := next_0 q1 hck; first | (rw [hq] at h39; exact h39 rfl) | (rw [hq] at h43; simp at h43; omega)) | (have := (blobOf_len q1).1; rw [List.length_drop] at this; omega))
          first | replace h43 := dF h43 | replace h43 := nF h43 | skip
          refine Wc.skip ?_
          refine Wx.thenN (hK11 _ _ ?_)
          refine vs fun K13 hK13 => vR [(0, _), (2, _), (5, _), (8, _), (9, _)] ?_
          refine vF 2 Tryd.underlying30 ?_
          refine vL hb5 ?_
          refine vl (Gives.ldW rfl (by kernel_rfl) rfl hb8 (by kernel_rfl)) ?_
          refine Wl.does rfl rfl rfl (Does.lit1 4 rfl Tryd.underlying28 infoE2 rfl rfl rfl) ?_
          rintro _ w133 ⟨g133, rfl, hs133, hk133, hx133⟩
          replace hIO := hIO.ext hx133
          replace hD := hD.ext hx133
          replace hP := hP.ext hx133
          have hz133 := hx133.size
          replace hb2 := hb2.ext hx133
          replace hb5 := hb5.ext hx133
          replace hb8 := hb8.ext hx133
          replace hE := hE.trans hx133
          have hln : EvtV w133 (NOwn w133 (fun k => b5 + 1 ≤ k) (.slice S m k)) (nextS b i act).1 ⟨D, dn, dc, S4, m4, k4⟩ := (EvtV.bd (P := fun q => wr.heap.size ≤ q) ⟨hD, hP⟩).mono fun q hq => ⟨by omega, hq.2, fun he => by have := hown q he; omega⟩
          refine Wl.does rfl rfl rfl (Does.appEO (xi := (nextS b i act).1) (r := ⟨D, dn, dc, S4, m4, k4⟩) rfl rfl rfl hIO hk133 hln (by omega) (by omega)) ?_
          rintro _ w134 ⟨B2, sc2, rfl, hIO2, hB134⟩
          replace hb2 := Blk.bel hb2 hB134 (by omega)
          replace hb5 := Blk.bel hb5 hB134 (by omega)
          replace hE := Ext.step hE hB134 (by omega)
          refine vF 2 Tryd.underlying30 ?_
          refine Wl.acts rfl rfl (Does.stC rfl rfl rfl hb5 (by kernel_rfl) (Nat.le_of_ble_eq_true rfl) rfl) ?_
          rintro _ w8_6 ⟨hbn, hF8_6⟩
          replace hb2 := hb2.frA hF8_6
          replace hE := Ext.over hE hF8_6 hg5
          replace hb5 := hbn
          clear hbn
          (try simp only [List.setIfInBounds_toArray, List.set_cons_zero, List.set_cons_succ, Nat.reduceAdd, Nat.zero_add] at hb5)
          replace hIO2 := hIO2.fr hF8_6 (fun q hq => by omega)
          refine vn (hK13 _ _ ?_)
          refine vK [(0, _), (2, _), (5, _), (9, _)] ?_
          obtain ⟨xx, rs, hbl, hck, hnx⟩ := next_ok h39
          obtain ⟨hrs, hle⟩ := blob_cut (show i ≤ b.length by omega) hbl
          have hnx1 : (nextS b i act).1 = decEvI xx := by rw [hnx]
          have hnx2 : (nextS b i act).2.1 = ((i + (2 + xx.length) : Nat) : Int) := by rw [hnx]
          have hbt : blobOf ((b.take 8192).drop i) = some (xx, (b.take 8192).drop (i + (2 + xx.length))) := by
            rw [hdt, blobOf_keep hbl (by omega), hrs, List.drop_take]
            congr 3
            omega
          refine Wc.region ?_
          refine vM ?_
          refine vA ?_
          refine Wl.nil ?_
          refine Wx.blockN ?_
          refine Wx.thenN ?_
          have hne : (b.take 8192).drop i ≠ [] := fun hh => by rw [hh] at hbt; cases hbt
          have hgo := body_go (act := act) (acc := acc) hne (by omega) hbt hck
          rw [hnx1] at hIO2
          exact hKL1 (i + (2 + xx.length), (B2, m + 1, sc2), acc ++ [decEvI xx]) _ _ (.co (.cons rfl (.cons rfl (.cons rfl (.nil))))) ⟨by omega, by omega, by rw [List.length_append, List.length_singleton]; omega, by rw [← hgo]; exact hbody, hIO2, hb5, hb2, hE⟩ (by show 41 - (acc ++ [decEvI xx]).length < 41 - acc.length; rw [List.length_append, List.length_singleton]; omega)
        first | replace h39 := dT h39 | replace h39 := nT h39 | skip
        refine vP ?_
        refine vP ?_
        refine vT ?_
        refine vn (hK12 _ _ ?_)
        refine Wc.condT rfl rfl ?_
        refine Wc.exit ?_
        refine Wx.thenE ?_
        refine Wx.miss rfl ?_
        refine Wx.thenE ?_
        refine Wx.hit ?_
        refine Wx.thenN ?_
        have hS := hIO.sl (P := fun q => b5 < q) (fun q hq => hq)
        refine hJ7 ((S, m, k), acc, i) _ _ (.co (.cons rfl (.cons rfl (.nil)))) ⟨hstop ?_, by omega, by omega, hS, hb5, hb2, hE⟩
        first | exact .inl (by omega) | (refine .inr fun x rs' hb' => ?_; obtain ⟨q1, q2, q3⟩ := blobOf_take (by rw [← hdt]; exact hb'); intro hck; first | (have hq := next_0 q1 hck; first | (rw [hq] at h39; exact h39 rfl) | (rw [hq] at h43; simp at h43; omega)) | (have := (blobOf_len q1).1; rw [List.length_drop] at this; omega))
      first | replace h28 := dF h28 | replace h28 := nF h28 | skip
      refine Wc.exit ?_
      refine Wx.thenE ?_
      refine Wx.thenE ?_
      refine Wx.hit ?_
      refine Wx.thenN ?_
      have hS := hIO.sl (P := fun q => b5 < q) (fun q hq => hq)
      refine hJ7 ((S, m, k), acc, i) _ _ (.co (.cons rfl (.cons rfl (.nil)))) ⟨hstop ?_, by omega, by omega, hS, hb5, hb2, hE⟩
      first | exact .inl (by omega) | (refine .inr fun x rs' hb' => ?_; obtain ⟨q1, q2, q3⟩ := blobOf_take (by rw [← hdt]; exact hb'); intro hck; first | (have hq := next_0 q1 hck; first | (rw [hq] at h39; exact h39 rfl) | (rw [hq] at h43; simp at h43; omega)) | (have := (blobOf_len q1).1; rw [List.length_drop] at this; omega))
    first | replace h23 := dF h23 | replace h23 := nF h23 | skip
    refine vP ?_
    refine vP ?_
    refine vP ?_
    refine vP ?_
    refine vU ?_
    refine vn (hK9 _ _ ?_)
    refine Wc.condF rfl rfl ?_
    refine Wc.exit ?_
    refine Wx.thenE ?_
    refine Wx.thenE ?_
    refine Wx.hit ?_
    refine Wx.thenN ?_
    have hS := hIO.sl (P := fun q => b5 < q) (fun q hq => hq)
    refine hJ7 ((S, m, k), acc, i) _ _ (.co (.cons rfl (.cons rfl (.nil)))) ⟨hstop ?_, by omega, by omega, hS, hb5, hb2, hE⟩
    first | exact .inl (by omega) | (refine .inr fun x rs' hb' => ?_; obtain ⟨q1, q2, q3⟩ := blobOf_take (by rw [← hdt]; exact hb'); intro hck; first | (have hq := next_0 q1 hck; first | (rw [hq] at h39; exact h39 rfl) | (rw [hq] at h43; simp at h43; omega)) | (have := (blobOf_len q1).1; rw [List.length_drop] at this; omega))
  intro ⟨⟨S, m, k⟩, acc, i⟩ wj hJ
  clear hE hb5 hb2
  obtain ⟨⟨z, hbody⟩, hi, hi8, hS, hb5, hb2, hE⟩ := hJ
  refine vs fun K14 hK14 => vR [(2, _), (5, _), (7, _)] ?_
  refine vl (Gives.ldW rfl (by kernel_rfl) rfl hb5 (by kernel_rfl)) ?_
  refine vM ?_
  refine Wl.acts rfl rfl (Does.stL 3 rfl rfl rfl hb2 (by kernel_rfl) rfl rfl rfl) ?_
  rintro _ w10_2 ⟨hbn, hF10_2⟩
  replace hb5 := hb5.frA hF10_2
  replace hE := Ext.over hE hF10_2 hg2
  replace hb2 := hbn
  clear hbn
  replace hS := hS.fr (hF10_2.mono fun q hq => by omega)
  refine vA ?_
  refine vA ?_
  refine vn (hK14 _ _ ?_)
  refine Wc.ret ?_
  refine Wx.ret [_, _, _] ⟨⟨_, rfl, res_blk hb2 Tryd.underlying30 rfl (by kernel_rfl)⟩, ⟨rfl, ⟨rfl, trivial⟩⟩⟩ ?_
  subst hact
  subst hnum
  have hy := int_yes hok hbody
  unfold LIntR
  rw [hy]
  refine ⟨S, m, k, ?_, hS.mono fun q hq => by omega, hE⟩
  have e : ((b.take 8192).length : Int) - (((b.take 8192).drop i).length : Int) = (i : Int) := by rw [List.length_drop, List.length_take]; omega
  show Ending.returned (resV [_, .int .i64 (i : Int), _]) = .returned (.tuple #[_, .int .i64 (((b.take 8192).length : Int) - (((b.take 8192).drop i).length : Int)), _])
  rw [e]; rfl
end Go.Proofs.YtnbgieccindpnaaDoor
