/- EvM: merged. -/
import Derived.Test.YtnbgieccindpnaaDoorImgT
import Derived.Test.YtnbgieccindpnaaDoorSha1
/- EvM: merged. -/
/- Events: what they are, how they lie in memory, Check, encodable. -/
namespace Go.Proofs.YtnbgieccindpnaaDoor
set_option linter.all false
set_option maxRecDepth 20000
open Go.RowKit
structure Ev where
  reg : Int
  kind : Int
  ds : List (List UInt8)
  pay : List UInt8
deriving DecidableEq
def noEv : Ev := ⟨0, 0, [], []⟩
instance : Inhabited Ev := ⟨noEv⟩
structure Lg where
  active : Int
  resets : Int
  events : List Ev
deriving DecidableEq
/-! rows of byte strings, in both forms -/
theorem each_of {w : World} {P : Nat → Prop} {vs : List Value} {ls : List (List UInt8)} (h : EachR Rp.bytes w P vs ls) : Each w P vs ls := by
  refine ⟨by have h1 : vs.length = ls.length * 1 := h.1; omega, fun i l hl => ?_⟩
  obtain ⟨A, n, c, h1, h2⟩ := h.2 i l hl
  refine ⟨A, n, c, ?_, h2⟩
  have h3 : (vs.drop (i * 1)).take 1 = [.slice A n c] := h1
  rw [Nat.mul_one] at h3
  have h4 := congrArg (fun q => q[0]?) h3
  simpa [List.getElem?_take, List.getElem?_drop] using h4
theorem of_each {w : World} {P : Nat → Prop} {vs : List Value} {ls : List (List UInt8)} (h : Each w P vs ls) : EachR Rp.bytes w P vs ls := by
  refine ⟨by show vs.length = ls.length * 1; have := h.1; omega, fun i l hl => ?_⟩
  obtain ⟨A, n, c, h1, h2⟩ := h.2 i l hl
  refine ⟨A, n, c, ?_, h2⟩
  show (vs.drop (i * 1)).take 1 = [.slice A n c]
  obtain ⟨h3, h4⟩ := List.getElem?_eq_some_iff.1 h1
  rw [Nat.mul_one, List.drop_eq_getElem_cons h3, h4]
  rfl
theorem bl_of {w : World} {P : Nat → Prop} {A : Option Addr} {n c : Nat} {ls : List (List UInt8)} (h : SL Rp.bytes w P A n c ls) : BL w P A n c ls := let ⟨vs, hr, he⟩ := h; ⟨vs, hr, each_of he⟩
theorem of_bl {w : World} {P : Nat → Prop} {A : Option Addr} {n c : Nat} {ls : List (List UInt8)} (h : BL w P A n c ls) : SL Rp.bytes w P A n c ls := let ⟨vs, hr, he⟩ := h; ⟨vs, hr, of_each he⟩
/-! events in memory -/
def Rp.evt : Rp Ev := ((Rp.int .i64).pair ((Rp.int .i64).pair (Rp.bytes.list.pair Rp.bytes))).of fun x => (x.reg, x.kind, x.ds, x.pay)
structure ERow where
  D : Option Addr
  dn : Nat
  dc : Nat
  S : Option Addr
  m : Nat
  d : Nat
def evtC (x : Ev) (r : ERow) : List Value := [.int .i64 x.reg, .int .i64 x.kind, .slice r.D r.dn r.dc, .slice r.S r.m r.d]
def EvtV (w : World) (P : Nat → Prop) (x : Ev) (r : ERow) : Prop := BL w P r.D r.dn r.dc x.ds ∧ BV w P r.S r.m r.d x.pay
theorem EvtV.fr {w w' : World} {P : Nat → Prop} {x : Ev} {r : ERow} (h : EvtV w P x r) (e : Fr P w w') : EvtV w' P x r := ⟨h.1.fr e, h.2.fr e⟩
theorem EvtV.ext {w w' : World} {P : Nat → Prop} {x : Ev} {r : ERow} (h : EvtV w P x r) (e : Ext w w') : EvtV w' P x r := ⟨h.1.ext e, h.2.ext e⟩
theorem EvtV.mono {w : World} {P P' : Nat → Prop} {x : Ev} {r : ERow} (h : EvtV w P x r) (hp : ∀ k, P k → P' k) : EvtV w P' x r := ⟨h.1.mono hp, h.2.mono hp⟩
theorem EvtV.bd {w : World} {P : Nat → Prop} {x : Ev} {r : ERow} (h : EvtV w P x r) : EvtV w (fun k => P k ∧ k < w.heap.size) x r := ⟨h.1.bdP, h.2.bd⟩
theorem evt_of {w : World} {P : Nat → Prop} {cs : List Value} {x : Ev} (h : Rp.evt.rep w P cs x) : ∃ r, cs = evtC x r ∧ EvtV w P x r := by
  obtain ⟨c1, _, rfl, h1, c2, _, rfl, h2, c3, c4, rfl, ⟨D, dn, dc, h3, i3⟩, ⟨S, m, d, h4, i4⟩⟩ := h
  have h1' : c1 = [.int .i64 x.reg] := h1
  have h2' : c2 = [.int .i64 x.kind] := h2
  subst h1' h2' h3 h4
  exact ⟨⟨D, dn, dc, S, m, d⟩, rfl, bl_of i3, i4⟩
theorem evt_rep {w : World} {P : Nat → Prop} {x : Ev} {r : ERow} (h : EvtV w P x r) : Rp.evt.rep w P (evtC x r) x :=
  ⟨[.int .i64 x.reg], [.int .i64 x.kind, .slice r.D r.dn r.dc, .slice r.S r.m r.d], rfl, rfl, [.int .i64 x.kind], [.slice r.D r.dn r.dc, .slice r.S r.m r.d], rfl, rfl, [.slice r.D r.dn r.dc], [.slice r.S r.m r.d], rfl, ⟨r.D, r.dn, r.dc, rfl, of_bl h.1⟩, ⟨r.S, r.m, r.d, rfl, h.2⟩⟩
/-! the checks in plain words -/
def szD (i : Nat) : Nat := if i = 0 then 20 else 32
def szE (kind act : Int) (i : Nat) : Nat := if (decide (kind ≠ 5) && hasS act i) = true then szD i else 0
theorem szE_y {kind act : Int} {i : Nat} (h : kind ≠ 5) (h2 : hasS act i = true) : szE kind act i = szD i := by unfold szE; rw [if_pos (by rw [decide_eq_true h, h2]; rfl)]
theorem szE_n {kind act : Int} {i : Nat} (h : ¬ (kind ≠ 5 ∧ hasS act i = true)) : szE kind act i = 0 := by unfold szE; rw [if_neg]; intro hh; simp only [Bool.and_eq_true, decide_eq_true_eq] at hh; exact h hh
def fitE (x : Ev) (act : Int) : Prop := x.ds.length = 2 ∧ ∀ i < 2, (x.ds.getD i []).length = szE x.kind act i
instance (x : Ev) (act : Int) : Decidable (fitE x act) := inferInstanceAs (Decidable (_ ∧ _))
def rngE (x : Ev) : Prop := 0 ≤ x.reg ∧ x.reg ≤ 11 ∧ 1 ≤ x.kind ∧ x.kind ≤ 5
instance (x : Ev) : Decidable (rngE x) := inferInstanceAs (Decidable (_ ∧ _))
def evE (x : Ev) (act : Int) : Int := if ¬ (1 ≤ act ∧ act ≤ 3 ∧ 0 ≤ x.reg ∧ x.reg ≤ 11 ∧ 1 ≤ x.kind ∧ x.kind ≤ 5) then 1 else if 64 < x.pay.length then 4 else if fitE x act then 0 else 27
theorem evE_1 {x : Ev} {act : Int} (h : ¬ (1 ≤ act ∧ act ≤ 3 ∧ 0 ≤ x.reg ∧ x.reg ≤ 11 ∧ 1 ≤ x.kind ∧ x.kind ≤ 5)) : evE x act = 1 := by unfold evE; rw [if_pos h]
theorem evE_4 {x : Ev} {act : Int} (h : 1 ≤ act ∧ act ≤ 3 ∧ 0 ≤ x.reg ∧ x.reg ≤ 11 ∧ 1 ≤ x.kind ∧ x.kind ≤ 5) (h2 : 64 < x.pay.length) : evE x act = 4 := by unfold evE; rw [if_neg (fun q => q h), if_pos h2]
theorem evE_27 {x : Ev} {act : Int} (h : 1 ≤ act ∧ act ≤ 3 ∧ 0 ≤ x.reg ∧ x.reg ≤ 11 ∧ 1 ≤ x.kind ∧ x.kind ≤ 5) (h2 : ¬ 64 < x.pay.length) (h3 : ¬ fitE x act) : evE x act = 27 := by unfold evE; rw [if_neg (fun q => q h), if_neg h2, if_neg h3]
theorem evE_0 {x : Ev} {act : Int} (h : 1 ≤ act ∧ act ≤ 3 ∧ 0 ≤ x.reg ∧ x.reg ≤ 11 ∧ 1 ≤ x.kind ∧ x.kind ≤ 5) (h2 : ¬ 64 < x.pay.length) (h3 : fitE x act) : evE x act = 0 := by unfold evE; rw [if_neg (fun q => q h), if_neg h2, if_pos h3]
def wrE (x : Ev) : Prop := rngE x ∧ x.ds.length = 2 ∧ x.pay.length ≤ 64 ∧ ∀ i < 2, (x.ds.getD i []).length ≤ 32
instance (x : Ev) : Decidable (wrE x) := inferInstanceAs (Decidable (_ ∧ _ ∧ _ ∧ _))
theorem getD_bl {ls : List (List UInt8)} {i : Nat} {f : List UInt8} (h : ls[i]? = some f) : ls.getD i [] = f := by rw [List.getD, h]; rfl
theorem sizeP (w : World) (i : Nat) (hi : i < 2) : Calls Tryd.prog 57 #[.int .i64 (i : Int)] w fun e w' => e = .returned (.int .i64 (szD i : Nat)) ∧ w = w' := by
  refine calls_enter Tryd.func57 rfl Tryd.ntmps57 rfl ?_
  refine vs fun K1 hK1 => vR [(0, _)] ?_
  refine vA ?_
  refine vn (hK1 _ _ ?_)
  refine Wc.seq (fun K2 hK2 => ?_)
  refine vs fun K3 hK3 => vR [(0, _)] ?_
  refine vM ?_
  refine vn (hK3 _ _ ?_)
  refine Wc.block ?_
  refine vs fun K4 hK4 => vR [(3, _)] ?_
  refine vl (Gives.eql rfl rfl rfl) ?_
  refine vA ?_
  refine vn (hK4 _ _ ?_)
  refine Wc.cond _ rfl (fun h4 => ?_) (fun h4 => ?_)
  · first | replace h4 := dT h4 | replace h4 := nT h4 | skip
    refine vs fun K5 hK5 => vR [] ?_
    refine vA ?_
    refine vn (hK5 _ _ ?_)
    refine Wc.ret ?_
    refine Wx.blockR ?_
    refine Wx.thenR ?_
    refine Wx.ret [_] ⟨rfl, trivial⟩ ?_
    refine ⟨?_, rfl⟩
    rcases (show i = 0 ∨ i = 1 by omega) with rfl | rfl <;> first | rfl | (exfalso; omega)
  first | replace h4 := dF h4 | replace h4 := nF h4 | skip
  refine vs fun K6 hK6 => vR [(3, _)] ?_
  refine vl (Gives.eql rfl rfl rfl) ?_
  refine vA ?_
  refine vn (hK6 _ _ ?_)
  refine Wc.cond _ rfl (fun h6 => ?_) (fun h6 => ?_)
  · first | replace h6 := dT h6 | replace h6 := nT h6 | skip
    refine vs fun K7 hK7 => vR [] ?_
    refine vA ?_
    refine vn (hK7 _ _ ?_)
    refine Wc.ret ?_
    refine Wx.blockR ?_
    refine Wx.thenR ?_
    refine Wx.ret [_] ⟨rfl, trivial⟩ ?_
    refine ⟨?_, rfl⟩
    rcases (show i = 0 ∨ i = 1 by omega) with rfl | rfl <;> first | rfl | (exfalso; omega)
  first | replace h6 := dF h6 | replace h6 := nF h6 | skip
  refine Wc.skip ?_
  refine Wx.blockN ?_
  refine Wx.thenN (hK2 _ _ ?_)
  refine vs fun K8 hK8 => vR [] ?_
  refine vA ?_
  refine vn (hK8 _ _ ?_)
  refine Wc.ret ?_
  refine Wx.ret [_] ⟨rfl, trivial⟩ ?_
  refine ⟨?_, rfl⟩
  rcases (show i = 0 ∨ i = 1 by omega) with rfl | rfl <;> first | rfl | (exfalso; omega)
theorem sizeR (w : World) (i : Nat) (hi : i < 2) : Calls Tryd.prog 90 #[.int .i64 (i : Int)] w fun e w' => e = .returned (.int .i64 (szD i : Nat)) ∧ w = w' := by
  refine calls_enter Tryd.func90 rfl Tryd.ntmps90 rfl ?_
  refine vs fun K1 hK1 => vR [(0, _)] ?_
  refine vA ?_
  refine vn (hK1 _ _ ?_)
  refine Wc.seq (fun K2 hK2 => ?_)
  refine vs fun K3 hK3 => vR [(0, _)] ?_
  refine vM ?_
  refine vn (hK3 _ _ ?_)
  refine Wc.block ?_
  refine vs fun K4 hK4 => vR [(3, _)] ?_
  refine vl (Gives.eql rfl rfl rfl) ?_
  refine vA ?_
  refine vn (hK4 _ _ ?_)
  refine Wc.cond _ rfl (fun h4 => ?_) (fun h4 => ?_)
  · first | replace h4 := dT h4 | replace h4 := nT h4 | skip
    refine vs fun K5 hK5 => vR [] ?_
    refine vA ?_
    refine vn (hK5 _ _ ?_)
    refine Wc.ret ?_
    refine Wx.blockR ?_
    refine Wx.thenR ?_
    refine Wx.ret [_] ⟨rfl, trivial⟩ ?_
    refine ⟨?_, rfl⟩
    rcases (show i = 0 ∨ i = 1 by omega) with rfl | rfl <;> first | rfl | (exfalso; omega)
  first | replace h4 := dF h4 | replace h4 := nF h4 | skip
  refine vs fun K6 hK6 => vR [(3, _)] ?_
  refine vl (Gives.eql rfl rfl rfl) ?_
  refine vA ?_
  refine vn (hK6 _ _ ?_)
  refine Wc.cond _ rfl (fun h6 => ?_) (fun h6 => ?_)
  · first | replace h6 := dT h6 | replace h6 := nT h6 | skip
    refine vs fun K7 hK7 => vR [] ?_
    refine vA ?_
    refine vn (hK7 _ _ ?_)
    refine Wc.ret ?_
    refine Wx.blockR ?_
    refine Wx.thenR ?_
    refine Wx.ret [_] ⟨rfl, trivial⟩ ?_
    refine ⟨?_, rfl⟩
    rcases (show i = 0 ∨ i = 1 by omega) with rfl | rfl <;> first | rfl | (exfalso; omega)
  first | replace h6 := dF h6 | replace h6 := nF h6 | skip
  refine Wc.skip ?_
  refine Wx.blockN ?_
  refine Wx.thenN (hK2 _ _ ?_)
  refine vs fun K8 hK8 => vR [] ?_
  refine vA ?_
  refine vn (hK8 _ _ ?_)
  refine Wc.ret ?_
  refine Wx.ret [_] ⟨rfl, trivial⟩ ?_
  refine ⟨?_, rfl⟩
  rcases (show i = 0 ∨ i = 1 by omega) with rfl | rfl <;> first | rfl | (exfalso; omega)
set_option maxRecDepth 20000 in
set_option maxHeartbeats 2000000 in
theorem evCheckP {P : Nat → Prop} (w : World) (rg kd : Int) (D : Option Addr) (dn dc : Nat) (ds : List (List UInt8)) (S : Option Addr) (m d : Nat) (pay : List UInt8) (hd : BL w P D dn dc ds) (hp : BV w P S m d pay) (act : Int) :
    Calls Tryd.prog 39 #[.agg #[.int .i64 rg, .int .i64 kd, .slice D dn dc, .slice S m d], .int .i64 act] w fun e w' => e = .returned (.int .i64 (evE ⟨rg, kd, ds, pay⟩ act)) ∧ Ext w w' := by
  have hdl := hd.len
  have hpl := hp.len
  refine calls_enter Tryd.func39 rfl Tryd.ntmps39 rfl ?_
  have hE : Ext w w := Ext.refl w
  refine vs fun K1 hK1 => vR [(0, _), (1, _)] ?_
  refine Wl.does rfl rfl rfl (Does.boxA rfl rfl) ?_
  rintro _ w0_0 ⟨b2, rfl, hs2, hb2, hx0_0⟩
  have hg2 : w.heap.size ≤ b2 := Nat.le_trans hE.size hs2
  replace hE := hE.trans hx0_0
  refine vA ?_
  refine vn (hK1 _ _ ?_)
  refine Wc.seq (fun K2 hK2 => ?_)
  refine Wc.block ?_
  refine vs fun K3 hK3 => vR [(1, _), (2, _)] ?_
  refine vM ?_
  refine vl (Gives.lss rfl rfl rfl) ?_
  refine vM ?_
  refine Wl.guard rfl rfl rfl (fun h11 => ?_) (fun h11 => ?_)
  · first | replace h11 := dF h11 | replace h11 := nF h11 | skip
    refine vM ?_
    refine vl (Gives.gtr rfl rfl rfl) ?_
    refine vU ?_
    refine vM ?_
    refine Wl.guard rfl rfl rfl (fun h15 => ?_) (fun h15 => ?_)
    · first | replace h15 := dF h15 | replace h15 := nF h15 | skip
      refine vF 0 Tryd.underlying34 ?_
      refine vL hb2 ?_
      refine vl (Gives.lss rfl rfl rfl) ?_
      refine vU ?_
      refine vM ?_
      refine Wl.guard rfl rfl rfl (fun h20 => ?_) (fun h20 => ?_)
      · first | replace h20 := dF h20 | replace h20 := nF h20 | skip
        refine vF 0 Tryd.underlying34 ?_
        refine vL hb2 ?_
        refine vl (Gives.gtr rfl rfl rfl) ?_
        refine vU ?_
        refine vM ?_
        refine Wl.guard rfl rfl rfl (fun h25 => ?_) (fun h25 => ?_)
        · first | replace h25 := dF h25 | replace h25 := nF h25 | skip
          refine vF 1 Tryd.underlying34 ?_
          refine vL hb2 ?_
          refine vl (Gives.lss rfl rfl rfl) ?_
          refine vU ?_
          refine vM ?_
          refine Wl.guard rfl rfl rfl (fun h30 => ?_) (fun h30 => ?_)
          · first | replace h30 := dF h30 | replace h30 := nF h30 | skip
            refine vF 1 Tryd.underlying34 ?_
            refine vL hb2 ?_
            refine vl (Gives.gtr rfl rfl rfl) ?_
            refine vU ?_
            refine vA ?_
            refine vn (hK3 _ _ ?_)
            refine Wc.cond _ rfl (fun h8 => ?_) (fun h8 => ?_)
            · first | replace h8 := dT h8 | replace h8 := nT h8 | skip
              refine vs fun K4 hK4 => vR [] ?_
              refine vA ?_
              refine vn (hK4 _ _ ?_)
              refine Wc.ret ?_
              refine Wx.blockR ?_
              refine Wx.thenR ?_
              refine Wx.ret [_] ⟨rfl, trivial⟩ ?_
              first | exact ⟨by rw [evE_1 (by show ¬ (1 ≤ act ∧ act ≤ 3 ∧ 0 ≤ rg ∧ rg ≤ 11 ∧ 1 ≤ kd ∧ kd ≤ 5); omega)]; rfl, hE⟩ | exact ⟨by rw [evE_4 (by show 1 ≤ act ∧ act ≤ 3 ∧ 0 ≤ rg ∧ rg ≤ 11 ∧ 1 ≤ kd ∧ kd ≤ 5; omega) (by show 64 < pay.length; omega)]; rfl, hE⟩ | exact ⟨by rw [evE_0 (by show 1 ≤ act ∧ act ≤ 3 ∧ 0 ≤ rg ∧ rg ≤ 11 ∧ 1 ≤ kd ∧ kd ≤ 5; omega) (by show ¬ 64 < pay.length; omega) ⟨by show ds.length = 2; omega, fun j hj => hsz j (by omega)⟩]; rfl, hE⟩ | exact ⟨by rw [evE_27 (by show 1 ≤ act ∧ act ≤ 3 ∧ 0 ≤ rg ∧ rg ≤ 11 ∧ 1 ≤ kd ∧ kd ≤ 5; omega) (by show ¬ 64 < pay.length; omega) (fun hh => by have h1 : ds.length = 2 := hh.1; first | omega | (have h2 : (ds.getD i []).length = szE kd act i := hh.2 i (by omega); rw [hgf] at h2; omega))]; rfl, hE⟩
            first | replace h8 := dF h8 | replace h8 := nF h8 | skip
            refine vs fun K5 hK5 => vR [(1, _), (2, _)] ?_
            refine vF 3 Tryd.underlying34 ?_
            refine vL hb2 ?_
            refine vl (Gives.lenS rfl Tryd.underlying22 rfl) ?_
            refine vl (Gives.gtr rfl rfl rfl) ?_
            refine vA ?_
            refine vn (hK5 _ _ ?_)
            refine Wc.cond _ rfl (fun h35 => ?_) (fun h35 => ?_)
            · first | replace h35 := dT h35 | replace h35 := nT h35 | skip
              refine vs fun K6 hK6 => vR [] ?_
              refine vA ?_
              refine vn (hK6 _ _ ?_)
              refine Wc.ret ?_
              refine Wx.blockR ?_
              refine Wx.thenR ?_
              refine Wx.ret [_] ⟨rfl, trivial⟩ ?_
              first | exact ⟨by rw [evE_1 (by show ¬ (1 ≤ act ∧ act ≤ 3 ∧ 0 ≤ rg ∧ rg ≤ 11 ∧ 1 ≤ kd ∧ kd ≤ 5); omega)]; rfl, hE⟩ | exact ⟨by rw [evE_4 (by show 1 ≤ act ∧ act ≤ 3 ∧ 0 ≤ rg ∧ rg ≤ 11 ∧ 1 ≤ kd ∧ kd ≤ 5; omega) (by show 64 < pay.length; omega)]; rfl, hE⟩ | exact ⟨by rw [evE_0 (by show 1 ≤ act ∧ act ≤ 3 ∧ 0 ≤ rg ∧ rg ≤ 11 ∧ 1 ≤ kd ∧ kd ≤ 5; omega) (by show ¬ 64 < pay.length; omega) ⟨by show ds.length = 2; omega, fun j hj => hsz j (by omega)⟩]; rfl, hE⟩ | exact ⟨by rw [evE_27 (by show 1 ≤ act ∧ act ≤ 3 ∧ 0 ≤ rg ∧ rg ≤ 11 ∧ 1 ≤ kd ∧ kd ≤ 5; omega) (by show ¬ 64 < pay.length; omega) (fun hh => by have h1 : ds.length = 2 := hh.1; first | omega | (have h2 : (ds.getD i []).length = szE kd act i := hh.2 i (by omega); rw [hgf] at h2; omega))]; rfl, hE⟩
            first | replace h35 := dF h35 | replace h35 := nF h35 | skip
            refine vs fun K7 hK7 => vR [(1, _), (2, _)] ?_
            refine vF 2 Tryd.underlying34 ?_
            refine vL hb2 ?_
            refine vl (Gives.lenS rfl Tryd.underlying32 rfl) ?_
            refine vl (Gives.neq rfl rfl rfl) ?_
            refine vA ?_
            refine vn (hK7 _ _ ?_)
            refine Wc.cond _ rfl (fun h40 => ?_) (fun h40 => ?_)
            · first | replace h40 := dT h40 | replace h40 := nT h40 | skip
              refine vs fun K8 hK8 => vR [] ?_
              refine vA ?_
              refine vn (hK8 _ _ ?_)
              refine Wc.ret ?_
              refine Wx.blockR ?_
              refine Wx.thenR ?_
              refine Wx.ret [_] ⟨rfl, trivial⟩ ?_
              first | exact ⟨by rw [evE_1 (by show ¬ (1 ≤ act ∧ act ≤ 3 ∧ 0 ≤ rg ∧ rg ≤ 11 ∧ 1 ≤ kd ∧ kd ≤ 5); omega)]; rfl, hE⟩ | exact ⟨by rw [evE_4 (by show 1 ≤ act ∧ act ≤ 3 ∧ 0 ≤ rg ∧ rg ≤ 11 ∧ 1 ≤ kd ∧ kd ≤ 5; omega) (by show 64 < pay.length; omega)]; rfl, hE⟩ | exact ⟨by rw [evE_0 (by show 1 ≤ act ∧ act ≤ 3 ∧ 0 ≤ rg ∧ rg ≤ 11 ∧ 1 ≤ kd ∧ kd ≤ 5; omega) (by show ¬ 64 < pay.length; omega) ⟨by show ds.length = 2; omega, fun j hj => hsz j (by omega)⟩]; rfl, hE⟩ | exact ⟨by rw [evE_27 (by show 1 ≤ act ∧ act ≤ 3 ∧ 0 ≤ rg ∧ rg ≤ 11 ∧ 1 ≤ kd ∧ kd ≤ 5; omega) (by show ¬ 64 < pay.length; omega) (fun hh => by have h1 : ds.length = 2 := hh.1; first | omega | (have h2 : (ds.getD i []).length = szE kd act i := hh.2 i (by omega); rw [hgf] at h2; omega))]; rfl, hE⟩
            first | replace h40 := dF h40 | replace h40 := nF h40 | skip
            refine Wc.skip ?_
            refine Wx.blockN ?_
            refine Wx.thenN (hK2 _ _ ?_)
            refine Wc.seq (fun K9 hK9 => ?_)
            refine vs fun K10 hK10 => vR [(1, _), (2, _)] ?_
            refine vF 2 Tryd.underlying34 ?_
            refine vL hb2 ?_
            refine vl (Gives.lenS rfl Tryd.underlying32 rfl) ?_
            refine vM ?_
            refine vn (hK10 _ _ ?_)
            refine Wc.block ?_
            refine vK [(1, _), (2, _), (46, _), (47, _), (48, _)] ?_
            refine Wc.loopC (ι := Nat) [(1, _), (2, _), (46, _), (47, _)] (fun i => [(48, .int .i64 (i : Int))]) (fun i wr => i ≤ 2 ∧ (∀ j < i, (ds.getD j []).length = szE kd act j) ∧ Blk wr b2 34 #[.int .i64 rg, .int .i64 kd, .slice D dn dc, .slice S m d] ∧ Ext w wr) (fun i => 2 - i) (0) (.co (.cons rfl (.cons rfl (.cons rfl (.cons rfl (.nil)))))) (⟨by omega, fun j hj => absurd hj (by omega), hb2, hE⟩) ?_
            intro i wr hJ KL1 hKL1
            clear hE hb2
            obtain ⟨hi, hsz, hb2, hE⟩ := hJ
            refine vs fun K11 hK11 => vR [(1, _), (2, _), (46, _), (47, _), (48, _)] ?_
            refine vl (Gives.lss rfl rfl rfl) ?_
            refine vn (hK11 _ _ ?_)
            refine Wc.seq (fun K12 hK12 => ?_)
            refine Wc.cond _ rfl (fun h49 => ?_) (fun h49 => ?_)
            · first | replace h49 := dT h49 | replace h49 := nT h49 | skip
              refine Wc.skip ?_
              refine Wx.thenN (hK12 _ _ ?_)
              refine Wc.seq (fun K13 hK13 => ?_)
              refine Wc.block ?_
              refine vs fun K14 hK14 => vK [(1, _), (2, _), (46, _), (47, _), (48, _)] ?_
              obtain ⟨xb, xo, rfl, hbw, f, fA, fn, fc, hz, hcell, hF⟩ := (hd.ext hE).at'' (show i < dn by omega)
              have hfl := hF.len
              have hgf := getD_bl hz
              refine Wc.region ?_
              refine vM ?_
              refine vl (Gives.ixS (i := _) rfl Tryd.underlying32 (by kernel_rfl) rfl rfl rfl (by omega)) ?_
              refine vl (Gives.ldC rfl (by kernel_rfl) rfl hcell) ?_
              refine vA ?_
              refine vA ?_
              refine vn (hK14 _ _ ?_)
              refine vs fun K15 hK15 => vR [(1, _), (2, _), (5, _), (6, _), (46, _), (47, _), (48, _)] ?_
              refine vA ?_
              refine vn (hK15 _ _ ?_)
              refine Wc.joinC (ι := Nat) [(1, _), (2, _), (6, _), (46, _), (47, _), (48, _)] (fun q => [(7, .int .i64 (q : Int))]) (fun q wr => q = szE kd act i ∧ Blk wr b2 34 #[.int .i64 rg, .int .i64 kd, .slice (some ⟨xb, xo, none⟩) dn dc, .slice S m d] ∧ Ext w wr) ?_ ?_ (.cons rfl (.cons rfl (.cons rfl (.cons rfl (.cons rfl (.cons rfl (.nil)))))))
              · intro K16 hJ16
                refine vs fun K17 hK17 => vR [(1, _), (2, _), (5, _), (6, _), (7, _), (46, _), (47, _), (48, _)] ?_
                refine vF 1 Tryd.underlying34 ?_
                refine vL hb2 ?_
                refine vl (Gives.neq rfl rfl rfl) ?_
                refine vM ?_
                refine Wl.guard rfl rfl rfl (fun h56 => ?_) (fun h56 => ?_)
                · first | replace h56 := dT h56 | replace h56 := nT h56 | skip
                  refine vM ?_
                  refine vM ?_
                  refine vl (Gives.shr rfl rfl rfl (by omega) rfl) ?_
                  refine vl (Gives.bits .and (by simp) rfl rfl rfl rfl) ?_
                  refine vl (Gives.eql rfl rfl rfl) ?_
                  refine vT ?_
                  refine vn (hK17 _ _ ?_)
                  refine Wc.cond _ rfl (fun h62 => ?_) (fun h62 => ?_)
                  · first | replace h62 := dT h62 | replace h62 := nT h62 | skip
                    refine vR [(1, _), (2, _), (5, _), (6, _), (46, _), (47, _), (48, _)] ?_
                    refine vM ?_
                    refine vl (Gives.call rfl Tryd.func57 rfl (by kernel_rfl) rfl (sizeP _ i (by omega))) ?_
                    refine vA ?_
                    refine Wl.nil ?_
                    refine Wx.thenN ?_
                    first | exact hJ16 (szD i) _ _ (.co (.cons rfl (.cons rfl (.cons rfl (.cons rfl (.cons rfl (.cons rfl (.nil)))))))) ⟨(szE_y (by omega) (decide_eq_true (by assumption))).symm, hb2, hE⟩ | exact hJ16 0 _ _ (.co (.cons rfl (.cons rfl (.cons rfl (.cons rfl (.cons rfl (.cons rfl (.nil)))))))) ⟨(szE_n (fun hh => by obtain ⟨hh1, hh2⟩ := hh; omega)).symm, hb2, hE⟩ | exact hJ16 0 _ _ (.co (.cons rfl (.cons rfl (.cons rfl (.cons rfl (.cons rfl (.cons rfl (.nil)))))))) ⟨(szE_n (fun hh => by obtain ⟨hh1, hh2⟩ := hh; have hh3 := of_decide_eq_true hh2; first | contradiction | (exact absurd hh3 (by assumption)))).symm, hb2, hE⟩
                  first | replace h62 := dF h62 | replace h62 := nF h62 | skip
                  refine Wc.skip ?_
                  refine Wx.thenN ?_
                  first | exact hJ16 (szD i) _ _ (.co (.cons rfl (.cons rfl (.cons rfl (.cons rfl (.cons rfl (.cons rfl (.nil)))))))) ⟨(szE_y (by omega) (decide_eq_true (by assumption))).symm, hb2, hE⟩ | exact hJ16 0 _ _ (.co (.cons rfl (.cons rfl (.cons rfl (.cons rfl (.cons rfl (.cons rfl (.nil)))))))) ⟨(szE_n (fun hh => by obtain ⟨hh1, hh2⟩ := hh; omega)).symm, hb2, hE⟩ | exact hJ16 0 _ _ (.co (.cons rfl (.cons rfl (.cons rfl (.cons rfl (.cons rfl (.cons rfl (.nil)))))))) ⟨(szE_n (fun hh => by obtain ⟨hh1, hh2⟩ := hh; have hh3 := of_decide_eq_true hh2; first | contradiction | (exact absurd hh3 (by assumption)))).symm, hb2, hE⟩
                first | replace h56 := dF h56 | replace h56 := nF h56 | skip
                refine vP ?_
                refine vP ?_
                refine vP ?_
                refine vP ?_
                refine vP ?_
                refine vU ?_
                refine vn (hK17 _ _ ?_)
                refine Wc.condF rfl rfl ?_
                refine Wc.skip ?_
                refine Wx.thenN ?_
                first | exact hJ16 (szD i) _ _ (.co (.cons rfl (.cons rfl (.cons rfl (.cons rfl (.cons rfl (.cons rfl (.nil)))))))) ⟨(szE_y (by omega) (decide_eq_true (by assumption))).symm, hb2, hE⟩ | exact hJ16 0 _ _ (.co (.cons rfl (.cons rfl (.cons rfl (.cons rfl (.cons rfl (.cons rfl (.nil)))))))) ⟨(szE_n (fun hh => by obtain ⟨hh1, hh2⟩ := hh; omega)).symm, hb2, hE⟩ | exact hJ16 0 _ _ (.co (.cons rfl (.cons rfl (.cons rfl (.cons rfl (.cons rfl (.cons rfl (.nil)))))))) ⟨(szE_n (fun hh => by obtain ⟨hh1, hh2⟩ := hh; have hh3 := of_decide_eq_true hh2; first | contradiction | (exact absurd hh3 (by assumption)))).symm, hb2, hE⟩
              intro q wj hJ
              clear hE hb2
              obtain ⟨rfl, hb2, hE⟩ := hJ
              refine vs fun K18 hK18 => vR [(1, _), (2, _), (6, _), (7, _), (46, _), (47, _), (48, _)] ?_
              refine vM ?_
              refine vl (Gives.lenS rfl Tryd.underlying22 rfl) ?_
              refine vM ?_
              refine vl (Gives.neq rfl rfl rfl) ?_
              refine vn (hK18 _ _ ?_)
              refine Wc.cond _ rfl (fun h68 => ?_) (fun h68 => ?_)
              · first | replace h68 := dT h68 | replace h68 := nT h68 | skip
                refine vs fun K19 hK19 => vR [] ?_
                refine vA ?_
                refine vn (hK19 _ _ ?_)
                refine Wc.ret ?_
                refine Wx.blockR ?_
                refine Wx.thenR ?_
                refine Wx.thenR ?_
                refine Wx.blockR ?_
                refine Wx.thenR ?_
                refine Wx.ret [_] ⟨rfl, trivial⟩ ?_
                first | exact ⟨by rw [evE_1 (by show ¬ (1 ≤ act ∧ act ≤ 3 ∧ 0 ≤ rg ∧ rg ≤ 11 ∧ 1 ≤ kd ∧ kd ≤ 5); omega)]; rfl, hE⟩ | exact ⟨by rw [evE_4 (by show 1 ≤ act ∧ act ≤ 3 ∧ 0 ≤ rg ∧ rg ≤ 11 ∧ 1 ≤ kd ∧ kd ≤ 5; omega) (by show 64 < pay.length; omega)]; rfl, hE⟩ | exact ⟨by rw [evE_0 (by show 1 ≤ act ∧ act ≤ 3 ∧ 0 ≤ rg ∧ rg ≤ 11 ∧ 1 ≤ kd ∧ kd ≤ 5; omega) (by show ¬ 64 < pay.length; omega) ⟨by show ds.length = 2; omega, fun j hj => hsz j (by omega)⟩]; rfl, hE⟩ | exact ⟨by rw [evE_27 (by show 1 ≤ act ∧ act ≤ 3 ∧ 0 ≤ rg ∧ rg ≤ 11 ∧ 1 ≤ kd ∧ kd ≤ 5; omega) (by show ¬ 64 < pay.length; omega) (fun hh => by have h1 : ds.length = 2 := hh.1; first | omega | (have h2 : (ds.getD i []).length = szE kd act i := hh.2 i (by omega); rw [hgf] at h2; omega))]; rfl, hE⟩
              first | replace h68 := dF h68 | replace h68 := nF h68 | skip
              refine Wc.skip ?_
              refine Wx.blockN ?_
              refine Wx.thenN (hK13 _ _ ?_)
              refine vR [(1, _), (2, _), (46, _), (47, _), (48, _)] ?_
              refine vAdd ?_
              refine vM ?_
              refine Wl.nil ?_
              refine Wx.thenN ?_
              refine hKL1 (i + 1) _ _ (.co (.cons rfl (.cons rfl (.cons rfl (.cons rfl (.nil)))))) ⟨by omega, fun j hj => ?_, hb2, hE⟩ (by show 2 - (i + 1) < 2 - i; omega)
              rcases Nat.lt_or_ge j i with hji | hji
              · exact hsz j hji
              · obtain rfl : j = i := by omega
                rw [hgf]; omega
            first | replace h49 := dF h49 | replace h49 := nF h49 | skip
            refine Wc.exit ?_
            refine Wx.thenE ?_
            refine Wx.thenE ?_
            refine Wx.hit ?_
            refine Wx.thenN (hK9 _ _ ?_)
            refine vs fun K20 hK20 => vR [] ?_
            refine vA ?_
            refine vn (hK20 _ _ ?_)
            refine Wc.ret ?_
            refine Wx.ret [_] ⟨rfl, trivial⟩ ?_
            first | exact ⟨by rw [evE_1 (by show ¬ (1 ≤ act ∧ act ≤ 3 ∧ 0 ≤ rg ∧ rg ≤ 11 ∧ 1 ≤ kd ∧ kd ≤ 5); omega)]; rfl, hE⟩ | exact ⟨by rw [evE_4 (by show 1 ≤ act ∧ act ≤ 3 ∧ 0 ≤ rg ∧ rg ≤ 11 ∧ 1 ≤ kd ∧ kd ≤ 5; omega) (by show 64 < pay.length; omega)]; rfl, hE⟩ | exact ⟨by rw [evE_0 (by show 1 ≤ act ∧ act ≤ 3 ∧ 0 ≤ rg ∧ rg ≤ 11 ∧ 1 ≤ kd ∧ kd ≤ 5; omega) (by show ¬ 64 < pay.length; omega) ⟨by show ds.length = 2; omega, fun j hj => hsz j (by omega)⟩]; rfl, hE⟩ | exact ⟨by rw [evE_27 (by show 1 ≤ act ∧ act ≤ 3 ∧ 0 ≤ rg ∧ rg ≤ 11 ∧ 1 ≤ kd ∧ kd ≤ 5; omega) (by show ¬ 64 < pay.length; omega) (fun hh => by have h1 : ds.length = 2 := hh.1; first | omega | (have h2 : (ds.getD i []).length = szE kd act i := hh.2 i (by omega); rw [hgf] at h2; omega))]; rfl, hE⟩
          first | replace h30 := dT h30 | replace h30 := nT h30 | skip
          refine vP ?_
          refine vP ?_
          refine vP ?_
          refine vT ?_
          refine vA ?_
          refine vn (hK3 _ _ ?_)
          refine Wc.condT rfl rfl ?_
          refine vs fun K21 hK21 => vR [] ?_
          refine vA ?_
          refine vn (hK21 _ _ ?_)
          refine Wc.ret ?_
          refine Wx.blockR ?_
          refine Wx.thenR ?_
          refine Wx.ret [_] ⟨rfl, trivial⟩ ?_
          first | exact ⟨by rw [evE_1 (by show ¬ (1 ≤ act ∧ act ≤ 3 ∧ 0 ≤ rg ∧ rg ≤ 11 ∧ 1 ≤ kd ∧ kd ≤ 5); omega)]; rfl, hE⟩ | exact ⟨by rw [evE_4 (by show 1 ≤ act ∧ act ≤ 3 ∧ 0 ≤ rg ∧ rg ≤ 11 ∧ 1 ≤ kd ∧ kd ≤ 5; omega) (by show 64 < pay.length; omega)]; rfl, hE⟩ | exact ⟨by rw [evE_0 (by show 1 ≤ act ∧ act ≤ 3 ∧ 0 ≤ rg ∧ rg ≤ 11 ∧ 1 ≤ kd ∧ kd ≤ 5; omega) (by show ¬ 64 < pay.length; omega) ⟨by show ds.length = 2; omega, fun j hj => hsz j (by omega)⟩]; rfl, hE⟩ | exact ⟨by rw [evE_27 (by show 1 ≤ act ∧ act ≤ 3 ∧ 0 ≤ rg ∧ rg ≤ 11 ∧ 1 ≤ kd ∧ kd ≤ 5; omega) (by show ¬ 64 < pay.length; omega) (fun hh => by have h1 : ds.length = 2 := hh.1; first | omega | (have h2 : (ds.getD i []).length = szE kd act i := hh.2 i (by omega); rw [hgf] at h2; omega))]; rfl, hE⟩
        first | replace h25 := dT h25 | replace h25 := nT h25 | skip
        refine vP ?_
        refine vP ?_
        refine vP ?_
        refine vT ?_
        refine vM ?_
        refine Wl.guardF rfl rfl rfl rfl ?_
        refine vP ?_
        refine vP ?_
        refine vP ?_
        refine vT ?_
        refine vA ?_
        refine vn (hK3 _ _ ?_)
        refine Wc.condT rfl rfl ?_
        refine vs fun K22 hK22 => vR [] ?_
        refine vA ?_
        refine vn (hK22 _ _ ?_)
        refine Wc.ret ?_
        refine Wx.blockR ?_
        refine Wx.thenR ?_
        refine Wx.ret [_] ⟨rfl, trivial⟩ ?_
        first | exact ⟨by rw [evE_1 (by show ¬ (1 ≤ act ∧ act ≤ 3 ∧ 0 ≤ rg ∧ rg ≤ 11 ∧ 1 ≤ kd ∧ kd ≤ 5); omega)]; rfl, hE⟩ | exact ⟨by rw [evE_4 (by show 1 ≤ act ∧ act ≤ 3 ∧ 0 ≤ rg ∧ rg ≤ 11 ∧ 1 ≤ kd ∧ kd ≤ 5; omega) (by show 64 < pay.length; omega)]; rfl, hE⟩ | exact ⟨by rw [evE_0 (by show 1 ≤ act ∧ act ≤ 3 ∧ 0 ≤ rg ∧ rg ≤ 11 ∧ 1 ≤ kd ∧ kd ≤ 5; omega) (by show ¬ 64 < pay.length; omega) ⟨by show ds.length = 2; omega, fun j hj => hsz j (by omega)⟩]; rfl, hE⟩ | exact ⟨by rw [evE_27 (by show 1 ≤ act ∧ act ≤ 3 ∧ 0 ≤ rg ∧ rg ≤ 11 ∧ 1 ≤ kd ∧ kd ≤ 5; omega) (by show ¬ 64 < pay.length; omega) (fun hh => by have h1 : ds.length = 2 := hh.1; first | omega | (have h2 : (ds.getD i []).length = szE kd act i := hh.2 i (by omega); rw [hgf] at h2; omega))]; rfl, hE⟩
      first | replace h20 := dT h20 | replace h20 := nT h20 | skip
      refine vP ?_
      refine vP ?_
      refine vP ?_
      refine vT ?_
      refine vM ?_
      refine Wl.guardF rfl rfl rfl rfl ?_
      refine vP ?_
      refine vP ?_
      refine vP ?_
      refine vT ?_
      refine vM ?_
      refine Wl.guardF rfl rfl rfl rfl ?_
      refine vP ?_
      refine vP ?_
      refine vP ?_
      refine vT ?_
      refine vA ?_
      refine vn (hK3 _ _ ?_)
      refine Wc.condT rfl rfl ?_
      refine vs fun K23 hK23 => vR [] ?_
      refine vA ?_
      refine vn (hK23 _ _ ?_)
      refine Wc.ret ?_
      refine Wx.blockR ?_
      refine Wx.thenR ?_
      refine Wx.ret [_] ⟨rfl, trivial⟩ ?_
      first | exact ⟨by rw [evE_1 (by show ¬ (1 ≤ act ∧ act ≤ 3 ∧ 0 ≤ rg ∧ rg ≤ 11 ∧ 1 ≤ kd ∧ kd ≤ 5); omega)]; rfl, hE⟩ | exact ⟨by rw [evE_4 (by show 1 ≤ act ∧ act ≤ 3 ∧ 0 ≤ rg ∧ rg ≤ 11 ∧ 1 ≤ kd ∧ kd ≤ 5; omega) (by show 64 < pay.length; omega)]; rfl, hE⟩ | exact ⟨by rw [evE_0 (by show 1 ≤ act ∧ act ≤ 3 ∧ 0 ≤ rg ∧ rg ≤ 11 ∧ 1 ≤ kd ∧ kd ≤ 5; omega) (by show ¬ 64 < pay.length; omega) ⟨by show ds.length = 2; omega, fun j hj => hsz j (by omega)⟩]; rfl, hE⟩ | exact ⟨by rw [evE_27 (by show 1 ≤ act ∧ act ≤ 3 ∧ 0 ≤ rg ∧ rg ≤ 11 ∧ 1 ≤ kd ∧ kd ≤ 5; omega) (by show ¬ 64 < pay.length; omega) (fun hh => by have h1 : ds.length = 2 := hh.1; first | omega | (have h2 : (ds.getD i []).length = szE kd act i := hh.2 i (by omega); rw [hgf] at h2; omega))]; rfl, hE⟩
    first | replace h15 := dT h15 | replace h15 := nT h15 | skip
    refine vP ?_
    refine vP ?_
    refine vP ?_
    refine vT ?_
    refine vM ?_
    refine Wl.guardF rfl rfl rfl rfl ?_
    refine vP ?_
    refine vP ?_
    refine vP ?_
    refine vT ?_
    refine vM ?_
    refine Wl.guardF rfl rfl rfl rfl ?_
    refine vP ?_
    refine vP ?_
    refine vP ?_
    refine vT ?_
    refine vM ?_
    refine Wl.guardF rfl rfl rfl rfl ?_
    refine vP ?_
    refine vP ?_
    refine vP ?_
    refine vT ?_
    refine vA ?_
    refine vn (hK3 _ _ ?_)
    refine Wc.condT rfl rfl ?_
    refine vs fun K24 hK24 => vR [] ?_
    refine vA ?_
    refine vn (hK24 _ _ ?_)
    refine Wc.ret ?_
    refine Wx.blockR ?_
    refine Wx.thenR ?_
    refine Wx.ret [_] ⟨rfl, trivial⟩ ?_
    first | exact ⟨by rw [evE_1 (by show ¬ (1 ≤ act ∧ act ≤ 3 ∧ 0 ≤ rg ∧ rg ≤ 11 ∧ 1 ≤ kd ∧ kd ≤ 5); omega)]; rfl, hE⟩ | exact ⟨by rw [evE_4 (by show 1 ≤ act ∧ act ≤ 3 ∧ 0 ≤ rg ∧ rg ≤ 11 ∧ 1 ≤ kd ∧ kd ≤ 5; omega) (by show 64 < pay.length; omega)]; rfl, hE⟩ | exact ⟨by rw [evE_0 (by show 1 ≤ act ∧ act ≤ 3 ∧ 0 ≤ rg ∧ rg ≤ 11 ∧ 1 ≤ kd ∧ kd ≤ 5; omega) (by show ¬ 64 < pay.length; omega) ⟨by show ds.length = 2; omega, fun j hj => hsz j (by omega)⟩]; rfl, hE⟩ | exact ⟨by rw [evE_27 (by show 1 ≤ act ∧ act ≤ 3 ∧ 0 ≤ rg ∧ rg ≤ 11 ∧ 1 ≤ kd ∧ kd ≤ 5; omega) (by show ¬ 64 < pay.length; omega) (fun hh => by have h1 : ds.length = 2 := hh.1; first | omega | (have h2 : (ds.getD i []).length = szE kd act i := hh.2 i (by omega); rw [hgf] at h2; omega))]; rfl, hE⟩
  first | replace h11 := dT h11 | replace h11 := nT h11 | skip
  refine vP ?_
  refine vP ?_
  refine vT ?_
  refine vM ?_
  refine Wl.guardF rfl rfl rfl rfl ?_
  refine vP ?_
  refine vP ?_
  refine vP ?_
  refine vT ?_
  refine vM ?_
  refine Wl.guardF rfl rfl rfl rfl ?_
  refine vP ?_
  refine vP ?_
  refine vP ?_
  refine vT ?_
  refine vM ?_
  refine Wl.guardF rfl rfl rfl rfl ?_
  refine vP ?_
  refine vP ?_
  refine vP ?_
  refine vT ?_
  refine vM ?_
  refine Wl.guardF rfl rfl rfl rfl ?_
  refine vP ?_
  refine vP ?_
  refine vP ?_
  refine vT ?_
  refine vA ?_
  refine vn (hK3 _ _ ?_)
  refine Wc.condT rfl rfl ?_
  refine vs fun K25 hK25 => vR [] ?_
  refine vA ?_
  refine vn (hK25 _ _ ?_)
  refine Wc.ret ?_
  refine Wx.blockR ?_
  refine Wx.thenR ?_
  refine Wx.ret [_] ⟨rfl, trivial⟩ ?_
  first | exact ⟨by rw [evE_1 (by show ¬ (1 ≤ act ∧ act ≤ 3 ∧ 0 ≤ rg ∧ rg ≤ 11 ∧ 1 ≤ kd ∧ kd ≤ 5); omega)]; rfl, hE⟩ | exact ⟨by rw [evE_4 (by show 1 ≤ act ∧ act ≤ 3 ∧ 0 ≤ rg ∧ rg ≤ 11 ∧ 1 ≤ kd ∧ kd ≤ 5; omega) (by show 64 < pay.length; omega)]; rfl, hE⟩ | exact ⟨by rw [evE_0 (by show 1 ≤ act ∧ act ≤ 3 ∧ 0 ≤ rg ∧ rg ≤ 11 ∧ 1 ≤ kd ∧ kd ≤ 5; omega) (by show ¬ 64 < pay.length; omega) ⟨by show ds.length = 2; omega, fun j hj => hsz j (by omega)⟩]; rfl, hE⟩ | exact ⟨by rw [evE_27 (by show 1 ≤ act ∧ act ≤ 3 ∧ 0 ≤ rg ∧ rg ≤ 11 ∧ 1 ≤ kd ∧ kd ≤ 5; omega) (by show ¬ 64 < pay.length; omega) (fun hh => by have h1 : ds.length = 2 := hh.1; first | omega | (have h2 : (ds.getD i []).length = szE kd act i := hh.2 i (by omega); rw [hgf] at h2; omega))]; rfl, hE⟩
end Go.Proofs.YtnbgieccindpnaaDoor
/- Events: encodable, Event of the reference, Encode of both. -/
namespace Go.Proofs.YtnbgieccindpnaaDoor
set_option linter.all false
set_option maxRecDepth 20000
open Go.RowKit
theorem wr_no {x : Ev} (h : ¬ (0 ≤ x.reg ∧ x.reg ≤ 11 ∧ 1 ≤ x.kind ∧ x.kind ≤ 5 ∧ x.ds.length = 2 ∧ x.pay.length ≤ 64)) : ¬ wrE x := fun ⟨⟨a, b, c, e⟩, f, g, _⟩ => h ⟨a, b, c, e, f, g⟩
theorem wr_no2 {x : Ev} {i : Nat} (hi : i < 2) (h : ¬ (x.ds.getD i []).length ≤ 32) : ¬ wrE x := fun ⟨_, _, _, k⟩ => h (k i hi)
theorem wr_yes {x : Ev} (h : 0 ≤ x.reg ∧ x.reg ≤ 11 ∧ 1 ≤ x.kind ∧ x.kind ≤ 5 ∧ x.ds.length = 2 ∧ x.pay.length ≤ 64) (h2 : ∀ i < 2, (x.ds.getD i []).length ≤ 32) : wrE x := ⟨⟨h.1, h.2.1, h.2.2.1, h.2.2.2.1⟩, h.2.2.2.2.1, h.2.2.2.2.2, h2⟩
set_option maxRecDepth 20000 in
set_option maxHeartbeats 2000000 in
theorem evWrP {P : Nat → Prop} (w : World) (rg kd : Int) (D : Option Addr) (dn dc : Nat) (ds : List (List UInt8)) (S : Option Addr) (m d : Nat) (pay : List UInt8) (hd : BL w P D dn dc ds) (hp : BV w P S m d pay) :
    Calls Tryd.prog 58 #[.agg #[.int .i64 rg, .int .i64 kd, .slice D dn dc, .slice S m d]] w fun e w' => e = .returned (.bool (decide (wrE ⟨rg, kd, ds, pay⟩))) ∧ Ext w w' := by
  have hdl := hd.len
  have hpl := hp.len
  refine calls_enter Tryd.func58 rfl Tryd.ntmps58 rfl ?_
  have hE : Ext w w := Ext.refl w
  refine vs fun K1 hK1 => vR [(0, _)] ?_
  refine Wl.does rfl rfl rfl (Does.boxA rfl rfl) ?_
  rintro _ w0_0 ⟨b1, rfl, hs1, hb1, hx0_0⟩
  have hg1 : w.heap.size ≤ b1 := Nat.le_trans hE.size hs1
  replace hE := hE.trans hx0_0
  refine vA ?_
  refine vn (hK1 _ _ ?_)
  refine Wc.seq (fun K2 hK2 => ?_)
  refine vs fun K3 hK3 => vR [(1, _)] ?_
  refine vF 0 Tryd.underlying34 ?_
  refine vL hb1 ?_
  refine vl (Gives.lss rfl rfl rfl) ?_
  refine vM ?_
  refine Wl.guard rfl rfl rfl (fun h8 => ?_) (fun h8 => ?_)
  · first | replace h8 := dF h8 | replace h8 := nF h8 | skip
    refine vF 0 Tryd.underlying34 ?_
    refine vL hb1 ?_
    refine vl (Gives.gtr rfl rfl rfl) ?_
    refine vU ?_
    refine vM ?_
    refine Wl.guard rfl rfl rfl (fun h13 => ?_) (fun h13 => ?_)
    · first | replace h13 := dF h13 | replace h13 := nF h13 | skip
      refine vF 1 Tryd.underlying34 ?_
      refine vL hb1 ?_
      refine vl (Gives.lss rfl rfl rfl) ?_
      refine vU ?_
      refine vM ?_
      refine Wl.guard rfl rfl rfl (fun h18 => ?_) (fun h18 => ?_)
      · first | replace h18 := dF h18 | replace h18 := nF h18 | skip
        refine vF 1 Tryd.underlying34 ?_
        refine vL hb1 ?_
        refine vl (Gives.gtr rfl rfl rfl) ?_
        refine vU ?_
        refine vM ?_
        refine Wl.guard rfl rfl rfl (fun h23 => ?_) (fun h23 => ?_)
        · first | replace h23 := dF h23 | replace h23 := nF h23 | skip
          refine vF 2 Tryd.underlying34 ?_
          refine vL hb1 ?_
          refine vl (Gives.lenS rfl Tryd.underlying32 rfl) ?_
          refine vl (Gives.neq rfl rfl rfl) ?_
          refine vU ?_
          refine vM ?_
          refine Wl.guard rfl rfl rfl (fun h29 => ?_) (fun h29 => ?_)
          · first | replace h29 := dF h29 | replace h29 := nF h29 | skip
            refine vF 3 Tryd.underlying34 ?_
            refine vL hb1 ?_
            refine vl (Gives.lenS rfl Tryd.underlying22 rfl) ?_
            refine vl (Gives.gtr rfl rfl rfl) ?_
            refine vU ?_
            refine vn (hK3 _ _ ?_)
            refine Wc.cond _ rfl (fun h34 => ?_) (fun h34 => ?_)
            · first | replace h34 := dT h34 | replace h34 := nT h34 | skip
              refine vs fun K4 hK4 => vR [] ?_
              refine vA ?_
              refine vn (hK4 _ _ ?_)
              refine Wc.ret ?_
              refine Wx.thenR ?_
              refine Wx.ret [_] ⟨rfl, trivial⟩ ?_
              first | exact ⟨by rw [decide_eq_false (wr_no (by show ¬ (0 ≤ rg ∧ rg ≤ 11 ∧ 1 ≤ kd ∧ kd ≤ 5 ∧ ds.length = 2 ∧ pay.length ≤ 64); omega))]; rfl, hE⟩ | exact ⟨by rw [decide_eq_false (wr_no2 (i := i) (by omega) (by show ¬ (ds.getD i []).length ≤ 32; rw [hgf]; omega))]; rfl, hE⟩ | exact ⟨by rw [decide_eq_true (wr_yes (by show 0 ≤ rg ∧ rg ≤ 11 ∧ 1 ≤ kd ∧ kd ≤ 5 ∧ ds.length = 2 ∧ pay.length ≤ 64; omega) (fun j hj => hsz j (by omega)))]; rfl, hE⟩
            first | replace h34 := dF h34 | replace h34 := nF h34 | skip
            refine Wc.skip ?_
            refine Wx.thenN (hK2 _ _ ?_)
            refine Wc.seq (fun K5 hK5 => ?_)
            refine vs fun K6 hK6 => vR [(1, _)] ?_
            refine vF 2 Tryd.underlying34 ?_
            refine vL hb1 ?_
            refine vl (Gives.lenS rfl Tryd.underlying32 rfl) ?_
            refine vM ?_
            refine vn (hK6 _ _ ?_)
            refine Wc.block ?_
            refine vK [(36, _), (37, _), (38, _)] ?_
            refine Wc.loopC (ι := Nat) [(36, _), (37, _)] (fun i => [(38, .int .i64 (i : Int))]) (fun i wr => i ≤ 2 ∧ (∀ j < i, (ds.getD j []).length ≤ 32) ∧ Ext w wr) (fun i => 2 - i) (0) (.co (.cons rfl (.cons rfl (.nil)))) (⟨by omega, fun j hj => absurd hj (by omega), hE⟩) ?_
            intro i wr hJ KL1 hKL1
            clear hE
            obtain ⟨hi, hsz, hE⟩ := hJ
            refine vs fun K7 hK7 => vR [(36, _), (37, _), (38, _)] ?_
            refine vl (Gives.lss rfl rfl rfl) ?_
            refine vn (hK7 _ _ ?_)
            refine Wc.seq (fun K8 hK8 => ?_)
            refine Wc.cond _ rfl (fun h39 => ?_) (fun h39 => ?_)
            · first | replace h39 := dT h39 | replace h39 := nT h39 | skip
              refine Wc.skip ?_
              refine Wx.thenN (hK8 _ _ ?_)
              refine Wc.seq (fun K9 hK9 => ?_)
              refine Wc.block ?_
              refine vs fun K10 hK10 => vK [(36, _), (37, _), (38, _)] ?_
              obtain ⟨xb, xo, rfl, hbw, f, fA, fn, fc, hz, hcell, hF⟩ := (hd.ext hE).at'' (show i < dn by omega)
              have hfl := hF.len
              have hgf := getD_bl hz
              refine Wc.region ?_
              refine vl (Gives.ixS (i := _) rfl Tryd.underlying32 (by kernel_rfl) rfl rfl rfl (by omega)) ?_
              refine vl (Gives.ldC rfl (by kernel_rfl) rfl hcell) ?_
              refine vA ?_
              refine vn (hK10 _ _ ?_)
              refine vs fun K11 hK11 => vK [(4, _), (36, _), (37, _), (38, _)] ?_
              have hs1 : szD 1 = 32 := rfl
              refine Wc.region ?_
              refine vM ?_
              refine vl (Gives.lenS rfl Tryd.underlying22 rfl) ?_
              refine vl (Gives.call rfl Tryd.func57 rfl (by kernel_rfl) rfl (sizeP _ 1 (by omega))) ?_
              refine vl (Gives.gtr rfl rfl rfl) ?_
              refine vn (hK11 _ _ ?_)
              refine Wc.cond _ rfl (fun h45 => ?_) (fun h45 => ?_)
              · first | replace h45 := dT h45 | replace h45 := nT h45 | skip
                refine vs fun K12 hK12 => vR [] ?_
                refine vA ?_
                refine vn (hK12 _ _ ?_)
                refine Wc.ret ?_
                refine Wx.blockR ?_
                refine Wx.thenR ?_
                refine Wx.thenR ?_
                refine Wx.blockR ?_
                refine Wx.thenR ?_
                refine Wx.ret [_] ⟨rfl, trivial⟩ ?_
                first | exact ⟨by rw [decide_eq_false (wr_no (by show ¬ (0 ≤ rg ∧ rg ≤ 11 ∧ 1 ≤ kd ∧ kd ≤ 5 ∧ ds.length = 2 ∧ pay.length ≤ 64); omega))]; rfl, hE⟩ | exact ⟨by rw [decide_eq_false (wr_no2 (i := i) (by omega) (by show ¬ (ds.getD i []).length ≤ 32; rw [hgf]; omega))]; rfl, hE⟩ | exact ⟨by rw [decide_eq_true (wr_yes (by show 0 ≤ rg ∧ rg ≤ 11 ∧ 1 ≤ kd ∧ kd ≤ 5 ∧ ds.length = 2 ∧ pay.length ≤ 64; omega) (fun j hj => hsz j (by omega)))]; rfl, hE⟩
              first | replace h45 := dF h45 | replace h45 := nF h45 | skip
              refine Wc.skip ?_
              refine Wx.blockN ?_
              refine Wx.thenN (hK9 _ _ ?_)
              refine vR [(36, _), (37, _), (38, _)] ?_
              refine vAdd ?_
              refine vM ?_
              refine Wl.nil ?_
              refine Wx.thenN ?_
              refine hKL1 (i + 1) _ _ (.co (.cons rfl (.cons rfl (.nil)))) ⟨by omega, fun j hj => ?_, hE⟩ (by show 2 - (i + 1) < 2 - i; omega)
              rcases Nat.lt_or_ge j i with hji | hji
              · exact hsz j hji
              · obtain rfl : j = i := by omega
                rw [hgf]; omega
            first | replace h39 := dF h39 | replace h39 := nF h39 | skip
            refine Wc.exit ?_
            refine Wx.thenE ?_
            refine Wx.thenE ?_
            refine Wx.hit ?_
            refine Wx.thenN (hK5 _ _ ?_)
            refine vs fun K13 hK13 => vR [] ?_
            refine vA ?_
            refine vn (hK13 _ _ ?_)
            refine Wc.ret ?_
            refine Wx.ret [_] ⟨rfl, trivial⟩ ?_
            first | exact ⟨by rw [decide_eq_false (wr_no (by show ¬ (0 ≤ rg ∧ rg ≤ 11 ∧ 1 ≤ kd ∧ kd ≤ 5 ∧ ds.length = 2 ∧ pay.length ≤ 64); omega))]; rfl, hE⟩ | exact ⟨by rw [decide_eq_false (wr_no2 (i := i) (by omega) (by show ¬ (ds.getD i []).length ≤ 32; rw [hgf]; omega))]; rfl, hE⟩ | exact ⟨by rw [decide_eq_true (wr_yes (by show 0 ≤ rg ∧ rg ≤ 11 ∧ 1 ≤ kd ∧ kd ≤ 5 ∧ ds.length = 2 ∧ pay.length ≤ 64; omega) (fun j hj => hsz j (by omega)))]; rfl, hE⟩
          first | replace h29 := dT h29 | replace h29 := nT h29 | skip
          refine vP ?_
          refine vP ?_
          refine vP ?_
          refine vP ?_
          refine vT ?_
          refine vn (hK3 _ _ ?_)
          refine Wc.condT rfl rfl ?_
          refine vs fun K14 hK14 => vR [] ?_
          refine vA ?_
          refine vn (hK14 _ _ ?_)
          refine Wc.ret ?_
          refine Wx.thenR ?_
          refine Wx.ret [_] ⟨rfl, trivial⟩ ?_
          first | exact ⟨by rw [decide_eq_false (wr_no (by show ¬ (0 ≤ rg ∧ rg ≤ 11 ∧ 1 ≤ kd ∧ kd ≤ 5 ∧ ds.length = 2 ∧ pay.length ≤ 64); omega))]; rfl, hE⟩ | exact ⟨by rw [decide_eq_false (wr_no2 (i := i) (by omega) (by show ¬ (ds.getD i []).length ≤ 32; rw [hgf]; omega))]; rfl, hE⟩ | exact ⟨by rw [decide_eq_true (wr_yes (by show 0 ≤ rg ∧ rg ≤ 11 ∧ 1 ≤ kd ∧ kd ≤ 5 ∧ ds.length = 2 ∧ pay.length ≤ 64; omega) (fun j hj => hsz j (by omega)))]; rfl, hE⟩
        first | replace h23 := dT h23 | replace h23 := nT h23 | skip
        refine vP ?_
        refine vP ?_
        refine vP ?_
        refine vP ?_
        refine vT ?_
        refine vM ?_
        refine Wl.guardF rfl rfl rfl rfl ?_
        refine vP ?_
        refine vP ?_
        refine vP ?_
        refine vP ?_
        refine vT ?_
        refine vn (hK3 _ _ ?_)
        refine Wc.condT rfl rfl ?_
        refine vs fun K15 hK15 => vR [] ?_
        refine vA ?_
        refine vn (hK15 _ _ ?_)
        refine Wc.ret ?_
        refine Wx.thenR ?_
        refine Wx.ret [_] ⟨rfl, trivial⟩ ?_
        first | exact ⟨by rw [decide_eq_false (wr_no (by show ¬ (0 ≤ rg ∧ rg ≤ 11 ∧ 1 ≤ kd ∧ kd ≤ 5 ∧ ds.length = 2 ∧ pay.length ≤ 64); omega))]; rfl, hE⟩ | exact ⟨by rw [decide_eq_false (wr_no2 (i := i) (by omega) (by show ¬ (ds.getD i []).length ≤ 32; rw [hgf]; omega))]; rfl, hE⟩ | exact ⟨by rw [decide_eq_true (wr_yes (by show 0 ≤ rg ∧ rg ≤ 11 ∧ 1 ≤ kd ∧ kd ≤ 5 ∧ ds.length = 2 ∧ pay.length ≤ 64; omega) (fun j hj => hsz j (by omega)))]; rfl, hE⟩
      first | replace h18 := dT h18 | replace h18 := nT h18 | skip
      refine vP ?_
      refine vP ?_
      refine vP ?_
      refine vT ?_
      refine vM ?_
      refine Wl.guardF rfl rfl rfl rfl ?_
      refine vP ?_
      refine vP ?_
      refine vP ?_
      refine vP ?_
      refine vT ?_
      refine vM ?_
      refine Wl.guardF rfl rfl rfl rfl ?_
      refine vP ?_
      refine vP ?_
      refine vP ?_
      refine vP ?_
      refine vT ?_
      refine vn (hK3 _ _ ?_)
      refine Wc.condT rfl rfl ?_
      refine vs fun K16 hK16 => vR [] ?_
      refine vA ?_
      refine vn (hK16 _ _ ?_)
      refine Wc.ret ?_
      refine Wx.thenR ?_
      refine Wx.ret [_] ⟨rfl, trivial⟩ ?_
      first | exact ⟨by rw [decide_eq_false (wr_no (by show ¬ (0 ≤ rg ∧ rg ≤ 11 ∧ 1 ≤ kd ∧ kd ≤ 5 ∧ ds.length = 2 ∧ pay.length ≤ 64); omega))]; rfl, hE⟩ | exact ⟨by rw [decide_eq_false (wr_no2 (i := i) (by omega) (by show ¬ (ds.getD i []).length ≤ 32; rw [hgf]; omega))]; rfl, hE⟩ | exact ⟨by rw [decide_eq_true (wr_yes (by show 0 ≤ rg ∧ rg ≤ 11 ∧ 1 ≤ kd ∧ kd ≤ 5 ∧ ds.length = 2 ∧ pay.length ≤ 64; omega) (fun j hj => hsz j (by omega)))]; rfl, hE⟩
    first | replace h13 := dT h13 | replace h13 := nT h13 | skip
    refine vP ?_
    refine vP ?_
    refine vP ?_
    refine vT ?_
    refine vM ?_
    refine Wl.guardF rfl rfl rfl rfl ?_
    refine vP ?_
    refine vP ?_
    refine vP ?_
    refine vT ?_
    refine vM ?_
    refine Wl.guardF rfl rfl rfl rfl ?_
    refine vP ?_
    refine vP ?_
    refine vP ?_
    refine vP ?_
    refine vT ?_
    refine vM ?_
    refine Wl.guardF rfl rfl rfl rfl ?_
    refine vP ?_
    refine vP ?_
    refine vP ?_
    refine vP ?_
    refine vT ?_
    refine vn (hK3 _ _ ?_)
    refine Wc.condT rfl rfl ?_
    refine vs fun K17 hK17 => vR [] ?_
    refine vA ?_
    refine vn (hK17 _ _ ?_)
    refine Wc.ret ?_
    refine Wx.thenR ?_
    refine Wx.ret [_] ⟨rfl, trivial⟩ ?_
    first | exact ⟨by rw [decide_eq_false (wr_no (by show ¬ (0 ≤ rg ∧ rg ≤ 11 ∧ 1 ≤ kd ∧ kd ≤ 5 ∧ ds.length = 2 ∧ pay.length ≤ 64); omega))]; rfl, hE⟩ | exact ⟨by rw [decide_eq_false (wr_no2 (i := i) (by omega) (by show ¬ (ds.getD i []).length ≤ 32; rw [hgf]; omega))]; rfl, hE⟩ | exact ⟨by rw [decide_eq_true (wr_yes (by show 0 ≤ rg ∧ rg ≤ 11 ∧ 1 ≤ kd ∧ kd ≤ 5 ∧ ds.length = 2 ∧ pay.length ≤ 64; omega) (fun j hj => hsz j (by omega)))]; rfl, hE⟩
  first | replace h8 := dT h8 | replace h8 := nT h8 | skip
  refine vP ?_
  refine vP ?_
  refine vP ?_
  refine vT ?_
  refine vM ?_
  refine Wl.guardF rfl rfl rfl rfl ?_
  refine vP ?_
  refine vP ?_
  refine vP ?_
  refine vT ?_
  refine vM ?_
  refine Wl.guardF rfl rfl rfl rfl ?_
  refine vP ?_
  refine vP ?_
  refine vP ?_
  refine vT ?_
  refine vM ?_
  refine Wl.guardF rfl rfl rfl rfl ?_
  refine vP ?_
  refine vP ?_
  refine vP ?_
  refine vP ?_
  refine vT ?_
  refine vM ?_
  refine Wl.guardF rfl rfl rfl rfl ?_
  refine vP ?_
  refine vP ?_
  refine vP ?_
  refine vP ?_
  refine vT ?_
  refine vn (hK3 _ _ ?_)
  refine Wc.condT rfl rfl ?_
  refine vs fun K18 hK18 => vR [] ?_
  refine vA ?_
  refine vn (hK18 _ _ ?_)
  refine Wc.ret ?_
  refine Wx.thenR ?_
  refine Wx.ret [_] ⟨rfl, trivial⟩ ?_
  first | exact ⟨by rw [decide_eq_false (wr_no (by show ¬ (0 ≤ rg ∧ rg ≤ 11 ∧ 1 ≤ kd ∧ kd ≤ 5 ∧ ds.length = 2 ∧ pay.length ≤ 64); omega))]; rfl, hE⟩ | exact ⟨by rw [decide_eq_false (wr_no2 (i := i) (by omega) (by show ¬ (ds.getD i []).length ≤ 32; rw [hgf]; omega))]; rfl, hE⟩ | exact ⟨by rw [decide_eq_true (wr_yes (by show 0 ≤ rg ∧ rg ≤ 11 ∧ 1 ≤ kd ∧ kd ≤ 5 ∧ ds.length = 2 ∧ pay.length ≤ 64; omega) (fun j hj => hsz j (by omega)))]; rfl, hE⟩
set_option maxRecDepth 20000 in
set_option maxHeartbeats 2000000 in
theorem evWrR {P : Nat → Prop} (w : World) (rg kd : Int) (D : Option Addr) (dn dc : Nat) (ds : List (List UInt8)) (S : Option Addr) (m d : Nat) (pay : List UInt8) (hd : BL w P D dn dc ds) (hp : BV w P S m d pay) :
    Calls Tryd.prog 45 #[.agg #[.int .i64 rg, .int .i64 kd, .slice D dn dc, .slice S m d]] w fun e w' => e = .returned (.bool (decide (wrE ⟨rg, kd, ds, pay⟩))) ∧ Ext w w' := by
  have hdl := hd.len
  have hpl := hp.len
  refine calls_enter Tryd.func45 rfl Tryd.ntmps45 rfl ?_
  have hE : Ext w w := Ext.refl w
  refine vs fun K1 hK1 => vR [(0, _)] ?_
  refine Wl.does rfl rfl rfl (Does.boxA rfl rfl) ?_
  rintro _ w0_0 ⟨b1, rfl, hs1, hb1, hx0_0⟩
  have hg1 : w.heap.size ≤ b1 := Nat.le_trans hE.size hs1
  replace hE := hE.trans hx0_0
  refine vA ?_
  refine vn (hK1 _ _ ?_)
  refine Wc.seq (fun K2 hK2 => ?_)
  refine vs fun K3 hK3 => vR [(1, _)] ?_
  refine vF 0 Tryd.underlying34 ?_
  refine vL hb1 ?_
  refine vl (Gives.lss rfl rfl rfl) ?_
  refine vM ?_
  refine Wl.guard rfl rfl rfl (fun h6 => ?_) (fun h6 => ?_)
  · first | replace h6 := dF h6 | replace h6 := nF h6 | skip
    refine vF 0 Tryd.underlying34 ?_
    refine vL hb1 ?_
    refine vl (Gives.gtr rfl rfl rfl) ?_
    refine vU ?_
    refine vM ?_
    refine Wl.guard rfl rfl rfl (fun h11 => ?_) (fun h11 => ?_)
    · first | replace h11 := dF h11 | replace h11 := nF h11 | skip
      refine vF 1 Tryd.underlying34 ?_
      refine vL hb1 ?_
      refine vl (Gives.lss rfl rfl rfl) ?_
      refine vU ?_
      refine vM ?_
      refine Wl.guard rfl rfl rfl (fun h16 => ?_) (fun h16 => ?_)
      · first | replace h16 := dF h16 | replace h16 := nF h16 | skip
        refine vF 1 Tryd.underlying34 ?_
        refine vL hb1 ?_
        refine vl (Gives.gtr rfl rfl rfl) ?_
        refine vU ?_
        refine vM ?_
        refine Wl.guard rfl rfl rfl (fun h21 => ?_) (fun h21 => ?_)
        · first | replace h21 := dF h21 | replace h21 := nF h21 | skip
          refine vF 3 Tryd.underlying34 ?_
          refine vL hb1 ?_
          refine vl (Gives.lenS rfl Tryd.underlying22 rfl) ?_
          refine vl (Gives.gtr rfl rfl rfl) ?_
          refine vU ?_
          refine vM ?_
          refine Wl.guard rfl rfl rfl (fun h27 => ?_) (fun h27 => ?_)
          · first | replace h27 := dF h27 | replace h27 := nF h27 | skip
            refine vF 2 Tryd.underlying34 ?_
            refine vL hb1 ?_
            refine vl (Gives.lenS rfl Tryd.underlying32 rfl) ?_
            refine vl (Gives.neq rfl rfl rfl) ?_
            refine vU ?_
            refine vn (hK3 _ _ ?_)
            refine Wc.cond _ rfl (fun h32 => ?_) (fun h32 => ?_)
            · first | replace h32 := dT h32 | replace h32 := nT h32 | skip
              refine vs fun K4 hK4 => vR [] ?_
              refine vA ?_
              refine vn (hK4 _ _ ?_)
              refine Wc.ret ?_
              refine Wx.thenR ?_
              refine Wx.ret [_] ⟨rfl, trivial⟩ ?_
              first | exact ⟨by rw [decide_eq_false (wr_no (by show ¬ (0 ≤ rg ∧ rg ≤ 11 ∧ 1 ≤ kd ∧ kd ≤ 5 ∧ ds.length = 2 ∧ pay.length ≤ 64); omega))]; rfl, hE⟩ | exact ⟨by rw [decide_eq_false (wr_no2 (i := 0) (by omega) (by show ¬ (ds.getD 0 []).length ≤ 32; rw [hgf]; omega))]; rfl, hE⟩ | (refine ⟨?_, hE⟩; show Ending.returned (.bool (decide ((fn2 : Int) ≤ 32))) = Ending.returned (.bool (decide (wrE ⟨rg, kd, ds, pay⟩))); rw [decide_eq_decide.2 (show ((fn2 : Int) ≤ 32) ↔ wrE ⟨rg, kd, ds, pay⟩ from ⟨fun h2 => wr_yes (by show 0 ≤ rg ∧ rg ≤ 11 ∧ 1 ≤ kd ∧ kd ≤ 5 ∧ ds.length = 2 ∧ pay.length ≤ 64; omega) (fun j hj => by { rcases (show j = 0 ∨ j = 1 by omega) with rfl | rfl; { show (ds.getD 0 []).length ≤ 32; rw [hgf]; omega }; { show (ds.getD 1 []).length ≤ 32; rw [hgf2]; omega } }), fun h2 => by { have h3 : (ds.getD 1 []).length ≤ 32 := h2.2.2.2 1 (by omega); rw [hgf2] at h3; omega }⟩)])
            first | replace h32 := dF h32 | replace h32 := nF h32 | skip
            refine Wc.skip ?_
            refine Wx.thenN (hK2 _ _ ?_)
            refine vs fun K5 hK5 => vK [(1, _)] ?_
            obtain ⟨xb, xo, rfl, hbw, f, fA, fn, fc, hz, hcell, hF⟩ := (hd.ext hE).at'' (show 0 < dn by omega)
            obtain ⟨xb2, xo2, hA2, _, f2, fA2, fn2, fc2, hz2, hcell2, hF2⟩ := (hd.ext hE).at'' (show 1 < dn by omega)
            cases hA2
            have hfl := hF.len
            have hfl2 := hF2.len
            have hgf := getD_bl hz
            have hgf2 := getD_bl hz2
            refine Wc.region ?_
            refine vF 2 Tryd.underlying34 ?_
            refine vL hb1 ?_
            refine vl (Gives.ixS (i := 0) rfl Tryd.underlying32 (by kernel_rfl) rfl rfl (by omega) (by omega)) ?_
            refine vl (Gives.ldC rfl (by kernel_rfl) rfl hcell) ?_
            refine vl (Gives.lenS rfl Tryd.underlying22 rfl) ?_
            refine vl (Gives.leq rfl rfl rfl) ?_
            refine vM ?_
            refine Wl.guard rfl rfl rfl (fun h39 => ?_) (fun h39 => ?_)
            · first | replace h39 := dT h39 | replace h39 := nT h39 | skip
              refine vF 2 Tryd.underlying34 ?_
              refine vL hb1 ?_
              refine vl (Gives.ixS (i := 1) rfl Tryd.underlying32 (by kernel_rfl) rfl rfl (by omega) (by omega)) ?_
              refine vl (Gives.ldC rfl (by kernel_rfl) rfl hcell2) ?_
              refine vl (Gives.lenS rfl Tryd.underlying22 rfl) ?_
              refine vl (Gives.leq rfl rfl rfl) ?_
              refine vT ?_
              refine vA ?_
              refine vn (hK5 _ _ ?_)
              refine Wc.ret ?_
              refine Wx.ret [_] ⟨rfl, trivial⟩ ?_
              first | exact ⟨by rw [decide_eq_false (wr_no (by show ¬ (0 ≤ rg ∧ rg ≤ 11 ∧ 1 ≤ kd ∧ kd ≤ 5 ∧ ds.length = 2 ∧ pay.length ≤ 64); omega))]; rfl, hE⟩ | exact ⟨by rw [decide_eq_false (wr_no2 (i := 0) (by omega) (by show ¬ (ds.getD 0 []).length ≤ 32; rw [hgf]; omega))]; rfl, hE⟩ | (refine ⟨?_, hE⟩; show Ending.returned (.bool (decide ((fn2 : Int) ≤ 32))) = Ending.returned (.bool (decide (wrE ⟨rg, kd, ds, pay⟩))); rw [decide_eq_decide.2 (show ((fn2 : Int) ≤ 32) ↔ wrE ⟨rg, kd, ds, pay⟩ from ⟨fun h2 => wr_yes (by show 0 ≤ rg ∧ rg ≤ 11 ∧ 1 ≤ kd ∧ kd ≤ 5 ∧ ds.length = 2 ∧ pay.length ≤ 64; omega) (fun j hj => by { rcases (show j = 0 ∨ j = 1 by omega) with rfl | rfl; { show (ds.getD 0 []).length ≤ 32; rw [hgf]; omega }; { show (ds.getD 1 []).length ≤ 32; rw [hgf2]; omega } }), fun h2 => by { have h3 : (ds.getD 1 []).length ≤ 32 := h2.2.2.2 1 (by omega); rw [hgf2] at h3; omega }⟩)])
            first | replace h39 := dF h39 | replace h39 := nF h39 | skip
            refine vP ?_
            refine vP ?_
            refine vP ?_
            refine vP ?_
            refine vP ?_
            refine vP ?_
            refine vU ?_
            refine vA ?_
            refine vn (hK5 _ _ ?_)
            refine Wc.ret ?_
            refine Wx.ret [_] ⟨rfl, trivial⟩ ?_
            first | exact ⟨by rw [decide_eq_false (wr_no (by show ¬ (0 ≤ rg ∧ rg ≤ 11 ∧ 1 ≤ kd ∧ kd ≤ 5 ∧ ds.length = 2 ∧ pay.length ≤ 64); omega))]; rfl, hE⟩ | exact ⟨by rw [decide_eq_false (wr_no2 (i := 0) (by omega) (by show ¬ (ds.getD 0 []).length ≤ 32; rw [hgf]; omega))]; rfl, hE⟩ | (refine ⟨?_, hE⟩; show Ending.returned (.bool (decide ((fn2 : Int) ≤ 32))) = Ending.returned (.bool (decide (wrE ⟨rg, kd, ds, pay⟩))); rw [decide_eq_decide.2 (show ((fn2 : Int) ≤ 32) ↔ wrE ⟨rg, kd, ds, pay⟩ from ⟨fun h2 => wr_yes (by show 0 ≤ rg ∧ rg ≤ 11 ∧ 1 ≤ kd ∧ kd ≤ 5 ∧ ds.length = 2 ∧ pay.length ≤ 64; omega) (fun j hj => by { rcases (show j = 0 ∨ j = 1 by omega) with rfl | rfl; { show (ds.getD 0 []).length ≤ 32; rw [hgf]; omega }; { show (ds.getD 1 []).length ≤ 32; rw [hgf2]; omega } }), fun h2 => by { have h3 : (ds.getD 1 []).length ≤ 32 := h2.2.2.2 1 (by omega); rw [hgf2] at h3; omega }⟩)])
          first | replace h27 := dT h27 | replace h27 := nT h27 | skip
          refine vP ?_
          refine vP ?_
          refine vP ?_
          refine vP ?_
          refine vT ?_
          refine vn (hK3 _ _ ?_)
          refine Wc.condT rfl rfl ?_
          refine vs fun K6 hK6 => vR [] ?_
          refine vA ?_
          refine vn (hK6 _ _ ?_)
          refine Wc.ret ?_
          refine Wx.thenR ?_
          refine Wx.ret [_] ⟨rfl, trivial⟩ ?_
          first | exact ⟨by rw [decide_eq_false (wr_no (by show ¬ (0 ≤ rg ∧ rg ≤ 11 ∧ 1 ≤ kd ∧ kd ≤ 5 ∧ ds.length = 2 ∧ pay.length ≤ 64); omega))]; rfl, hE⟩ | exact ⟨by rw [decide_eq_false (wr_no2 (i := 0) (by omega) (by show ¬ (ds.getD 0 []).length ≤ 32; rw [hgf]; omega))]; rfl, hE⟩ | (refine ⟨?_, hE⟩; show Ending.returned (.bool (decide ((fn2 : Int) ≤ 32))) = Ending.returned (.bool (decide (wrE ⟨rg, kd, ds, pay⟩))); rw [decide_eq_decide.2 (show ((fn2 : Int) ≤ 32) ↔ wrE ⟨rg, kd, ds, pay⟩ from ⟨fun h2 => wr_yes (by show 0 ≤ rg ∧ rg ≤ 11 ∧ 1 ≤ kd ∧ kd ≤ 5 ∧ ds.length = 2 ∧ pay.length ≤ 64; omega) (fun j hj => by { rcases (show j = 0 ∨ j = 1 by omega) with rfl | rfl; { show (ds.getD 0 []).length ≤ 32; rw [hgf]; omega }; { show (ds.getD 1 []).length ≤ 32; rw [hgf2]; omega } }), fun h2 => by { have h3 : (ds.getD 1 []).length ≤ 32 := h2.2.2.2 1 (by omega); rw [hgf2] at h3; omega }⟩)])
        first | replace h21 := dT h21 | replace h21 := nT h21 | skip
        refine vP ?_
        refine vP ?_
        refine vP ?_
        refine vP ?_
        refine vT ?_
        refine vM ?_
        refine Wl.guardF rfl rfl rfl rfl ?_
        refine vP ?_
        refine vP ?_
        refine vP ?_
        refine vP ?_
        refine vT ?_
        refine vn (hK3 _ _ ?_)
        refine Wc.condT rfl rfl ?_
        refine vs fun K7 hK7 => vR [] ?_
        refine vA ?_
        refine vn (hK7 _ _ ?_)
        refine Wc.ret ?_
        refine Wx.thenR ?_
        refine Wx.ret [_] ⟨rfl, trivial⟩ ?_
        first | exact ⟨by rw [decide_eq_false (wr_no (by show ¬ (0 ≤ rg ∧ rg ≤ 11 ∧ 1 ≤ kd ∧ kd ≤ 5 ∧ ds.length = 2 ∧ pay.length ≤ 64); omega))]; rfl, hE⟩ | exact ⟨by rw [decide_eq_false (wr_no2 (i := 0) (by omega) (by show ¬ (ds.getD 0 []).length ≤ 32; rw [hgf]; omega))]; rfl, hE⟩ | (refine ⟨?_, hE⟩; show Ending.returned (.bool (decide ((fn2 : Int) ≤ 32))) = Ending.returned (.bool (decide (wrE ⟨rg, kd, ds, pay⟩))); rw [decide_eq_decide.2 (show ((fn2 : Int) ≤ 32) ↔ wrE ⟨rg, kd, ds, pay⟩ from ⟨fun h2 => wr_yes (by show 0 ≤ rg ∧ rg ≤ 11 ∧ 1 ≤ kd ∧ kd ≤ 5 ∧ ds.length = 2 ∧ pay.length ≤ 64; omega) (fun j hj => by { rcases (show j = 0 ∨ j = 1 by omega) with rfl | rfl; { show (ds.getD 0 []).length ≤ 32; rw [hgf]; omega }; { show (ds.getD 1 []).length ≤ 32; rw [hgf2]; omega } }), fun h2 => by { have h3 : (ds.getD 1 []).length ≤ 32 := h2.2.2.2 1 (by omega); rw [hgf2] at h3; omega }⟩)])
      first | replace h16 := dT h16 | replace h16 := nT h16 | skip
      refine vP ?_
      refine vP ?_
      refine vP ?_
      refine vT ?_
      refine vM ?_
      refine Wl.guardF rfl rfl rfl rfl ?_
      refine vP ?_
      refine vP ?_
      refine vP ?_
      refine vP ?_
      refine vT ?_
      refine vM ?_
      refine Wl.guardF rfl rfl rfl rfl ?_
      refine vP ?_
      refine vP ?_
      refine vP ?_
      refine vP ?_
      refine vT ?_
      refine vn (hK3 _ _ ?_)
      refine Wc.condT rfl rfl ?_
      refine vs fun K8 hK8 => vR [] ?_
      refine vA ?_
      refine vn (hK8 _ _ ?_)
      refine Wc.ret ?_
      refine Wx.thenR ?_
      refine Wx.ret [_] ⟨rfl, trivial⟩ ?_
      first | exact ⟨by rw [decide_eq_false (wr_no (by show ¬ (0 ≤ rg ∧ rg ≤ 11 ∧ 1 ≤ kd ∧ kd ≤ 5 ∧ ds.length = 2 ∧ pay.length ≤ 64); omega))]; rfl, hE⟩ | exact ⟨by rw [decide_eq_false (wr_no2 (i := 0) (by omega) (by show ¬ (ds.getD 0 []).length ≤ 32; rw [hgf]; omega))]; rfl, hE⟩ | (refine ⟨?_, hE⟩; show Ending.returned (.bool (decide ((fn2 : Int) ≤ 32))) = Ending.returned (.bool (decide (wrE ⟨rg, kd, ds, pay⟩))); rw [decide_eq_decide.2 (show ((fn2 : Int) ≤ 32) ↔ wrE ⟨rg, kd, ds, pay⟩ from ⟨fun h2 => wr_yes (by show 0 ≤ rg ∧ rg ≤ 11 ∧ 1 ≤ kd ∧ kd ≤ 5 ∧ ds.length = 2 ∧ pay.length ≤ 64; omega) (fun j hj => by { rcases (show j = 0 ∨ j = 1 by omega) with rfl | rfl; { show (ds.getD 0 []).length ≤ 32; rw [hgf]; omega }; { show (ds.getD 1 []).length ≤ 32; rw [hgf2]; omega } }), fun h2 => by { have h3 : (ds.getD 1 []).length ≤ 32 := h2.2.2.2 1 (by omega); rw [hgf2] at h3; omega }⟩)])
    first | replace h11 := dT h11 | replace h11 := nT h11 | skip
    refine vP ?_
    refine vP ?_
    refine vP ?_
    refine vT ?_
    refine vM ?_
    refine Wl.guardF rfl rfl rfl rfl ?_
    refine vP ?_
    refine vP ?_
    refine vP ?_
    refine vT ?_
    refine vM ?_
    refine Wl.guardF rfl rfl rfl rfl ?_
    refine vP ?_
    refine vP ?_
    refine vP ?_
    refine vP ?_
    refine vT ?_
    refine vM ?_
    refine Wl.guardF rfl rfl rfl rfl ?_
    refine vP ?_
    refine vP ?_
    refine vP ?_
    refine vP ?_
    refine vT ?_
    refine vn (hK3 _ _ ?_)
    refine Wc.condT rfl rfl ?_
    refine vs fun K9 hK9 => vR [] ?_
    refine vA ?_
    refine vn (hK9 _ _ ?_)
    refine Wc.ret ?_
    refine Wx.thenR ?_
    refine Wx.ret [_] ⟨rfl, trivial⟩ ?_
    first | exact ⟨by rw [decide_eq_false (wr_no (by show ¬ (0 ≤ rg ∧ rg ≤ 11 ∧ 1 ≤ kd ∧ kd ≤ 5 ∧ ds.length = 2 ∧ pay.length ≤ 64); omega))]; rfl, hE⟩ | exact ⟨by rw [decide_eq_false (wr_no2 (i := 0) (by omega) (by show ¬ (ds.getD 0 []).length ≤ 32; rw [hgf]; omega))]; rfl, hE⟩ | (refine ⟨?_, hE⟩; show Ending.returned (.bool (decide ((fn2 : Int) ≤ 32))) = Ending.returned (.bool (decide (wrE ⟨rg, kd, ds, pay⟩))); rw [decide_eq_decide.2 (show ((fn2 : Int) ≤ 32) ↔ wrE ⟨rg, kd, ds, pay⟩ from ⟨fun h2 => wr_yes (by show 0 ≤ rg ∧ rg ≤ 11 ∧ 1 ≤ kd ∧ kd ≤ 5 ∧ ds.length = 2 ∧ pay.length ≤ 64; omega) (fun j hj => by { rcases (show j = 0 ∨ j = 1 by omega) with rfl | rfl; { show (ds.getD 0 []).length ≤ 32; rw [hgf]; omega }; { show (ds.getD 1 []).length ≤ 32; rw [hgf2]; omega } }), fun h2 => by { have h3 : (ds.getD 1 []).length ≤ 32 := h2.2.2.2 1 (by omega); rw [hgf2] at h3; omega }⟩)])
  first | replace h6 := dT h6 | replace h6 := nT h6 | skip
  refine vP ?_
  refine vP ?_
  refine vP ?_
  refine vT ?_
  refine vM ?_
  refine Wl.guardF rfl rfl rfl rfl ?_
  refine vP ?_
  refine vP ?_
  refine vP ?_
  refine vT ?_
  refine vM ?_
  refine Wl.guardF rfl rfl rfl rfl ?_
  refine vP ?_
  refine vP ?_
  refine vP ?_
  refine vT ?_
  refine vM ?_
  refine Wl.guardF rfl rfl rfl rfl ?_
  refine vP ?_
  refine vP ?_
  refine vP ?_
  refine vP ?_
  refine vT ?_
  refine vM ?_
  refine Wl.guardF rfl rfl rfl rfl ?_
  refine vP ?_
  refine vP ?_
  refine vP ?_
  refine vP ?_
  refine vT ?_
  refine vn (hK3 _ _ ?_)
  refine Wc.condT rfl rfl ?_
  refine vs fun K10 hK10 => vR [] ?_
  refine vA ?_
  refine vn (hK10 _ _ ?_)
  refine Wc.ret ?_
  refine Wx.thenR ?_
  refine Wx.ret [_] ⟨rfl, trivial⟩ ?_
  first | exact ⟨by rw [decide_eq_false (wr_no (by show ¬ (0 ≤ rg ∧ rg ≤ 11 ∧ 1 ≤ kd ∧ kd ≤ 5 ∧ ds.length = 2 ∧ pay.length ≤ 64); omega))]; rfl, hE⟩ | exact ⟨by rw [decide_eq_false (wr_no2 (i := 0) (by omega) (by show ¬ (ds.getD 0 []).length ≤ 32; rw [hgf]; omega))]; rfl, hE⟩ | (refine ⟨?_, hE⟩; show Ending.returned (.bool (decide ((fn2 : Int) ≤ 32))) = Ending.returned (.bool (decide (wrE ⟨rg, kd, ds, pay⟩))); rw [decide_eq_decide.2 (show ((fn2 : Int) ≤ 32) ↔ wrE ⟨rg, kd, ds, pay⟩ from ⟨fun h2 => wr_yes (by show 0 ≤ rg ∧ rg ≤ 11 ∧ 1 ≤ kd ∧ kd ≤ 5 ∧ ds.length = 2 ∧ pay.length ≤ 64; omega) (fun j hj => by { rcases (show j = 0 ∨ j = 1 by omega) with rfl | rfl; { show (ds.getD 0 []).length ≤ 32; rw [hgf]; omega }; { show (ds.getD 1 []).length ≤ 32; rw [hgf2]; omega } }), fun h2 => by { have h3 : (ds.getD 1 []).length ≤ 32 := h2.2.2.2 1 (by omega); rw [hgf2] at h3; omega }⟩)])
set_option maxRecDepth 20000 in
set_option maxHeartbeats 2000000 in
theorem evFitR {P : Nat → Prop} (w : World) (rg kd : Int) (D : Option Addr) (dn dc : Nat) (ds : List (List UInt8)) (S : Option Addr) (m d : Nat) (pay : List UInt8) (hd : BL w P D dn dc ds) (hp : BV w P S m d pay) (act : Int) :
    Calls Tryd.prog 73 #[.agg #[.int .i64 rg, .int .i64 kd, .slice D dn dc, .slice S m d], .int .i64 act] w fun e w' => e = .returned (.bool (decide (fitE ⟨rg, kd, ds, pay⟩ act))) ∧ Ext w w' := by
  have hdl := hd.len
  have hpl := hp.len
  refine calls_enter Tryd.func73 rfl Tryd.ntmps73 rfl ?_
  have hE : Ext w w := Ext.refl w
  refine vs fun K1 hK1 => vR [(0, _), (1, _)] ?_
  refine Wl.does rfl rfl rfl (Does.boxA rfl rfl) ?_
  rintro _ w0_0 ⟨b2, rfl, hs2, hb2, hx0_0⟩
  have hg2 : w.heap.size ≤ b2 := Nat.le_trans hE.size hs2
  replace hE := hE.trans hx0_0
  refine vA ?_
  refine vn (hK1 _ _ ?_)
  refine Wc.seq (fun K2 hK2 => ?_)
  refine vs fun K3 hK3 => vR [(1, _), (2, _)] ?_
  refine vF 2 Tryd.underlying34 ?_
  refine vL hb2 ?_
  refine vl (Gives.lenS rfl Tryd.underlying32 rfl) ?_
  refine vl (Gives.neq rfl rfl rfl) ?_
  refine vn (hK3 _ _ ?_)
  refine Wc.cond _ rfl (fun h10 => ?_) (fun h10 => ?_)
  · first | replace h10 := dT h10 | replace h10 := nT h10 | skip
    refine vs fun K4 hK4 => vR [] ?_
    refine vA ?_
    refine vn (hK4 _ _ ?_)
    refine Wc.ret ?_
    refine Wx.thenR ?_
    refine Wx.ret [_] ⟨rfl, trivial⟩ ?_
    first | exact ⟨by rw [decide_eq_false (fun hh => by have h1 : ds.length = 2 := hh.1; omega)]; rfl, hE⟩ | exact ⟨by rw [decide_eq_false (fun hh => by have h2 : (ds.getD i []).length = szE kd act i := hh.2 i (by omega); rw [hgf] at h2; omega)]; rfl, hE⟩ | exact ⟨by rw [decide_eq_true (show fitE ⟨rg, kd, ds, pay⟩ act from ⟨by show ds.length = 2; omega, fun j hj => hsz j (by omega)⟩)]; rfl, hE⟩
  first | replace h10 := dF h10 | replace h10 := nF h10 | skip
  refine Wc.skip ?_
  refine Wx.thenN (hK2 _ _ ?_)
  refine Wc.seq (fun K5 hK5 => ?_)
  refine vs fun K6 hK6 => vR [(1, _), (2, _)] ?_
  refine vA ?_
  refine vn (hK6 _ _ ?_)
  refine Wc.block ?_
  refine vK [(1, _), (2, _), (5, _)] ?_
  refine Wc.loopC (ι := Nat) [(1, _), (2, _)] (fun i => [(5, .int .i64 (i : Int))]) (fun i wr => i ≤ 2 ∧ (∀ j < i, (ds.getD j []).length = szE kd act j) ∧ Blk wr b2 34 #[.int .i64 rg, .int .i64 kd, .slice D dn dc, .slice S m d] ∧ Ext w wr) (fun i => 2 - i) (0) (.co (.cons rfl (.cons rfl (.nil)))) (⟨by omega, fun j hj => absurd hj (by omega), hb2, hE⟩) ?_
  intro i wr hJ KL1 hKL1
  clear hE hb2
  obtain ⟨hi, hsz, hb2, hE⟩ := hJ
  refine Wc.seq (fun K7 hK7 => ?_)
  refine vs fun K8 hK8 => vR [(1, _), (2, _), (5, _)] ?_
  refine vM ?_
  refine vl (Gives.lss rfl rfl rfl) ?_
  refine vn (hK8 _ _ ?_)
  refine Wc.cond _ rfl (fun h12 => ?_) (fun h12 => ?_)
  · first | replace h12 := dT h12 | replace h12 := nT h12 | skip
    refine Wc.skip ?_
    refine Wx.thenN (hK7 _ _ ?_)
    refine Wc.seq (fun K9 hK9 => ?_)
    refine Wc.block ?_
    refine vs fun K10 hK10 => vK [(1, _), (2, _), (5, _)] ?_
    obtain ⟨xb, xo, rfl, hbw, f, fA, fn, fc, hz, hcell, hF⟩ := (hd.ext hE).at'' (show i < dn by omega)
    have hfl := hF.len
    have hgf := getD_bl hz
    refine Wc.region ?_
    refine vA ?_
    refine vn (hK10 _ _ ?_)
    refine Wc.joinC (ι := Nat) [(1, _), (2, _), (5, _)] (fun q => [(6, .int .i64 (q : Int))]) (fun q wr => q = szE kd act i ∧ Blk wr b2 34 #[.int .i64 rg, .int .i64 kd, .slice (some ⟨xb, xo, none⟩) dn dc, .slice S m d] ∧ Ext w wr) ?_ ?_ (.cons rfl (.cons rfl (.cons rfl (.nil))))
    · intro K11 hJ11
      refine vs fun K12 hK12 => vR [(1, _), (2, _), (5, _), (6, _)] ?_
      refine vF 1 Tryd.underlying34 ?_
      refine vL hb2 ?_
      refine vl (Gives.neq rfl rfl rfl) ?_
      refine vM ?_
      refine Wl.guard rfl rfl rfl (fun h18 => ?_) (fun h18 => ?_)
      · first | replace h18 := dT h18 | replace h18 := nT h18 | skip
        refine vM ?_
        refine vM ?_
        refine vl (Gives.call rfl Tryd.func55 rfl (by kernel_rfl) rfl (hasR _ act i (by omega))) ?_
        refine vT ?_
        refine vn (hK12 _ _ ?_)
        refine Wc.cond _ rfl (fun h22 => ?_) (fun h22 => ?_)
        · first | replace h22 := dT h22 | replace h22 := nT h22 | skip
          refine vR [(1, _), (2, _), (5, _)] ?_
          refine vM ?_
          refine vl (Gives.call rfl Tryd.func90 rfl (by kernel_rfl) rfl (sizeR _ i (by omega))) ?_
          refine vA ?_
          refine Wl.nil ?_
          refine Wx.thenN ?_
          first | exact hJ11 (szD i) _ _ (.co (.cons rfl (.cons rfl (.cons rfl (.nil))))) ⟨(szE_y (by omega) (by first | exact h22 | exact decide_eq_true h22)).symm, hb2, hE⟩ | exact hJ11 0 _ _ (.co (.cons rfl (.cons rfl (.cons rfl (.nil))))) ⟨(szE_n (fun hh => by obtain ⟨hh1, hh2⟩ := hh; omega)).symm, hb2, hE⟩ | exact hJ11 0 _ _ (.co (.cons rfl (.cons rfl (.cons rfl (.nil))))) ⟨(szE_n (fun hh => by obtain ⟨hh1, hh2⟩ := hh; first | exact h22 (of_decide_eq_true hh2) | (rw [h22] at hh2; cases hh2))).symm, hb2, hE⟩
        first | replace h22 := dF h22 | replace h22 := nF h22 | skip
        refine Wc.skip ?_
        refine Wx.thenN ?_
        first | exact hJ11 (szD i) _ _ (.co (.cons rfl (.cons rfl (.cons rfl (.nil))))) ⟨(szE_y (by omega) (by first | exact h22 | exact decide_eq_true h22)).symm, hb2, hE⟩ | exact hJ11 0 _ _ (.co (.cons rfl (.cons rfl (.cons rfl (.nil))))) ⟨(szE_n (fun hh => by obtain ⟨hh1, hh2⟩ := hh; omega)).symm, hb2, hE⟩ | exact hJ11 0 _ _ (.co (.cons rfl (.cons rfl (.cons rfl (.nil))))) ⟨(szE_n (fun hh => by obtain ⟨hh1, hh2⟩ := hh; first | exact h22 (of_decide_eq_true hh2) | (rw [h22] at hh2; cases hh2))).symm, hb2, hE⟩
      first | replace h18 := dF h18 | replace h18 := nF h18 | skip
      refine vP ?_
      refine vP ?_
      refine vP ?_
      refine vU ?_
      refine vn (hK12 _ _ ?_)
      refine Wc.condF rfl rfl ?_
      refine Wc.skip ?_
      refine Wx.thenN ?_
      first | exact hJ11 (szD i) _ _ (.co (.cons rfl (.cons rfl (.cons rfl (.nil))))) ⟨(szE_y (by omega) (by first | exact h22 | exact decide_eq_true h22)).symm, hb2, hE⟩ | exact hJ11 0 _ _ (.co (.cons rfl (.cons rfl (.cons rfl (.nil))))) ⟨(szE_n (fun hh => by obtain ⟨hh1, hh2⟩ := hh; omega)).symm, hb2, hE⟩ | exact hJ11 0 _ _ (.co (.cons rfl (.cons rfl (.cons rfl (.nil))))) ⟨(szE_n (fun hh => by obtain ⟨hh1, hh2⟩ := hh; first | exact h22 (of_decide_eq_true hh2) | (rw [h22] at hh2; cases hh2))).symm, hb2, hE⟩
    intro q wj hJ
    clear hE hb2
    obtain ⟨rfl, hb2, hE⟩ := hJ
    refine vs fun K13 hK13 => vK [(1, _), (2, _), (5, _), (6, _)] ?_
    obtain ⟨xb', xo', hA', _, f', fA', fn', fc', hz', hcell', hF'⟩ := (hd.ext hE).at'' (show i < dn by omega)
    cases hA'
    have hfl' := hF'.len
    obtain rfl : f = f' := Option.some.inj (hz.symm.trans hz')
    refine Wc.region ?_
    refine vF 2 Tryd.underlying34 ?_
    refine vL hb2 ?_
    refine vM ?_
    refine vl (Gives.ixS (i := _) rfl Tryd.underlying32 (by kernel_rfl) rfl rfl rfl (by omega)) ?_
    refine vl (Gives.ldC rfl (by kernel_rfl) rfl hcell') ?_
    refine vl (Gives.lenS rfl Tryd.underlying22 rfl) ?_
    refine vM ?_
    refine vl (Gives.neq rfl rfl rfl) ?_
    refine vn (hK13 _ _ ?_)
    refine Wc.cond _ rfl (fun h32 => ?_) (fun h32 => ?_)
    · first | replace h32 := dT h32 | replace h32 := nT h32 | skip
      refine vs fun K14 hK14 => vR [] ?_
      refine vA ?_
      refine vn (hK14 _ _ ?_)
      refine Wc.ret ?_
      refine Wx.blockR ?_
      refine Wx.thenR ?_
      refine Wx.thenR ?_
      refine Wx.blockR ?_
      refine Wx.thenR ?_
      refine Wx.ret [_] ⟨rfl, trivial⟩ ?_
      first | exact ⟨by rw [decide_eq_false (fun hh => by have h1 : ds.length = 2 := hh.1; omega)]; rfl, hE⟩ | exact ⟨by rw [decide_eq_false (fun hh => by have h2 : (ds.getD i []).length = szE kd act i := hh.2 i (by omega); rw [hgf] at h2; omega)]; rfl, hE⟩ | exact ⟨by rw [decide_eq_true (show fitE ⟨rg, kd, ds, pay⟩ act from ⟨by show ds.length = 2; omega, fun j hj => hsz j (by omega)⟩)]; rfl, hE⟩
    first | replace h32 := dF h32 | replace h32 := nF h32 | skip
    refine Wc.skip ?_
    refine Wx.blockN ?_
    refine Wx.thenN (hK9 _ _ ?_)
    refine vR [(1, _), (2, _), (5, _)] ?_
    refine vM ?_
    refine vAdd ?_
    refine vA ?_
    refine Wl.nil ?_
    refine Wx.thenN ?_
    refine hKL1 (i + 1) _ _ (.co (.cons rfl (.cons rfl (.nil)))) ⟨by omega, fun j hj => ?_, hb2, hE⟩ (by show 2 - (i + 1) < 2 - i; omega)
    rcases Nat.lt_or_ge j i with hji | hji
    · exact hsz j hji
    · obtain rfl : j = i := by omega
      rw [hgf]; omega
  first | replace h12 := dF h12 | replace h12 := nF h12 | skip
  refine Wc.exit ?_
  refine Wx.thenE ?_
  refine Wx.thenE ?_
  refine Wx.hit ?_
  refine Wx.thenN (hK5 _ _ ?_)
  refine vs fun K15 hK15 => vR [] ?_
  refine vA ?_
  refine vn (hK15 _ _ ?_)
  refine Wc.ret ?_
  refine Wx.ret [_] ⟨rfl, trivial⟩ ?_
  first | exact ⟨by rw [decide_eq_false (fun hh => by have h1 : ds.length = 2 := hh.1; omega)]; rfl, hE⟩ | exact ⟨by rw [decide_eq_false (fun hh => by have h2 : (ds.getD i []).length = szE kd act i := hh.2 i (by omega); rw [hgf] at h2; omega)]; rfl, hE⟩ | exact ⟨by rw [decide_eq_true (show fitE ⟨rg, kd, ds, pay⟩ act from ⟨by show ds.length = 2; omega, fun j hj => hsz j (by omega)⟩)]; rfl, hE⟩
set_option maxRecDepth 20000 in
set_option maxHeartbeats 2000000 in
theorem evCheckR {P : Nat → Prop} (w : World) (rg kd : Int) (D : Option Addr) (dn dc : Nat) (ds : List (List UInt8)) (S : Option Addr) (m d : Nat) (pay : List UInt8) (hd : BL w P D dn dc ds) (hp : BV w P S m d pay) (act : Int) :
    Calls Tryd.prog 50 #[.agg #[.int .i64 rg, .int .i64 kd, .slice D dn dc, .slice S m d], .int .i64 act] w fun e w' => e = .returned (.int .i64 (evE ⟨rg, kd, ds, pay⟩ act)) ∧ Ext w w' := by
  have hpl := hp.len
  refine calls_enter Tryd.func50 rfl Tryd.ntmps50 rfl ?_
  have hE : Ext w w := Ext.refl w
  refine vs fun K1 hK1 => vR [(0, _), (1, _)] ?_
  refine Wl.does rfl rfl rfl (Does.boxA rfl rfl) ?_
  rintro _ w0_0 ⟨b2, rfl, hs2, hb2, hx0_0⟩
  have hg2 : w.heap.size ≤ b2 := Nat.le_trans hE.size hs2
  replace hE := hE.trans hx0_0
  refine vA ?_
  refine vn (hK1 _ _ ?_)
  refine Wc.seq (fun K2 hK2 => ?_)
  refine vs fun K3 hK3 => vR [(1, _), (2, _)] ?_
  refine vM ?_
  refine vl (Gives.lss rfl rfl rfl) ?_
  refine vM ?_
  refine Wl.guard rfl rfl rfl (fun h7 => ?_) (fun h7 => ?_)
  · first | replace h7 := dF h7 | replace h7 := nF h7 | skip
    refine vM ?_
    refine vl (Gives.gtr rfl rfl rfl) ?_
    refine vU ?_
    refine vM ?_
    refine Wl.guard rfl rfl rfl (fun h11 => ?_) (fun h11 => ?_)
    · first | replace h11 := dF h11 | replace h11 := nF h11 | skip
      refine vF 0 Tryd.underlying34 ?_
      refine vL hb2 ?_
      refine vl (Gives.lss rfl rfl rfl) ?_
      refine vU ?_
      refine vM ?_
      refine Wl.guard rfl rfl rfl (fun h16 => ?_) (fun h16 => ?_)
      · first | replace h16 := dF h16 | replace h16 := nF h16 | skip
        refine vF 0 Tryd.underlying34 ?_
        refine vL hb2 ?_
        refine vl (Gives.gtr rfl rfl rfl) ?_
        refine vU ?_
        refine vM ?_
        refine Wl.guard rfl rfl rfl (fun h21 => ?_) (fun h21 => ?_)
        · first | replace h21 := dF h21 | replace h21 := nF h21 | skip
          refine vF 1 Tryd.underlying34 ?_
          refine vL hb2 ?_
          refine vl (Gives.lss rfl rfl rfl) ?_
          refine vU ?_
          refine vM ?_
          refine Wl.guard rfl rfl rfl (fun h26 => ?_) (fun h26 => ?_)
          · first | replace h26 := dF h26 | replace h26 := nF h26 | skip
            refine vF 1 Tryd.underlying34 ?_
            refine vL hb2 ?_
            refine vl (Gives.gtr rfl rfl rfl) ?_
            refine vU ?_
            refine vn (hK3 _ _ ?_)
            refine Wc.cond _ rfl (fun h30 => ?_) (fun h30 => ?_)
            · first | replace h30 := dT h30 | replace h30 := nT h30 | skip
              refine vs fun K4 hK4 => vR [] ?_
              refine vA ?_
              refine vn (hK4 _ _ ?_)
              refine Wc.ret ?_
              refine Wx.thenR ?_
              refine Wx.ret [_] ⟨rfl, trivial⟩ ?_
              first | exact ⟨by rw [evE_1 (by show ¬ (1 ≤ act ∧ act ≤ 3 ∧ 0 ≤ rg ∧ rg ≤ 11 ∧ 1 ≤ kd ∧ kd ≤ 5); omega)]; rfl, hE⟩ | exact ⟨by rw [evE_4 (by show 1 ≤ act ∧ act ≤ 3 ∧ 0 ≤ rg ∧ rg ≤ 11 ∧ 1 ≤ kd ∧ kd ≤ 5; omega) (by show 64 < pay.length; omega)]; rfl, hE⟩ | exact ⟨by rw [evE_0 (by show 1 ≤ act ∧ act ≤ 3 ∧ 0 ≤ rg ∧ rg ≤ 11 ∧ 1 ≤ kd ∧ kd ≤ 5; omega) (by show ¬ 64 < pay.length; omega) (by simpa using h38)]; rfl, hE⟩ | exact ⟨by rw [evE_27 (by show 1 ≤ act ∧ act ≤ 3 ∧ 0 ≤ rg ∧ rg ≤ 11 ∧ 1 ≤ kd ∧ kd ≤ 5; omega) (by show ¬ 64 < pay.length; omega) (by simpa using h38)]; rfl, hE⟩
            first | replace h30 := dF h30 | replace h30 := nF h30 | skip
            refine Wc.skip ?_
            refine Wx.thenN (hK2 _ _ ?_)
            refine Wc.seq (fun K5 hK5 => ?_)
            refine vs fun K6 hK6 => vR [(1, _), (2, _)] ?_
            refine vF 3 Tryd.underlying34 ?_
            refine vL hb2 ?_
            refine vl (Gives.lenS rfl Tryd.underlying22 rfl) ?_
            refine vl (Gives.gtr rfl rfl rfl) ?_
            refine vn (hK6 _ _ ?_)
            refine Wc.cond _ rfl (fun h34 => ?_) (fun h34 => ?_)
            · first | replace h34 := dT h34 | replace h34 := nT h34 | skip
              refine vs fun K7 hK7 => vR [] ?_
              refine vA ?_
              refine vn (hK7 _ _ ?_)
              refine Wc.ret ?_
              refine Wx.thenR ?_
              refine Wx.ret [_] ⟨rfl, trivial⟩ ?_
              first | exact ⟨by rw [evE_1 (by show ¬ (1 ≤ act ∧ act ≤ 3 ∧ 0 ≤ rg ∧ rg ≤ 11 ∧ 1 ≤ kd ∧ kd ≤ 5); omega)]; rfl, hE⟩ | exact ⟨by rw [evE_4 (by show 1 ≤ act ∧ act ≤ 3 ∧ 0 ≤ rg ∧ rg ≤ 11 ∧ 1 ≤ kd ∧ kd ≤ 5; omega) (by show 64 < pay.length; omega)]; rfl, hE⟩ | exact ⟨by rw [evE_0 (by show 1 ≤ act ∧ act ≤ 3 ∧ 0 ≤ rg ∧ rg ≤ 11 ∧ 1 ≤ kd ∧ kd ≤ 5; omega) (by show ¬ 64 < pay.length; omega) (by simpa using h38)]; rfl, hE⟩ | exact ⟨by rw [evE_27 (by show 1 ≤ act ∧ act ≤ 3 ∧ 0 ≤ rg ∧ rg ≤ 11 ∧ 1 ≤ kd ∧ kd ≤ 5; omega) (by show ¬ 64 < pay.length; omega) (by simpa using h38)]; rfl, hE⟩
            first | replace h34 := dF h34 | replace h34 := nF h34 | skip
            refine Wc.skip ?_
            refine Wx.thenN (hK5 _ _ ?_)
            refine Wc.seq (fun K8 hK8 => ?_)
            refine vs fun K9 hK9 => vR [(1, _), (2, _)] ?_
            refine vl (Gives.ldW rfl (by kernel_rfl) rfl hb2 (by kernel_rfl)) ?_
            refine vM ?_
            refine Wl.call rfl rfl rfl rfl Tryd.func73 rfl (by kernel_rfl) rfl (evFitR _ rg kd D dn dc ds S m d pay (hd.ext hE) (hp.ext hE) act) ?_
            rintro x1 w1 ⟨rfl, hx1⟩
            refine ⟨_, rfl, ?_⟩
            replace hb2 := hb2.ext hx1
            replace hE := hE.trans hx1
            refine vl (Gives.not rfl rfl) ?_
            refine vn (hK9 _ _ ?_)
            refine Wc.cond _ rfl (fun h38 => ?_) (fun h38 => ?_)
            · first | replace h38 := dT h38 | replace h38 := nT h38 | skip
              refine vs fun K10 hK10 => vR [] ?_
              refine vA ?_
              refine vn (hK10 _ _ ?_)
              refine Wc.ret ?_
              refine Wx.thenR ?_
              refine Wx.ret [_] ⟨rfl, trivial⟩ ?_
              first | exact ⟨by rw [evE_1 (by show ¬ (1 ≤ act ∧ act ≤ 3 ∧ 0 ≤ rg ∧ rg ≤ 11 ∧ 1 ≤ kd ∧ kd ≤ 5); omega)]; rfl, hE⟩ | exact ⟨by rw [evE_4 (by show 1 ≤ act ∧ act ≤ 3 ∧ 0 ≤ rg ∧ rg ≤ 11 ∧ 1 ≤ kd ∧ kd ≤ 5; omega) (by show 64 < pay.length; omega)]; rfl, hE⟩ | exact ⟨by rw [evE_0 (by show 1 ≤ act ∧ act ≤ 3 ∧ 0 ≤ rg ∧ rg ≤ 11 ∧ 1 ≤ kd ∧ kd ≤ 5; omega) (by show ¬ 64 < pay.length; omega) (by simpa using h38)]; rfl, hE⟩ | exact ⟨by rw [evE_27 (by show 1 ≤ act ∧ act ≤ 3 ∧ 0 ≤ rg ∧ rg ≤ 11 ∧ 1 ≤ kd ∧ kd ≤ 5; omega) (by show ¬ 64 < pay.length; omega) (by simpa using h38)]; rfl, hE⟩
            first | replace h38 := dF h38 | replace h38 := nF h38 | skip
            refine Wc.skip ?_
            refine Wx.thenN (hK8 _ _ ?_)
            refine vs fun K11 hK11 => vR [] ?_
            refine vA ?_
            refine vn (hK11 _ _ ?_)
            refine Wc.ret ?_
            refine Wx.ret [_] ⟨rfl, trivial⟩ ?_
            first | exact ⟨by rw [evE_1 (by show ¬ (1 ≤ act ∧ act ≤ 3 ∧ 0 ≤ rg ∧ rg ≤ 11 ∧ 1 ≤ kd ∧ kd ≤ 5); omega)]; rfl, hE⟩ | exact ⟨by rw [evE_4 (by show 1 ≤ act ∧ act ≤ 3 ∧ 0 ≤ rg ∧ rg ≤ 11 ∧ 1 ≤ kd ∧ kd ≤ 5; omega) (by show 64 < pay.length; omega)]; rfl, hE⟩ | exact ⟨by rw [evE_0 (by show 1 ≤ act ∧ act ≤ 3 ∧ 0 ≤ rg ∧ rg ≤ 11 ∧ 1 ≤ kd ∧ kd ≤ 5; omega) (by show ¬ 64 < pay.length; omega) (by simpa using h38)]; rfl, hE⟩ | exact ⟨by rw [evE_27 (by show 1 ≤ act ∧ act ≤ 3 ∧ 0 ≤ rg ∧ rg ≤ 11 ∧ 1 ≤ kd ∧ kd ≤ 5; omega) (by show ¬ 64 < pay.length; omega) (by simpa using h38)]; rfl, hE⟩
          first | replace h26 := dT h26 | replace h26 := nT h26 | skip
          refine vP ?_
          refine vP ?_
          refine vP ?_
          refine vT ?_
          refine vn (hK3 _ _ ?_)
          refine Wc.condT rfl rfl ?_
          refine vs fun K12 hK12 => vR [] ?_
          refine vA ?_
          refine vn (hK12 _ _ ?_)
          refine Wc.ret ?_
          refine Wx.thenR ?_
          refine Wx.ret [_] ⟨rfl, trivial⟩ ?_
          first | exact ⟨by rw [evE_1 (by show ¬ (1 ≤ act ∧ act ≤ 3 ∧ 0 ≤ rg ∧ rg ≤ 11 ∧ 1 ≤ kd ∧ kd ≤ 5); omega)]; rfl, hE⟩ | exact ⟨by rw [evE_4 (by show 1 ≤ act ∧ act ≤ 3 ∧ 0 ≤ rg ∧ rg ≤ 11 ∧ 1 ≤ kd ∧ kd ≤ 5; omega) (by show 64 < pay.length; omega)]; rfl, hE⟩ | exact ⟨by rw [evE_0 (by show 1 ≤ act ∧ act ≤ 3 ∧ 0 ≤ rg ∧ rg ≤ 11 ∧ 1 ≤ kd ∧ kd ≤ 5; omega) (by show ¬ 64 < pay.length; omega) (by simpa using h38)]; rfl, hE⟩ | exact ⟨by rw [evE_27 (by show 1 ≤ act ∧ act ≤ 3 ∧ 0 ≤ rg ∧ rg ≤ 11 ∧ 1 ≤ kd ∧ kd ≤ 5; omega) (by show ¬ 64 < pay.length; omega) (by simpa using h38)]; rfl, hE⟩
        first | replace h21 := dT h21 | replace h21 := nT h21 | skip
        refine vP ?_
        refine vP ?_
        refine vP ?_
        refine vT ?_
        refine vM ?_
        refine Wl.guardF rfl rfl rfl rfl ?_
        refine vP ?_
        refine vP ?_
        refine vP ?_
        refine vT ?_
        refine vn (hK3 _ _ ?_)
        refine Wc.condT rfl rfl ?_
        refine vs fun K13 hK13 => vR [] ?_
        refine vA ?_
        refine vn (hK13 _ _ ?_)
        refine Wc.ret ?_
        refine Wx.thenR ?_
        refine Wx.ret [_] ⟨rfl, trivial⟩ ?_
        first | exact ⟨by rw [evE_1 (by show ¬ (1 ≤ act ∧ act ≤ 3 ∧ 0 ≤ rg ∧ rg ≤ 11 ∧ 1 ≤ kd ∧ kd ≤ 5); omega)]; rfl, hE⟩ | exact ⟨by rw [evE_4 (by show 1 ≤ act ∧ act ≤ 3 ∧ 0 ≤ rg ∧ rg ≤ 11 ∧ 1 ≤ kd ∧ kd ≤ 5; omega) (by show 64 < pay.length; omega)]; rfl, hE⟩ | exact ⟨by rw [evE_0 (by show 1 ≤ act ∧ act ≤ 3 ∧ 0 ≤ rg ∧ rg ≤ 11 ∧ 1 ≤ kd ∧ kd ≤ 5; omega) (by show ¬ 64 < pay.length; omega) (by simpa using h38)]; rfl, hE⟩ | exact ⟨by rw [evE_27 (by show 1 ≤ act ∧ act ≤ 3 ∧ 0 ≤ rg ∧ rg ≤ 11 ∧ 1 ≤ kd ∧ kd ≤ 5; omega) (by show ¬ 64 < pay.length; omega) (by simpa using h38)]; rfl, hE⟩
      first | replace h16 := dT h16 | replace h16 := nT h16 | skip
      refine vP ?_
      refine vP ?_
      refine vP ?_
      refine vT ?_
      refine vM ?_
      refine Wl.guardF rfl rfl rfl rfl ?_
      refine vP ?_
      refine vP ?_
      refine vP ?_
      refine vT ?_
      refine vM ?_
      refine Wl.guardF rfl rfl rfl rfl ?_
      refine vP ?_
      refine vP ?_
      refine vP ?_
      refine vT ?_
      refine vn (hK3 _ _ ?_)
      refine Wc.condT rfl rfl ?_
      refine vs fun K14 hK14 => vR [] ?_
      refine vA ?_
      refine vn (hK14 _ _ ?_)
      refine Wc.ret ?_
      refine Wx.thenR ?_
      refine Wx.ret [_] ⟨rfl, trivial⟩ ?_
      first | exact ⟨by rw [evE_1 (by show ¬ (1 ≤ act ∧ act ≤ 3 ∧ 0 ≤ rg ∧ rg ≤ 11 ∧ 1 ≤ kd ∧ kd ≤ 5); omega)]; rfl, hE⟩ | exact ⟨by rw [evE_4 (by show 1 ≤ act ∧ act ≤ 3 ∧ 0 ≤ rg ∧ rg ≤ 11 ∧ 1 ≤ kd ∧ kd ≤ 5; omega) (by show 64 < pay.length; omega)]; rfl, hE⟩ | exact ⟨by rw [evE_0 (by show 1 ≤ act ∧ act ≤ 3 ∧ 0 ≤ rg ∧ rg ≤ 11 ∧ 1 ≤ kd ∧ kd ≤ 5; omega) (by show ¬ 64 < pay.length; omega) (by simpa using h38)]; rfl, hE⟩ | exact ⟨by rw [evE_27 (by show 1 ≤ act ∧ act ≤ 3 ∧ 0 ≤ rg ∧ rg ≤ 11 ∧ 1 ≤ kd ∧ kd ≤ 5; omega) (by show ¬ 64 < pay.length; omega) (by simpa using h38)]; rfl, hE⟩
    first | replace h11 := dT h11 | replace h11 := nT h11 | skip
    refine vP ?_
    refine vP ?_
    refine vP ?_
    refine vT ?_
    refine vM ?_
    refine Wl.guardF rfl rfl rfl rfl ?_
    refine vP ?_
    refine vP ?_
    refine vP ?_
    refine vT ?_
    refine vM ?_
    refine Wl.guardF rfl rfl rfl rfl ?_
    refine vP ?_
    refine vP ?_
    refine vP ?_
    refine vT ?_
    refine vM ?_
    refine Wl.guardF rfl rfl rfl rfl ?_
    refine vP ?_
    refine vP ?_
    refine vP ?_
    refine vT ?_
    refine vn (hK3 _ _ ?_)
    refine Wc.condT rfl rfl ?_
    refine vs fun K15 hK15 => vR [] ?_
    refine vA ?_
    refine vn (hK15 _ _ ?_)
    refine Wc.ret ?_
    refine Wx.thenR ?_
    refine Wx.ret [_] ⟨rfl, trivial⟩ ?_
    first | exact ⟨by rw [evE_1 (by show ¬ (1 ≤ act ∧ act ≤ 3 ∧ 0 ≤ rg ∧ rg ≤ 11 ∧ 1 ≤ kd ∧ kd ≤ 5); omega)]; rfl, hE⟩ | exact ⟨by rw [evE_4 (by show 1 ≤ act ∧ act ≤ 3 ∧ 0 ≤ rg ∧ rg ≤ 11 ∧ 1 ≤ kd ∧ kd ≤ 5; omega) (by show 64 < pay.length; omega)]; rfl, hE⟩ | exact ⟨by rw [evE_0 (by show 1 ≤ act ∧ act ≤ 3 ∧ 0 ≤ rg ∧ rg ≤ 11 ∧ 1 ≤ kd ∧ kd ≤ 5; omega) (by show ¬ 64 < pay.length; omega) (by simpa using h38)]; rfl, hE⟩ | exact ⟨by rw [evE_27 (by show 1 ≤ act ∧ act ≤ 3 ∧ 0 ≤ rg ∧ rg ≤ 11 ∧ 1 ≤ kd ∧ kd ≤ 5; omega) (by show ¬ 64 < pay.length; omega) (by simpa using h38)]; rfl, hE⟩
  first | replace h7 := dT h7 | replace h7 := nT h7 | skip
  refine vP ?_
  refine vP ?_
  refine vT ?_
  refine vM ?_
  refine Wl.guardF rfl rfl rfl rfl ?_
  refine vP ?_
  refine vP ?_
  refine vP ?_
  refine vT ?_
  refine vM ?_
  refine Wl.guardF rfl rfl rfl rfl ?_
  refine vP ?_
  refine vP ?_
  refine vP ?_
  refine vT ?_
  refine vM ?_
  refine Wl.guardF rfl rfl rfl rfl ?_
  refine vP ?_
  refine vP ?_
  refine vP ?_
  refine vT ?_
  refine vM ?_
  refine Wl.guardF rfl rfl rfl rfl ?_
  refine vP ?_
  refine vP ?_
  refine vP ?_
  refine vT ?_
  refine vn (hK3 _ _ ?_)
  refine Wc.condT rfl rfl ?_
  refine vs fun K16 hK16 => vR [] ?_
  refine vA ?_
  refine vn (hK16 _ _ ?_)
  refine Wc.ret ?_
  refine Wx.thenR ?_
  refine Wx.ret [_] ⟨rfl, trivial⟩ ?_
  first | exact ⟨by rw [evE_1 (by show ¬ (1 ≤ act ∧ act ≤ 3 ∧ 0 ≤ rg ∧ rg ≤ 11 ∧ 1 ≤ kd ∧ kd ≤ 5); omega)]; rfl, hE⟩ | exact ⟨by rw [evE_4 (by show 1 ≤ act ∧ act ≤ 3 ∧ 0 ≤ rg ∧ rg ≤ 11 ∧ 1 ≤ kd ∧ kd ≤ 5; omega) (by show 64 < pay.length; omega)]; rfl, hE⟩ | exact ⟨by rw [evE_0 (by show 1 ≤ act ∧ act ≤ 3 ∧ 0 ≤ rg ∧ rg ≤ 11 ∧ 1 ≤ kd ∧ kd ≤ 5; omega) (by show ¬ 64 < pay.length; omega) (by simpa using h38)]; rfl, hE⟩ | exact ⟨by rw [evE_27 (by show 1 ≤ act ∧ act ≤ 3 ∧ 0 ≤ rg ∧ rg ≤ 11 ∧ 1 ≤ kd ∧ kd ≤ 5; omega) (by show ¬ 64 < pay.length; omega) (by simpa using h38)]; rfl, hE⟩
end Go.Proofs.YtnbgieccindpnaaDoor
/- Events: Encode and Decode of both. -/
namespace Go.Proofs.YtnbgieccindpnaaDoor
set_option linter.all false
set_option maxRecDepth 20000
open Go.RowKit
def evB (x : Ev) : List UInt8 := if wrE x then blobS (x.ds.foldl blobS (uintS (uintS [] 1 x.reg) 1 x.kind)) x.pay else []
theorem evB_y {x : Ev} (h : wrE x) : evB x = blobS (x.ds.foldl blobS (uintS (uintS [] 1 x.reg) 1 x.kind)) x.pay := by unfold evB; rw [if_pos h]
theorem evB_n {x : Ev} (h : ¬ wrE x) : evB x = [] := by unfold evB; rw [if_neg h]
theorem two_ds {ds : List (List UInt8)} (h : ds.length = 2) : ds = [ds.getD 0 [], ds.getD 1 []] := by
  match ds, h with
  | [a, b], _ => rfl
theorem wr_ds {x : Ev} (h : wrE x) : ∃ a b, x.ds = [a, b] ∧ a.length ≤ 32 ∧ b.length ≤ 32 := ⟨_, _, two_ds h.2.1, h.2.2.2 0 (by omega), h.2.2.2 1 (by omega)⟩
theorem evB_eq {x : Ev} (h : wrE x) {a b : List UInt8} (hd : x.ds = [a, b]) : evB x = beS x.reg 1 ++ (beS x.kind 1 ++ (blobT a ++ (blobT b ++ blobT x.pay))) := by
  obtain ⟨a', b', hd', ha, hb⟩ := wr_ds h
  rw [hd] at hd'
  simp only [List.cons.injEq, and_true] at hd'
  obtain ⟨rfl, rfl⟩ := hd'
  have hp := h.2.2.1
  rw [evB_y h, hd]
  simp only [List.foldl_cons, List.foldl_nil]
  rw [blobS_eq _ _ (by omega), blobS_eq _ _ (by omega), blobS_eq _ _ (by omega), uintS_ok _ _ 1 (by omega) (by omega), uintS_ok _ _ 1 (by omega) (by omega)]
  simp only [List.append_assoc, List.nil_append]
  rfl
theorem evB_le (x : Ev) : (evB x).length ≤ 136 := by
  by_cases h : wrE x
  · obtain ⟨a, b, hd, ha, hb⟩ := wr_ds h
    have hp := h.2.2.1
    rw [evB_eq h hd]
    simp only [List.length_append, beS_len, blobT_len]
    omega
  · rw [evB_n h]; exact Nat.zero_le _
theorem byte_small {n : Int} (h : 0 ≤ n ∧ n < 256) : ((byteAt n 0).toNat : Int) = n := by
  unfold byteAt
  rw [UInt8.toNat_ofNat', Nat.pow_zero, Nat.div_one]
  omega
/-! reading -/
def de1 (b : List UInt8) : Rd × Int := rdUint ⟨b, 0, 0⟩ 1
def de2 (b : List UInt8) : Rd × Int := rdUint (de1 b).1 1
def de3 (b : List UInt8) : Rd × List UInt8 := rdBlob (de2 b).1 32
def de4 (b : List UInt8) : Rd × List UInt8 := rdBlob (de3 b).1 32
def de5 (b : List UInt8) : Rd × List UInt8 := rdBlob (de4 b).1 64
def evD (b : List UInt8) : Ev := ⟨(de1 b).2, (de2 b).2, [(de3 b).2, (de4 b).2], (de5 b).2⟩
def edOk (b : List UInt8) : Prop := rdEnd (de5 b).1 = 0 ∧ wrE (evD b)
instance (b : List UInt8) : Decidable (edOk b) := inferInstanceAs (Decidable (_ ∧ _))
def decEvI (b : List UInt8) : Ev := if edOk b then evD b else noEv
def decEvE (b : List UInt8) : Int := if edOk b then 0 else 30
theorem ed_b (b : List UInt8) : (de1 b).1.b = b ∧ (de2 b).1.b = b ∧ (de3 b).1.b = b ∧ (de4 b).1.b = b := by
  have h1 : (de1 b).1.b = b := rdUint_b _ _
  have h2 : (de2 b).1.b = b := (rdUint_b _ _).trans h1
  have h3 : (de3 b).1.b = b := (rdBlob_b _ _).trans h2
  exact ⟨h1, h2, h3, (rdBlob_b _ _).trans h3⟩
theorem ed_le (b : List UInt8) : (de3 b).2.length ≤ b.length ∧ (de4 b).2.length ≤ b.length ∧ (de5 b).2.length ≤ b.length := by
  obtain ⟨_, h2, h3, h4⟩ := ed_b b
  have a1 := rdBlob_le (de2 b).1 32
  have a2 := rdBlob_le (de3 b).1 32
  have a3 := rdBlob_le (de4 b).1 64
  rw [h2] at a1
  rw [h3] at a2
  rw [h4] at a3
  exact ⟨a1, a2, a3⟩
theorem ev_enc {x : Ev} (h : wrE x) : edOk (evB x) ∧ evD (evB x) = x := by
  obtain ⟨a, b, hd, ha, hb⟩ := wr_ds h
  obtain ⟨⟨r0, r1, k0, k1⟩, _, hp, _⟩ := id h
  obtain ⟨ro, hro⟩ := Int.eq_ofNat_of_zero_le r0
  obtain ⟨ve, hve⟩ := Int.eq_ofNat_of_zero_le (show 0 ≤ x.kind by omega)
  have hA : At ⟨evB x, 0, 0⟩ (beS ((ro : Nat) : Int) 1 ++ (beS ((ve : Nat) : Int) 1 ++ (blobT a ++ (blobT b ++ (blobT x.pay ++ []))))) := ⟨rfl, by show (evB x).drop 0 = _; rw [List.drop_zero, evB_eq h hd, hro, hve, List.append_nil]⟩
  obtain ⟨q1, e1, a1⟩ := rdUint_at ro 1 (by decide) (by decide) (by omega) (by omega) hA
  have f1 : de1 (evB x) = (q1, (ro : Int)) := e1
  obtain ⟨q2, e2, a2⟩ := rdUint_at ve 1 (by decide) (by decide) (by omega) (by omega) a1
  have f2 : de2 (evB x) = (q2, (ve : Int)) := by unfold de2; rw [f1]; exact e2
  obtain ⟨q3, e3, a3⟩ := rdBlob_at a 32 (by omega) (by omega) a2
  have f3 : de3 (evB x) = (q3, a) := by unfold de3; rw [f2]; exact e3
  obtain ⟨q4, e4, a4⟩ := rdBlob_at b 32 (by omega) (by omega) a3
  have f4 : de4 (evB x) = (q4, b) := by unfold de4; rw [f3]; exact e4
  obtain ⟨q5, e5, a5⟩ := rdBlob_at x.pay 64 (by omega) (by omega) a4
  have f5 : de5 (evB x) = (q5, x.pay) := by unfold de5; rw [f4]; exact e5
  have hx : evD (evB x) = x := by
    unfold evD
    rw [f1, f2, f3, f4, f5, ← hro, ← hve, ← hd]
  refine ⟨⟨?_, by rw [hx]; exact h⟩, hx⟩
  rw [f5]
  exact end_at a5
theorem enc_ev {b : List UInt8} (h : edOk b) : evB (evD b) = b := by
  obtain ⟨he, hx⟩ := h
  obtain ⟨e5, h5⟩ := end_zero he
  obtain ⟨e4, l5, m5, r5⟩ := rdBlob_inv (show (rdBlob (de4 b).1 64).1.e = 0 from e5)
  obtain ⟨e3, l4, m4, r4⟩ := rdBlob_inv (show (rdBlob (de3 b).1 32).1.e = 0 from e4)
  obtain ⟨e2, l3, m3, r3⟩ := rdBlob_inv (show (rdBlob (de2 b).1 32).1.e = 0 from e3)
  obtain ⟨e1, v2, q2, b2, r2⟩ := rdUint_inv (s := 1) (by decide) (by decide) (show (rdUint (de1 b).1 ((1 : Nat) : Int)).1.e = 0 from e2)
  obtain ⟨e0, v1, q1, b1, r1⟩ := rdUint_inv (s := 1) (by decide) (by decide) (show (rdUint ⟨b, 0, 0⟩ ((1 : Nat) : Int)).1.e = 0 from e1)
  rw [evB_eq hx (show (evD b).ds = [(de3 b).2, (de4 b).2] from rfl)]
  have s1 : rest (⟨b, 0, 0⟩ : Rd) = b := rfl
  have r1' : rest (⟨b, 0, 0⟩ : Rd) = beS ((v1 : Nat) : Int) 1 ++ rest (de1 b).1 := r1
  have r2' : rest (de1 b).1 = beS ((v2 : Nat) : Int) 1 ++ rest (de2 b).1 := r2
  have r3' : rest (de2 b).1 = blobT (de3 b).2 ++ rest (de3 b).1 := r3
  have r4' : rest (de3 b).1 = blobT (de4 b).2 ++ rest (de4 b).1 := r4
  have r5' : rest (de4 b).1 = blobT (de5 b).2 ++ rest (de5 b).1 := r5
  have q1' : (de1 b).2 = (v1 : Int) := q1
  have q2' : (de2 b).2 = (v2 : Int) := q2
  conv => rhs; rw [← s1, r1', r2', r3', r4', r5', h5]
  show beS (de1 b).2 1 ++ (beS (de2 b).2 1 ++ (blobT (de3 b).2 ++ (blobT (de4 b).2 ++ blobT (de5 b).2))) = _
  rw [q1', q2', List.append_nil]
theorem dec_ev {x : Ev} (h : wrE x) : decEvE (evB x) = 0 ∧ decEvI (evB x) = x := by
  obtain ⟨h1, h2⟩ := ev_enc h
  unfold decEvE decEvI
  rw [if_pos h1, if_pos h1]
  exact ⟨rfl, h2⟩
theorem ev_dec {b : List UInt8} (h : decEvE b = 0) : evB (decEvI b) = b ∧ wrE (decEvI b) := by
  unfold decEvE at h
  split at h
  · rename_i hk
    unfold decEvI
    rw [if_pos hk]
    exact ⟨enc_ev hk, hk.2⟩
  · cases h
set_option maxRecDepth 20000 in
set_option maxHeartbeats 2000000 in
theorem evEncP {P : Nat → Prop} (w : World) (rg kd : Int) (D : Option Addr) (dn dc : Nat) (ds : List (List UInt8)) (S : Option Addr) (m d : Nat) (pay : List UInt8) (hd : BL w P D dn dc ds) (hp : BV w P S m d pay) :
    Calls Tryd.prog 41 #[.agg #[.int .i64 rg, .int .i64 kd, .slice D dn dc, .slice S m d]] w fun e w' => ∃ S m k, e = .returned (.slice S m k) ∧ OB w' w.heap.size 5 S m k (evB ⟨rg, kd, ds, pay⟩) ∧ Ext w w' := by
  have hdl := hd.len
  have hpl := hp.len
  refine calls_enter Tryd.func41 rfl Tryd.ntmps41 rfl ?_
  have hE : Ext w w := Ext.refl w
  refine vs fun K1 hK1 => vR [(0, _)] ?_
  refine Wl.does rfl rfl rfl (Does.boxA rfl rfl) ?_
  rintro _ w0_0 ⟨b1, rfl, hs1, hb1, hx0_0⟩
  have hg1 : w.heap.size ≤ b1 := Nat.le_trans hE.size hs1
  replace hE := hE.trans hx0_0
  refine vA ?_
  refine vn (hK1 _ _ ?_)
  refine Wc.seq (fun K2 hK2 => ?_)
  refine vs fun K3 hK3 => vR [(1, _)] ?_
  refine vl (Gives.ldW rfl (by kernel_rfl) rfl hb1 (by kernel_rfl)) ?_
  refine Wl.call rfl rfl rfl rfl Tryd.func58 rfl (by kernel_rfl) rfl (evWrP _ rg kd D dn dc ds S m d pay (hd.ext hE) (hp.ext hE)) ?_
  rintro x1 w11 ⟨rfl, hx11⟩
  refine ⟨_, rfl, ?_⟩
  replace hb1 := hb1.ext hx11
  replace hE := hE.trans hx11
  refine vl (Gives.not rfl rfl) ?_
  refine vn (hK3 _ _ ?_)
  refine Wc.cond _ rfl (fun h8 => ?_) (fun h8 => ?_)
  · first | replace h8 := dT h8 | replace h8 := nT h8 | skip
    refine vs fun K4 hK4 => vR [] ?_
    refine vA ?_
    refine vn (hK4 _ _ ?_)
    refine Wc.ret ?_
    refine Wx.thenR ?_
    refine Wx.ret [_] ⟨rfl, trivial⟩ ?_
    first | exact ⟨none, 0, 0, rfl, by rw [evB_n (by simpa using h8)]; exact OB.nil_ _ _ _, hE⟩ | exact ⟨S5, m5, k5, rfl, by rw [evB_y hw]; exact hO5.mono hzE3, hE⟩
  first | replace h8 := dF h8 | replace h8 := nF h8 | skip
  refine Wc.skip ?_
  refine Wx.thenN (hK2 _ _ ?_)
  refine vs fun K5 hK5 => vK [(1, _)] ?_
  have hw : wrE ⟨rg, kd, ds, pay⟩ := by simpa using h8
  obtain ⟨⟨w1, w2, w3, w4⟩, hw2, hw3, hw5⟩ := id hw
  simp only at w1 w2 w3 w4 hw2 hw3 hw5
  refine Wc.region ?_
  refine vF 0 Tryd.underlying34 ?_
  refine vL hb1 ?_
  refine Wl.call rfl rfl rfl rfl Tryd.func34 rfl (by kernel_rfl) rfl (uint_calls _ none 0 0 [] (BV.nil_ _ (fun _ => True)) (by omega) 1 rg) ?_
  rintro x2 w32 ⟨S1, m1, k1, rfl, hO1, hx32⟩
  refine ⟨_, rfl, ?_⟩
  have hm1 := hO1.len
  have hm1' := uintS_len [] 1 rg
  rw [List.length_nil] at hm1'
  replace hb1 := hb1.ext hx32
  replace hE := hE.trans hx32
  refine vA ?_
  refine vn (hK5 _ _ ?_)
  refine vs fun K6 hK6 => vR [(1, _), (3, _)] ?_
  refine vM ?_
  refine vF 1 Tryd.underlying34 ?_
  refine vL hb1 ?_
  refine Wl.call rfl rfl rfl rfl Tryd.func34 rfl (by kernel_rfl) rfl (uint_calls _ S1 m1 k1 _ (hO1.bv (P := fun _ => True) fun _ _ => trivial) (by omega) 1 kd) ?_
  rintro x3 w43 ⟨S2, m2, k2, rfl, hO2, hx43⟩
  refine ⟨_, rfl, ?_⟩
  have hm2 := hO2.len
  have hm2' := uintS_len (uintS [] 1 rg) 1 kd
  have hzE := hE.size
  replace hO2 := hO2.mono hzE
  replace hb1 := hb1.ext hx43
  replace hE := hE.trans hx43
  refine vA ?_
  refine vn (hK6 _ _ ?_)
  refine Wc.seq (fun K7 hK7 => ?_)
  refine vs fun K8 hK8 => vR [(1, _), (3, _)] ?_
  refine vF 2 Tryd.underlying34 ?_
  refine vL hb1 ?_
  refine vl (Gives.lenS rfl Tryd.underlying32 rfl) ?_
  refine vM ?_
  refine vn (hK8 _ _ ?_)
  refine Wc.block ?_
  refine vK [(1, _), (3, _), (17, _), (18, _), (19, _)] ?_
  refine Wc.loopC (ι := Nat × Option Addr × Nat × Nat) [(1, _), (17, _), (18, _)] (fun | (i, S3, m3, k3) => [(19, .int .i64 (i : Int)), (3, .slice S3 m3 k3)]) (fun | (i, S3, m3, k3), wr => i ≤ dn ∧ m3 ≤ 16 + 65543 * i ∧ OB wr w.heap.size 5 S3 m3 k3 ((ds.take i).foldl blobS (uintS (uintS [] 1 rg) 1 kd)) ∧ Blk wr b1 34 #[.int .i64 rg, .int .i64 kd, .slice D dn dc, .slice S m d] ∧ Ext w wr) (fun | (i, _) => dn - i) ((0, S2, m2, k2)) (.co (.co (.cons rfl (.cons rfl (.cons rfl (.nil)))))) (⟨by omega, by omega, by rw [List.take_zero]; exact hO2, hb1, hE⟩) ?_
  intro ⟨i, S3, m3, k3⟩ wr hJ KL1 hKL1
  clear hE hO2 hb1
  obtain ⟨hi, hm, hO, hb1, hE⟩ := hJ
  refine vs fun K9 hK9 => vR [(1, _), (3, _), (17, _), (18, _), (19, _)] ?_
  refine vl (Gives.lss rfl rfl rfl) ?_
  refine vn (hK9 _ _ ?_)
  refine Wc.seq (fun K10 hK10 => ?_)
  refine Wc.cond _ rfl (fun h20 => ?_) (fun h20 => ?_)
  · first | replace h20 := dT h20 | replace h20 := nT h20 | skip
    refine Wc.skip ?_
    refine Wx.thenN (hK10 _ _ ?_)
    refine Wc.seq (fun K11 hK11 => ?_)
    refine Wc.block ?_
    refine vs fun K12 hK12 => vK [(1, _), (3, _), (17, _), (18, _), (19, _)] ?_
    obtain ⟨xb, xo, hDA, hbw, f, fA, fn, fc, hz, hcell, hF⟩ := (hd.ext hE).at'' (show i < dn by omega)
    subst hDA
    have hfl := hF.len
    have hmo := hO.len
    refine Wc.region ?_
    refine vl (Gives.ixS (i := _) rfl Tryd.underlying32 (by kernel_rfl) rfl rfl rfl (by omega)) ?_
    refine vl (Gives.ldC rfl (by kernel_rfl) rfl hcell) ?_
    refine vA ?_
    refine vn (hK12 _ _ ?_)
    refine vR [(1, _), (3, _), (5, _), (17, _), (18, _), (19, _)] ?_
    refine vM ?_
    refine vM ?_
    refine Wl.call rfl rfl rfl rfl Tryd.func40 rfl (by kernel_rfl) rfl (blob_calls _ S3 m3 k3 _ (hO.bv (P := fun _ => True) fun _ _ => trivial) (by omega) fA fn fc f hF (by have := hw5 i (by omega); rw [getD_bl hz] at this; omega)) ?_
    rintro x4 w82 ⟨S4, m4, k4, rfl, hO4, hx82⟩
    refine ⟨_, rfl, ?_⟩
    have hm4 := hO4.len
    have hm4' := blob_len ((ds.take i).foldl blobS (uintS (uintS [] 1 rg) 1 kd)) f
    have hzE2 := hE.size
    replace hO4 := hO4.mono hzE2
    replace hb1 := hb1.ext hx82
    replace hE := hE.trans hx82
    refine vA ?_
    refine Wl.nil ?_
    refine Wx.blockN ?_
    refine Wx.thenN (hK11 _ _ ?_)
    refine vR [(1, _), (3, _), (17, _), (18, _), (19, _)] ?_
    refine vAdd ?_
    refine vM ?_
    refine Wl.nil ?_
    refine Wx.thenN ?_
    exact hKL1 (i + 1, S4, m4, k4) _ _ (.co (.co (.cons rfl (.cons rfl (.cons rfl (.nil)))))) ⟨by omega, by omega, by rw [fold_take' _ _ _ _ _ hz]; exact hO4, hb1, hE⟩ (by show dn - (i + 1) < dn - i; omega)
  first | replace h20 := dF h20 | replace h20 := nF h20 | skip
  refine Wc.exit ?_
  refine Wx.thenE ?_
  refine Wx.thenE ?_
  refine Wx.hit ?_
  refine Wx.thenN (hK7 _ _ ?_)
  refine vs fun K13 hK13 => vK [(1, _), (3, _)] ?_
  obtain rfl : i = dn := by omega
  rw [List.take_of_length_le (by omega)] at hO
  have hmo := hO.len
  refine Wc.region ?_
  refine vM ?_
  refine vF 3 Tryd.underlying34 ?_
  refine vL hb1 ?_
  refine Wl.call rfl rfl rfl rfl Tryd.func40 rfl (by kernel_rfl) rfl (blob_calls _ S3 m3 k3 _ (hO.bv (P := fun _ => True) fun _ _ => trivial) (by omega) S m d pay (hp.ext hE) (by omega)) ?_
  rintro x5 w103 ⟨S5, m5, k5, rfl, hO5, hx103⟩
  refine ⟨_, rfl, ?_⟩
  have hzE3 := hE.size
  replace hb1 := hb1.ext hx103
  replace hE := hE.trans hx103
  refine vA ?_
  refine vn (hK13 _ _ ?_)
  refine Wc.ret ?_
  refine Wx.ret [_] ⟨rfl, trivial⟩ ?_
  first | exact ⟨none, 0, 0, rfl, by rw [evB_n (by simpa using h8)]; exact OB.nil_ _ _ _, hE⟩ | exact ⟨S5, m5, k5, rfl, by rw [evB_y hw]; exact hO5.mono hzE3, hE⟩
set_option maxRecDepth 20000 in
set_option maxHeartbeats 2000000 in
theorem evEncR {P : Nat → Prop} (w : World) (rg kd : Int) (D : Option Addr) (dn dc : Nat) (ds : List (List UInt8)) (S : Option Addr) (m d : Nat) (pay : List UInt8) (hd : BL w P D dn dc ds) (hp : BV w P S m d pay) :
    Calls Tryd.prog 20 #[.agg #[.int .i64 rg, .int .i64 kd, .slice D dn dc, .slice S m d]] w fun e w' => ∃ S m k, e = .returned (.slice S m k) ∧ OB w' w.heap.size 5 S m k (evB ⟨rg, kd, ds, pay⟩) ∧ Ext w w' := by
  have hdl := hd.len
  have hpl := hp.len
  refine calls_enter Tryd.func20 rfl Tryd.ntmps20 rfl ?_
  have hE : Ext w w := Ext.refl w
  refine vs fun K1 hK1 => vR [(0, _)] ?_
  refine Wl.does rfl rfl rfl (Does.boxA rfl rfl) ?_
  rintro _ w0_0 ⟨b1, rfl, hs1, hb1, hx0_0⟩
  have hg1 : w.heap.size ≤ b1 := Nat.le_trans hE.size hs1
  replace hE := hE.trans hx0_0
  refine vA ?_
  refine vn (hK1 _ _ ?_)
  refine Wc.seq (fun K2 hK2 => ?_)
  refine vs fun K3 hK3 => vR [(1, _)] ?_
  refine vl (Gives.ldW rfl (by kernel_rfl) rfl hb1 (by kernel_rfl)) ?_
  refine Wl.call rfl rfl rfl rfl Tryd.func45 rfl (by kernel_rfl) rfl (evWrR _ rg kd D dn dc ds S m d pay (hd.ext hE) (hp.ext hE)) ?_
  rintro x1 w11 ⟨rfl, hx11⟩
  refine ⟨_, rfl, ?_⟩
  replace hb1 := hb1.ext hx11
  replace hE := hE.trans hx11
  refine vl (Gives.not rfl rfl) ?_
  refine vn (hK3 _ _ ?_)
  refine Wc.cond _ rfl (fun h8 => ?_) (fun h8 => ?_)
  · first | replace h8 := dT h8 | replace h8 := nT h8 | skip
    refine vs fun K4 hK4 => vR [] ?_
    refine vA ?_
    refine vn (hK4 _ _ ?_)
    refine Wc.ret ?_
    refine Wx.thenR ?_
    refine Wx.ret [_] ⟨rfl, trivial⟩ ?_
    first | exact ⟨none, 0, 0, rfl, by rw [evB_n (by simpa using h8)]; exact OB.nil_ _ _ _, hE⟩ | (have hds : ds = [f, f2] := by { have := two_ds hw2; rw [getD_bl hz, getD_bl hz2] at this; exact this }; have hu : uintS (uintS [] 1 rg) 1 kd = [byteAt rg 0, byteAt kd 0] := by { rw [uintS_ok _ _ 1 (by omega) (by omega), uintS_ok _ _ 1 (by omega) (by omega)]; rfl }; exact ⟨S6, m6, k6, rfl, by { rw [evB_y hw]; show OB _ _ _ S6 m6 k6 (blobS (ds.foldl blobS (uintS (uintS [] 1 rg) 1 kd)) pay); rw [hu, hds]; exact hO6.mono hzE3 }, hE⟩)
  first | replace h8 := dF h8 | replace h8 := nF h8 | skip
  refine Wc.skip ?_
  refine Wx.thenN (hK2 _ _ ?_)
  refine vs fun K5 hK5 => vK [(1, _)] ?_
  have hw : wrE ⟨rg, kd, ds, pay⟩ := by simpa using h8
  obtain ⟨⟨w1, w2, w3, w4⟩, hw2, hw3, hw5⟩ := id hw
  simp only at w1 w2 w3 w4 hw2 hw3 hw5
  refine Wc.region ?_
  refine vF 0 Tryd.underlying34 ?_
  refine vL hb1 ?_
  refine vl (Gives.conv rfl Tryd.underlying3 Tryd.underlying5 rfl (by first | exact IntWalk.i64_in _ (by omega) | exact u64_in _ (by omega) | exact u32_in _ (by omega) | exact u8_in _ (by omega) | exact rfl)) ?_
  refine vF 1 Tryd.underlying34 ?_
  refine vL hb1 ?_
  refine vl (Gives.conv rfl Tryd.underlying3 Tryd.underlying5 rfl (by first | exact IntWalk.i64_in _ (by omega) | exact u64_in _ (by omega) | exact u32_in _ (by omega) | exact u8_in _ (by omega) | exact rfl)) ?_
  refine Wl.does rfl rfl rfl (Does.lit rfl Tryd.underlying22 infoB2 rfl rfl rfl rfl rfl) ?_
  rintro _ w36 ⟨g36, rfl, hs36, hk36, hx36⟩
  have hO1 : OB w36 w36.heap.size 5 (some ⟨g36, 0, none⟩) 2 2 [byteAt rg 0, byteAt kd 0] → True := fun _ => trivial
  have hM1 := mb2 (byteAt rg 0) (byteAt kd 0) hk36 (byte_small ⟨by omega, by omega⟩).symm (byte_small ⟨by omega, by omega⟩).symm
  replace hb1 := hb1.ext hx36
  replace hE := hE.trans hx36
  refine vA ?_
  refine vn (hK5 _ _ ?_)
  refine vs fun K6 hK6 => vK [(1, _), (3, _)] ?_
  obtain ⟨xb, xo, rfl, hbw, f, fA, fn, fc, hz, hcell, hF⟩ := (hd.ext hE).at'' (show 0 < dn by omega)
  have hfl := hF.len
  have hf0 := hw5 0 (by omega)
  rw [getD_bl hz] at hf0
  refine Wc.region ?_
  refine vM ?_
  refine vF 2 Tryd.underlying34 ?_
  refine vL hb1 ?_
  refine vl (Gives.ixS (i := 0) rfl Tryd.underlying32 (by kernel_rfl) rfl rfl (by omega) (by omega)) ?_
  refine vl (Gives.ldC rfl (by kernel_rfl) rfl hcell) ?_
  refine Wl.call rfl rfl rfl rfl Tryd.func46 rfl (by kernel_rfl) rfl (blobR_calls _ _ 2 2 [byteAt rg 0, byteAt kd 0] (hM1.bv (P := fun _ => True) trivial rfl (Nat.le_refl _) (by omega)) (by omega) fA fn fc f hF (by omega)) ?_
  rintro x4 w45 ⟨S4, m4, k4, rfl, hO4, hx45⟩
  refine ⟨_, rfl, ?_⟩
  have hm4 := hO4.len
  have hm4' := blob_len [byteAt rg 0, byteAt kd 0] f
  have hl2 : [byteAt rg 0, byteAt kd 0].length = 2 := rfl
  replace hb1 := hb1.ext hx45
  replace hE := hE.trans hx45
  refine vA ?_
  refine vn (hK6 _ _ ?_)
  refine vs fun K7 hK7 => vK [(1, _), (3, _)] ?_
  obtain ⟨xb2, xo2, hA2, hbw2, f2, fA2, fn2, fc2, hz2, hcell2, hF2⟩ := (hd.ext hE).at'' (show 1 < dn by omega)
  cases hA2
  have hfl2 := hF2.len
  have hf1 := hw5 1 (by omega)
  rw [getD_bl hz2] at hf1
  refine Wc.region ?_
  refine vM ?_
  refine vF 2 Tryd.underlying34 ?_
  refine vL hb1 ?_
  refine vl (Gives.ixS (i := 1) rfl Tryd.underlying32 (by kernel_rfl) rfl rfl (by omega) (by omega)) ?_
  refine vl (Gives.ldC rfl (by kernel_rfl) rfl hcell2) ?_
  refine Wl.call rfl rfl rfl rfl Tryd.func46 rfl (by kernel_rfl) rfl (blobR_calls _ S4 m4 k4 _ (hO4.bv (P := fun _ => True) fun _ _ => trivial) (by omega) fA2 fn2 fc2 f2 hF2 (by omega)) ?_
  rintro x5 w55 ⟨S5, m5, k5, rfl, hO5, hx55⟩
  refine ⟨_, rfl, ?_⟩
  have hm5 := hO5.len
  have hm5' := blob_len (blobS [byteAt rg 0, byteAt kd 0] f) f2
  replace hb1 := hb1.ext hx55
  replace hE := hE.trans hx55
  refine vA ?_
  refine vn (hK7 _ _ ?_)
  refine vs fun K8 hK8 => vR [(1, _), (3, _)] ?_
  refine vM ?_
  refine vF 3 Tryd.underlying34 ?_
  refine vL hb1 ?_
  refine Wl.call rfl rfl rfl rfl Tryd.func46 rfl (by kernel_rfl) rfl (blobR_calls _ S5 m5 k5 _ (hO5.bv (P := fun _ => True) fun _ _ => trivial) (by omega) S m d pay (hp.ext hE) (by omega)) ?_
  rintro x6 w63 ⟨S6, m6, k6, rfl, hO6, hx63⟩
  refine ⟨_, rfl, ?_⟩
  have hzE3 := hE.size
  replace hb1 := hb1.ext hx63
  replace hE := hE.trans hx63
  refine vA ?_
  refine vn (hK8 _ _ ?_)
  refine Wc.ret ?_
  refine Wx.ret [_] ⟨rfl, trivial⟩ ?_
  first | exact ⟨none, 0, 0, rfl, by rw [evB_n (by simpa using h8)]; exact OB.nil_ _ _ _, hE⟩ | (have hds : ds = [f, f2] := by { have := two_ds hw2; rw [getD_bl hz, getD_bl hz2] at this; exact this }; have hu : uintS (uintS [] 1 rg) 1 kd = [byteAt rg 0, byteAt kd 0] := by { rw [uintS_ok _ _ 1 (by omega) (by omega), uintS_ok _ _ 1 (by omega) (by omega)]; rfl }; exact ⟨S6, m6, k6, rfl, by { rw [evB_y hw]; show OB _ _ _ S6 m6 k6 (blobS (ds.foldl blobS (uintS (uintS [] 1 rg) 1 kd)) pay); rw [hu, hds]; exact hO6.mono hzE3 }, hE⟩)
end Go.Proofs.YtnbgieccindpnaaDoor
/- Events: Decode of both, equality. -/
namespace Go.Proofs.YtnbgieccindpnaaDoor
set_option linter.all false
set_option maxRecDepth 20000
open Go.RowKit
def EDecR (w : World) (x : Ev) (er : Int) (e : Ending) (w' : World) : Prop := ∃ D dn dc S m k, e = .returned (.tuple #[.agg #[.int .i64 x.reg, .int .i64 x.kind, .slice D dn dc, .slice S m k], .int .i64 er]) ∧ BL w' (fun q => w.heap.size ≤ q) D dn dc x.ds ∧ BV w' (fun q => w.heap.size ≤ q) S m k x.pay ∧ Ext w w'
theorem EDecR.no {w w' : World} {l : List UInt8} (h : ¬ edOk l) (hE : Ext w w') : EDecR w (decEvI l) (decEvE l) (.returned (resV [.agg #[.int .i64 0, .int .i64 0, .slice none 0 0, .slice none 0 0], .int .i64 30])) w' := by
  unfold decEvI decEvE
  rw [if_neg h, if_neg h]
  exact ⟨none, 0, 0, none, 0, 0, rfl, bl_of (SL.nil_ _ _ _), BV.nil_ _ _, hE⟩
theorem EDecR.yes {w w' : World} {l : List UInt8} {D S : Option Addr} {dn dc m k : Nat} (h : edOk l) (hD : BL w' (fun q => w.heap.size ≤ q) D dn dc [(de3 l).2, (de4 l).2]) (hS : BV w' (fun q => w.heap.size ≤ q) S m k (de5 l).2) (hE : Ext w w') : EDecR w (decEvI l) (decEvE l) (.returned (resV [.agg #[.int .i64 (de1 l).2, .int .i64 (de2 l).2, .slice D dn dc, .slice S m k], .int .i64 0])) w' := by
  unfold decEvI decEvE
  rw [if_pos h, if_pos h]
  exact ⟨D, dn, dc, S, m, k, rfl, hD, hS, hE⟩
def edS (b : List UInt8) : Nat → Rd × List (List UInt8)
  | 0 => ((de2 b).1, [])
  | 1 => ((de3 b).1, [(de3 b).2])
  | _ => ((de4 b).1, [(de3 b).2, (de4 b).2])
theorem edS_step (b : List UInt8) (i : Nat) (hi : i < 2) : edS b (i + 1) = ((rdBlob (edS b i).1 32).1, (edS b i).2 ++ [(rdBlob (edS b i).1 32).2]) := by
  rcases (show i = 0 ∨ i = 1 by omega) with rfl | rfl <;> rfl
theorem edS_b (b : List UInt8) (i : Nat) (hi : i ≤ 2) : (edS b i).1.b = b := by
  obtain ⟨_, h2, h3, h4⟩ := ed_b b
  rcases (show i = 0 ∨ i = 1 ∨ i = 2 by omega) with rfl | rfl | rfl
  · exact h2
  · exact h3
  · exact h4
set_option maxRecDepth 20000 in
set_option maxHeartbeats 2000000 in
theorem evDecP {P : Nat → Prop} (w : World) (A : Option Addr) (n c : Nat) (l : List UInt8) (ha : BV w P A n c l) (hn : n ≤ 1000000) :
    Calls Tryd.prog 71 #[.slice A n c] w (EDecR w (decEvI l) (decEvE l)) := by
  have hl := ha.len
  obtain ⟨hle3, hle4, hle5⟩ := ed_le l
  refine calls_enter Tryd.func71 rfl Tryd.ntmps71 rfl ?_
  have hE : Ext w w := Ext.refl w
  refine vs fun K1 hK1 => vR [(0, _)] ?_
  refine Wl.does rfl rfl rfl (Does.alB (.agg #[(.int .i64 0), (.int .i64 0), (.slice none 0 0), (.slice none 0 0)]) rfl (by kernel_rfl) rfl) ?_
  rintro _ w0_0 ⟨b2, rfl, hs2, hb2, hx0_0⟩
  have hg2 : w.heap.size ≤ b2 := Nat.le_trans hE.size hs2
  replace hE := hE.trans hx0_0
  refine vA ?_
  refine vn (hK1 _ _ ?_)
  refine vs fun K2 hK2 => vR [(0, _), (2, _)] ?_
  refine vM ?_
  refine Wl.call rfl rfl rfl rfl Tryd.func65 rfl (by kernel_rfl) rfl ((newP_rd _ _ _ _ l (ha.ext hE) (by omega)).mono fun _ _ h => NewRd.x h) ?_
  rintro x1 w11 ⟨g, A', n', c', rfl, hg, hR, hx1⟩
  refine ⟨_, rfl, ?_⟩
  have hgg : w.heap.size ≤ g := Nat.le_trans hE.size hg
  have hn2g : b2 ≠ g := by { have := hb2.lt; omega }
  have hb2g : b2 < g := by { have := hb2.lt; omega }
  generalize hN : w11.heap.size = N at *
  have hgN : g < N := hR.lt
  replace hb2 := hb2.ext hx1
  replace hE := hE.trans hx1
  refine vA ?_
  refine vn (hK2 _ _ ?_)
  refine vs fun K3 hK3 => vR [(2, _), (4, _)] ?_
  refine Wl.does rfl rfl rfl (Does.alB (.agg #[(.int .i64 0), (.int .i64 0), (.slice none 0 0), (.slice none 0 0)]) rfl (by kernel_rfl) rfl) ?_
  rintro _ w2_0 ⟨b5, rfl, hs5, hb5, hx2_0⟩
  have hn2_5 : b2 ≠ b5 := hb2.ne hs5
  have hg5 : w.heap.size ≤ b5 := Nat.le_trans hE.size hs5
  replace hb2 := hb2.ext hx2_0
  replace hE := hE.trans hx2_0
  replace hR := hR.ext hx2_0
  have hn5g : b5 ≠ g := by omega
  have hN5 : N ≤ b5 := by omega
  have hzw := hE.size
  have hw5 : w.heap.size ≤ b5 := by omega
  refine vn (hK3 _ _ ?_)
  refine vs fun K4 hK4 => vR [(2, _), (4, _), (5, _)] ?_
  refine vM ?_
  refine Wl.call rfl rfl rfl rfl Tryd.func67 rfl (by kernel_rfl) rfl ((rUint_x _ g _ A' n' c' _ 1 hR).mono (R' := UintX 113 _ g N A' n' c' (de1 l)) fun _ _ h => h) ?_
  rintro x2 w31 ⟨rfl, hR1, hF1⟩
  refine ⟨_, rfl, ?_⟩
  replace hR1 : RDX 113 w31 g N A' n' c' (de1 l).1 := hR1
  replace hb2 := hb2.frA hF1
  replace hb5 := hb5.frA hF1
  replace hE := Ext.over hE hF1 hgg
  refine vF 0 Tryd.underlying34 ?_
  refine Wl.acts rfl rfl (Does.stC rfl rfl rfl hb5 (by kernel_rfl) (Nat.le_of_ble_eq_true rfl) rfl) ?_
  rintro _ w3_3 ⟨hbn, hF3_3⟩
  replace hb2 := hb2.frA hF3_3
  replace hE := Ext.over hE hF3_3 hg5
  replace hb5 := hbn
  clear hbn
  (try simp only [List.setIfInBounds_toArray, List.set_cons_zero, List.set_cons_succ, Nat.reduceAdd, Nat.zero_add] at hb5)
  replace hR1 := hR1.fr hF3_3 (fun q hq => by omega)
  refine vn (hK4 _ _ ?_)
  refine vs fun K5 hK5 => vR [(2, _), (4, _), (5, _)] ?_
  refine vM ?_
  refine Wl.call rfl rfl rfl rfl Tryd.func67 rfl (by kernel_rfl) rfl ((rUint_x _ g _ A' n' c' _ 1 hR1).mono (R' := UintX 113 _ g N A' n' c' (de2 l)) fun _ _ h => h) ?_
  rintro x3 w41 ⟨rfl, hR2, hF2⟩
  refine ⟨_, rfl, ?_⟩
  replace hR2 : RDX 113 w41 g N A' n' c' (edS l 0).1 := hR2
  replace hb2 := hb2.frA hF2
  replace hb5 := hb5.frA hF2
  replace hE := Ext.over hE hF2 hgg
  refine vF 1 Tryd.underlying34 ?_
  refine Wl.acts rfl rfl (Does.stC rfl rfl rfl hb5 (by kernel_rfl) (Nat.le_of_ble_eq_true rfl) rfl) ?_
  rintro _ w4_3 ⟨hbn, hF4_3⟩
  replace hb2 := hb2.frA hF4_3
  replace hE := Ext.over hE hF4_3 hg5
  replace hb5 := hbn
  clear hbn
  (try simp only [List.setIfInBounds_toArray, List.set_cons_zero, List.set_cons_succ, Nat.reduceAdd, Nat.zero_add] at hb5)
  replace hR2 := hR2.fr hF4_3 (fun q hq => by omega)
  refine vn (hK5 _ _ ?_)
  refine Wc.seq (fun K6 hK6 => ?_)
  refine vs fun K7 hK7 => vR [(2, _), (4, _), (5, _)] ?_
  refine vM ?_
  refine vn (hK7 _ _ ?_)
  refine Wc.block ?_
  refine vK [(2, _), (4, _), (5, _), (14, _)] ?_
  refine Wc.loopC (ι := Nat × Option Addr × Nat) [(2, _), (4, _), (5, _)] (fun | (i, _, _) => [(14, .int .i64 (i : Int))]) (fun | (i, B, c1), wr => i ≤ 2 ∧ RDX 113 wr g N A' n' c' (edS l i).1 ∧ OL wr (fun k => b5 < k) (b5 + 1) B i c1 (edS l i).2 ∧ Blk wr b5 34 #[.int .i64 (de1 l).2, .int .i64 (de2 l).2, .slice B i c1, .slice none 0 0] ∧ Blk wr b2 34 #[.int .i64 0, .int .i64 0, .slice none 0 0, .slice none 0 0] ∧ Ext w wr) (fun | (i, _, _) => 2 - i) ((0, none, 0)) (.co (.cons rfl (.cons rfl (.cons rfl (.nil))))) (⟨by omega, hR2, OL.nil_ _ _ _, hb5, hb2, hE⟩) ?_
  intro ⟨i, B, c1⟩ wr hJ KL1 hKL1
  clear hb5 hb2 hE hR2
  obtain ⟨hi, hR, hI, hb5, hb2, hE⟩ := hJ
  have hbl := rdBlob_le (edS l i).1 32
  rw [edS_b l i hi] at hbl
  refine vs fun K8 hK8 => vR [(2, _), (4, _), (5, _), (14, _)] ?_
  refine vl (Gives.lss rfl rfl rfl) ?_
  refine vn (hK8 _ _ ?_)
  refine Wc.seq (fun K9 hK9 => ?_)
  refine Wc.cond _ rfl (fun h15 => ?_) (fun h15 => ?_)
  · first | replace h15 := dT h15 | replace h15 := nT h15 | skip
    refine Wc.skip ?_
    refine Wx.thenN (hK9 _ _ ?_)
    refine Wc.seq (fun K10 hK10 => ?_)
    refine Wc.block ?_
    refine vK [(2, _), (4, _), (5, _), (14, _)] ?_
    refine Wc.regionB (fun q => [1, 4].contains q) [g] (.read 0 (.read 1 (.read 2 (.read 3 (.call false 4 (.call false 5 .tail .none) .none))))) 6 (by kernel_rfl) (by kernel_rfl) (by kernel_rfl) ?_
    intro w7 hR7
    replace hb2 := hb2.ext hR7.ext
    replace hb5 := hb5.ext hR7.ext
    replace hE := hE.trans hR7.ext
    have hO7_2 : Old w7.heap.size [g] b2 := ⟨hb2.lt, ⟨by first | assumption | exact Ne.symm (by assumption), trivial⟩⟩
    have hO7_5 : Old w7.heap.size [g] b5 := ⟨hb5.lt, ⟨by first | assumption | exact Ne.symm (by assumption), trivial⟩⟩
    have hX := Ext.refl w7
    replace hR := hR.ext hR7.ext
    replace hI := hI.ext hR7.ext
    have hrl : ∀ k, Value.ownBlock (.slice B i c1) = some k → k < w7.heap.size := by
      obtain ⟨vs, ho⟩ := hI.own
      exact fun k hk => (own_lt ho k hk).2
    have hb5l := hb5.lt
    refine RunE.read rfl rfl rfl rfl (fun wS _ => (Gives.fieldAt 2 rfl Tryd.underlying34 rfl (by kernel_rfl) rfl rfl)) ?_
    refine RunE.readM rfl rfl rfl rfl rfl (fun wS hS => (Gives.ldK rfl (by kernel_rfl) rfl ((hb5.ext hX).fr hS hO7_5) rfl)) ?_
    refine RunE.read rfl rfl rfl rfl (fun wS _ => (Gives.move rfl rfl)) ?_
    refine RunE.read rfl rfl rfl rfl (fun wS _ => (Gives.call rfl Tryd.func57 rfl (by kernel_rfl) rfl (sizeP _ 1 (by omega)))) ?_
    refine RunE.turnC rfl rfl rfl rfl rfl Tryd.func70 rfl (by kernel_rfl) rfl (rBlob_x _ g _ A' n' c' _ 32 hR) ?_ RunE.none
    rintro x4 w74 ⟨S3, m3, k3, rfl, hO3, hR3, hF3⟩
    refine ⟨_, rfl, ?_⟩
    refine ⟨hF3.mono (fun k h => h.2.1), ?_⟩
    replace hb2 := (hb2.ext hX).frA hF3
    replace hb5 := (hb5.ext hX).frA hF3
    replace hE := Ext.over (hE.trans hX) hF3 hgg
    replace hX := Ext.refl w74
    have hm3 := hO3.len
    have hI3 := hI.fr hF3 (fun k hk => by omega) (fun k hk => by omega)
    have hP3 : BV w74 (fun q => w7.heap.size ≤ q) S3 m3 k3 (rdBlob (edS l i).1 32).2 := hO3.bv fun _ h => h
    refine RunE.turn rfl rfl rfl rfl (Does.lit rfl Tryd.underlying32 infoL2 rfl rfl rfl rfl rfl) ?_ RunE.none
    rintro _ w75 ⟨g75, rfl, hs75, hk75, hx75⟩
    refine ⟨hx75.fr, ?_⟩
    replace hX := hX.trans hx75
    refine RunE.tail rfl ?_
    replace hb2 := hb2.ext hX
    replace hb5 := hb5.ext hX
    replace hE := hE.trans hX
    have hln : BV w75 (NOwn w75 (fun k => b5 < k) (.slice B i c1)) S3 m3 k3 (rdBlob (edS l i).1 32).2 := (hP3.ext hx75).bd.mono fun q hq => ⟨by omega, hq.2, fun he => by have := hrl q he; omega⟩
    refine Wl.does rfl rfl rfl (Does.appL rfl rfl rfl (hI3.ext hx75) hk75 hln (by omega) hb5.lt) ?_
    rintro _ w76 ⟨B', c2, rfl, hI4, hB76⟩
    replace hb2 := Blk.bel hb2 hB76 (by omega)
    replace hb5 := Blk.bel hb5 hB76 (by omega)
    replace hE := Ext.step hE hB76 (by omega)
    have hR4 := (hR3.ext hx75).fr (below_fr hB76) (fun k hk => by omega)
    refine vF 2 Tryd.underlying34 ?_
    refine Wl.acts rfl rfl (Does.stC rfl rfl rfl hb5 (by kernel_rfl) (Nat.le_of_ble_eq_true rfl) rfl) ?_
    rintro _ w7_8 ⟨hbn, hF7_8⟩
    replace hb2 := hb2.frA hF7_8
    replace hE := Ext.over hE hF7_8 hg5
    replace hb5 := hbn
    clear hbn
    (try simp only [List.setIfInBounds_toArray, List.set_cons_zero, List.set_cons_succ, Nat.reduceAdd, Nat.zero_add] at hb5)
    replace hR4 := hR4.fr hF7_8 (fun k hk => by omega)
    replace hI4 := hI4.fr hF7_8 (fun k hk => by omega) (fun k hk => by omega)
    refine Wl.nil ?_
    refine Wx.blockN ?_
    refine Wx.thenN (hK10 _ _ ?_)
    refine vR [(2, _), (4, _), (5, _), (14, _)] ?_
    refine vAdd ?_
    refine vM ?_
    refine Wl.nil ?_
    refine Wx.thenN ?_
    exact hKL1 (i + 1, B', c2) _ _ (.co (.cons rfl (.cons rfl (.cons rfl (.nil))))) ⟨by omega, by rw [edS_step l i (by omega)]; exact hR4, by rw [edS_step l i (by omega)]; exact hI4, hb5, hb2, hE⟩ (by show 2 - (i + 1) < 2 - i; omega)
  first | replace h15 := dF h15 | replace h15 := nF h15 | skip
  refine Wc.exit ?_
  refine Wx.thenE ?_
  refine Wx.thenE ?_
  refine Wx.hit ?_
  refine Wx.thenN (hK6 _ _ ?_)
  refine vs fun K11 hK11 => vK [(2, _), (4, _), (5, _)] ?_
  obtain rfl : i = 2 := by omega
  replace hR : RDX 113 wr g N A' n' c' (de4 l).1 := hR
  replace hI : OL wr (fun k => b5 < k) (b5 + 1) B 2 c1 [(de3 l).2, (de4 l).2] := hI
  have hb5l := hb5.lt
  refine Wc.region ?_
  refine vM ?_
  refine Wl.call rfl rfl rfl rfl Tryd.func70 rfl (by kernel_rfl) rfl ((rBlob_x _ g _ A' n' c' _ 64 hR).mono (R' := BlobX 113 wr g N A' n' c' (de5 l)) fun _ _ h => h) ?_
  rintro x5 w91 ⟨S4, m4, k4, rfl, hO4, hR5, hF5⟩
  refine ⟨_, rfl, ?_⟩
  have hm4 := hO4.len
  replace hI := hI.fr hF5 (fun k hk => by omega) (fun k hk => by omega)
  replace hb2 := hb2.frA hF5
  replace hb5 := hb5.frA hF5
  replace hE := Ext.over hE hF5 hgg
  refine vF 3 Tryd.underlying34 ?_
  refine Wl.acts rfl rfl (Does.stC rfl rfl rfl hb5 (by kernel_rfl) (Nat.le_of_ble_eq_true rfl) rfl) ?_
  rintro _ w9_3 ⟨hbn, hF9_3⟩
  replace hb2 := hb2.frA hF9_3
  replace hE := Ext.over hE hF9_3 hg5
  replace hb5 := hbn
  clear hbn
  (try simp only [List.setIfInBounds_toArray, List.set_cons_zero, List.set_cons_succ, Nat.reduceAdd, Nat.zero_add] at hb5)
  replace hR5 := hR5.fr hF9_3 (fun q hq => by omega)
  replace hI := hI.fr hF9_3 (fun k hk => by omega) (fun k hk => by omega)
  replace hO4 : OB w9_3 wr.heap.size 5 S4 m4 k4 (de5 l).2 := own_fr hO4 hF9_3 (fun q hq => by omega)
  refine vn (hK11 _ _ ?_)
  refine Wc.seq (fun K12 hK12 => ?_)
  refine vs fun K13 hK13 => vR [(2, _), (4, _), (5, _)] ?_
  refine vM ?_
  refine Wl.call rfl rfl rfl rfl Tryd.func89 rfl (by kernel_rfl) rfl (rEnd_x _ g _ A' n' c' _ hR5) ?_
  rintro x6 w101 ⟨rfl, hq101⟩
  refine ⟨_, rfl, ?_⟩
  replace hI := hI.ext hq101.ext
  replace hO4 := hO4.ext hq101.ext
  replace hb2 := hb2.ext hq101.ext
  replace hb5 := hb5.ext hq101.ext
  replace hE := hE.trans hq101.ext
  refine vl (Gives.neq rfl rfl rfl) ?_
  refine vM ?_
  refine Wl.guard rfl rfl rfl (fun h31 => ?_) (fun h31 => ?_)
  · first | replace h31 := dF h31 | replace h31 := nF h31 | skip
    refine vl (Gives.ldW rfl (by kernel_rfl) rfl hb5 (by kernel_rfl)) ?_
    refine Wl.call rfl rfl rfl rfl Tryd.func58 rfl (by kernel_rfl) rfl (evWrP _ (de1 l).2 (de2 l).2 B 2 c1 [(de3 l).2, (de4 l).2] S4 m4 k4 (de5 l).2 (hI.bl (P := fun _ => True) (fun _ _ => trivial) (fun _ _ => trivial)) (hO4.bv (P := fun _ => True) (fun _ _ => trivial))) ?_
    rintro x7 w105 ⟨rfl, hx105⟩
    refine ⟨_, rfl, ?_⟩
    replace hI := hI.ext hx105
    replace hO4 := hO4.ext hx105
    replace hb2 := hb2.ext hx105
    replace hb5 := hb5.ext hx105
    replace hE := hE.trans hx105
    refine vl (Gives.not rfl rfl) ?_
    refine vU ?_
    refine vn (hK13 _ _ ?_)
    refine Wc.cond _ rfl (fun h35 => ?_) (fun h35 => ?_)
    · first | replace h35 := dT h35 | replace h35 := nT h35 | skip
      refine vs fun K14 hK14 => vR [(2, _)] ?_
      refine vl (Gives.buildS (pl := [(0, 1), (1, 1), (2, 1), (3, 1)]) (zv := (.agg #[(.int .i64 0), (.int .i64 0), (.slice none 0 0), (.slice none 0 0)])) rfl Tryd.underlying34 (by kernel_rfl) (by kernel_rfl) rfl rfl) ?_
      refine Wl.acts rfl rfl (Does.stL 4 rfl rfl rfl hb2 (by kernel_rfl) rfl rfl rfl) ?_
      rintro _ w11_1 ⟨hbn, hF11_1⟩
      replace hb5 := hb5.frA hF11_1
      replace hE := Ext.over hE hF11_1 hg2
      replace hb2 := hbn
      clear hbn
      refine vA ?_
      refine vn (hK14 _ _ ?_)
      refine Wc.ret ?_
      refine Wx.thenR ?_
      refine Wx.ret [_, _] ⟨⟨_, rfl, res_blk hb2 Tryd.underlying34 rfl (by kernel_rfl)⟩, ⟨rfl, trivial⟩⟩ ?_
      first | exact EDecR.yes ⟨h31, by simpa [evD] using h35⟩ (hI.bl (fun k hk => by omega) (fun k hk => by omega)) (hO4.bv (fun k hk => by omega)) hE | exact EDecR.no (fun h => by have h2 : wrE ⟨(de1 l).2, (de2 l).2, [(de3 l).2, (de4 l).2], (de5 l).2⟩ := h.2; simp [h2] at h35) hE | exact EDecR.no (fun h => h31 h.1) hE
    first | replace h35 := dF h35 | replace h35 := nF h35 | skip
    refine Wc.skip ?_
    refine Wx.thenN (hK12 _ _ ?_)
    refine vs fun K15 hK15 => vR [(2, _), (5, _)] ?_
    refine vl (Gives.ldW rfl (by kernel_rfl) rfl hb5 (by kernel_rfl)) ?_
    refine Wl.acts rfl rfl (Does.stL 4 rfl rfl rfl hb2 (by kernel_rfl) rfl rfl rfl) ?_
    rintro _ w12_1 ⟨hbn, hF12_1⟩
    replace hb5 := hb5.frA hF12_1
    replace hE := Ext.over hE hF12_1 hg2
    replace hb2 := hbn
    clear hbn
    replace hI := hI.fr hF12_1 (fun k hk => by omega) (fun k hk => by omega)
    replace hO4 : OB w12_1 wr.heap.size 5 S4 m4 k4 (de5 l).2 := own_fr hO4 hF12_1 (fun q hq => by omega)
    refine vA ?_
    refine vn (hK15 _ _ ?_)
    refine Wc.ret ?_
    refine Wx.ret [_, _] ⟨⟨_, rfl, res_blk hb2 Tryd.underlying34 rfl (by kernel_rfl)⟩, ⟨rfl, trivial⟩⟩ ?_
    first | exact EDecR.yes ⟨h31, by simpa [evD] using h35⟩ (hI.bl (fun k hk => by omega) (fun k hk => by omega)) (hO4.bv (fun k hk => by omega)) hE | exact EDecR.no (fun h => by have h2 : wrE ⟨(de1 l).2, (de2 l).2, [(de3 l).2, (de4 l).2], (de5 l).2⟩ := h.2; simp [h2] at h35) hE | exact EDecR.no (fun h => h31 h.1) hE
  first | replace h31 := dT h31 | replace h31 := nT h31 | skip
  refine vP ?_
  refine vP ?_
  refine vP ?_
  refine vT ?_
  refine vn (hK13 _ _ ?_)
  refine Wc.condT rfl rfl ?_
  refine vs fun K16 hK16 => vR [(2, _)] ?_
  refine vl (Gives.buildS (pl := [(0, 1), (1, 1), (2, 1), (3, 1)]) (zv := (.agg #[(.int .i64 0), (.int .i64 0), (.slice none 0 0), (.slice none 0 0)])) rfl Tryd.underlying34 (by kernel_rfl) (by kernel_rfl) rfl rfl) ?_
  refine Wl.acts rfl rfl (Does.stL 4 rfl rfl rfl hb2 (by kernel_rfl) rfl rfl rfl) ?_
  rintro _ w11_1 ⟨hbn, hF11_1⟩
  replace hb5 := hb5.frA hF11_1
  replace hE := Ext.over hE hF11_1 hg2
  replace hb2 := hbn
  clear hbn
  refine vA ?_
  refine vn (hK16 _ _ ?_)
  refine Wc.ret ?_
  refine Wx.thenR ?_
  refine Wx.ret [_, _] ⟨⟨_, rfl, res_blk hb2 Tryd.underlying34 rfl (by kernel_rfl)⟩, ⟨rfl, trivial⟩⟩ ?_
  first | exact EDecR.yes ⟨h31, by simpa [evD] using h35⟩ (hI.bl (fun k hk => by omega) (fun k hk => by omega)) (hO4.bv (fun k hk => by omega)) hE | exact EDecR.no (fun h => by have h2 : wrE ⟨(de1 l).2, (de2 l).2, [(de3 l).2, (de4 l).2], (de5 l).2⟩ := h.2; simp [h2] at h35) hE | exact EDecR.no (fun h => h31 h.1) hE
set_option maxRecDepth 20000 in
set_option maxHeartbeats 2000000 in
theorem evDecR {P : Nat → Prop} (w : World) (A : Option Addr) (n c : Nat) (l : List UInt8) (ha : BV w P A n c l) (hn : n ≤ 1000000) :
    Calls Tryd.prog 74 #[.slice A n c] w (EDecR w (decEvI l) (decEvE l)) := by
  have hl := ha.len
  obtain ⟨hle3, hle4, hle5⟩ := ed_le l
  refine calls_enter Tryd.func74 rfl Tryd.ntmps74 rfl ?_
  have hE : Ext w w := Ext.refl w
  refine vs fun K1 hK1 => vR [(0, _)] ?_
  refine Wl.does rfl rfl rfl (Does.alB (.agg #[(.int .i64 0), (.int .i64 0), (.slice none 0 0), (.slice none 0 0)]) rfl (by kernel_rfl) rfl) ?_
  rintro _ w0_0 ⟨b2, rfl, hs2, hb2, hx0_0⟩
  have hg2 : w.heap.size ≤ b2 := Nat.le_trans hE.size hs2
  replace hE := hE.trans hx0_0
  refine vA ?_
  refine vn (hK1 _ _ ?_)
  refine vs fun K2 hK2 => vR [(0, _), (2, _)] ?_
  refine vM ?_
  refine Wl.call rfl rfl rfl rfl Tryd.func91 rfl (by kernel_rfl) rfl ((newR_rd _ _ _ _ l (ha.ext hE) (by omega)).mono fun _ _ h => NewRd.x h) ?_
  rintro x1 w11 ⟨g, A', n', c', rfl, hg, hR, hx1⟩
  refine ⟨_, rfl, ?_⟩
  have hgg : w.heap.size ≤ g := Nat.le_trans hE.size hg
  have hn2g : b2 ≠ g := by { have := hb2.lt; omega }
  have hb2g : b2 < g := by { have := hb2.lt; omega }
  generalize hN : w11.heap.size = N at *
  have hgN : g < N := hR.lt
  replace hb2 := hb2.ext hx1
  replace hE := hE.trans hx1
  refine vA ?_
  refine vn (hK2 _ _ ?_)
  refine vs fun K3 hK3 => vR [(2, _), (4, _)] ?_
  refine Wl.does rfl rfl rfl (Does.alB (.agg #[(.int .i64 0), (.int .i64 0), (.slice none 0 0), (.slice none 0 0)]) rfl (by kernel_rfl) rfl) ?_
  rintro _ w2_0 ⟨b5, rfl, hs5, hb5, hx2_0⟩
  have hn2_5 : b2 ≠ b5 := hb2.ne hs5
  have hg5 : w.heap.size ≤ b5 := Nat.le_trans hE.size hs5
  replace hb2 := hb2.ext hx2_0
  replace hE := hE.trans hx2_0
  replace hR := hR.ext hx2_0
  have hn5g : b5 ≠ g := by omega
  have hN5 : N ≤ b5 := by omega
  have hzw := hE.size
  have hw5 : w.heap.size ≤ b5 := by omega
  refine vn (hK3 _ _ ?_)
  refine vs fun K4 hK4 => vR [(2, _), (4, _), (5, _)] ?_
  refine vM ?_
  refine Wl.call rfl rfl rfl rfl Tryd.func92 rfl (by kernel_rfl) rfl ((sUint_x _ g _ A' n' c' _ 1 hR).mono (R' := UintX 127 _ g N A' n' c' (de1 l)) fun _ _ h => h) ?_
  rintro x2 w31 ⟨rfl, hR1, hF1⟩
  refine ⟨_, rfl, ?_⟩
  replace hR1 : RDX 127 w31 g N A' n' c' (de1 l).1 := hR1
  replace hb2 := hb2.frA hF1
  replace hb5 := hb5.frA hF1
  replace hE := Ext.over hE hF1 hgg
  refine vF 0 Tryd.underlying34 ?_
  refine Wl.acts rfl rfl (Does.stC rfl rfl rfl hb5 (by kernel_rfl) (Nat.le_of_ble_eq_true rfl) rfl) ?_
  rintro _ w3_3 ⟨hbn, hF3_3⟩
  replace hb2 := hb2.frA hF3_3
  replace hE := Ext.over hE hF3_3 hg5
  replace hb5 := hbn
  clear hbn
  (try simp only [List.setIfInBounds_toArray, List.set_cons_zero, List.set_cons_succ, Nat.reduceAdd, Nat.zero_add] at hb5)
  replace hR1 := hR1.fr hF3_3 (fun q hq => by omega)
  refine vn (hK4 _ _ ?_)
  refine vs fun K5 hK5 => vR [(2, _), (4, _), (5, _)] ?_
  refine vM ?_
  refine Wl.call rfl rfl rfl rfl Tryd.func92 rfl (by kernel_rfl) rfl ((sUint_x _ g _ A' n' c' _ 1 hR1).mono (R' := UintX 127 _ g N A' n' c' (de2 l)) fun _ _ h => h) ?_
  rintro x3 w41 ⟨rfl, hR2, hF2⟩
  refine ⟨_, rfl, ?_⟩
  replace hR2 : RDX 127 w41 g N A' n' c' (de2 l).1 := hR2
  replace hb2 := hb2.frA hF2
  replace hb5 := hb5.frA hF2
  replace hE := Ext.over hE hF2 hgg
  refine vF 1 Tryd.underlying34 ?_
  refine Wl.acts rfl rfl (Does.stC rfl rfl rfl hb5 (by kernel_rfl) (Nat.le_of_ble_eq_true rfl) rfl) ?_
  rintro _ w4_3 ⟨hbn, hF4_3⟩
  replace hb2 := hb2.frA hF4_3
  replace hE := Ext.over hE hF4_3 hg5
  replace hb5 := hbn
  clear hbn
  (try simp only [List.setIfInBounds_toArray, List.set_cons_zero, List.set_cons_succ, Nat.reduceAdd, Nat.zero_add] at hb5)
  replace hR2 := hR2.fr hF4_3 (fun q hq => by omega)
  have hb5l := hb5.lt
  refine vn (hK5 _ _ ?_)
  refine vs fun K6 hK6 => vR [(2, _), (4, _), (5, _)] ?_
  refine vM ?_
  refine Wl.call rfl rfl rfl rfl Tryd.func93 rfl (by kernel_rfl) rfl ((sBlob_x _ g _ A' n' c' _ 32 hR2).mono (R' := BlobX 127 _ g N A' n' c' (de3 l)) fun _ _ h => h) ?_
  rintro x4 w51 ⟨S3, m3, k3, rfl, hO3, hR3, hF3⟩
  refine ⟨_, rfl, ?_⟩
  have hm3 := hO3.len
  replace hR3 : RDX 127 w51 g N A' n' c' (de3 l).1 := hR3
  have hB3 : BV w51 (fun q => b5 < q) S3 m3 k3 (de3 l).2 := hO3.bv fun q hq => by omega
  replace hb2 := hb2.frA hF3
  replace hb5 := hb5.frA hF3
  replace hE := Ext.over hE hF3 hgg
  refine vA ?_
  refine vn (hK6 _ _ ?_)
  refine vs fun K7 hK7 => vR [(2, _), (4, _), (5, _), (6, _)] ?_
  refine vM ?_
  refine Wl.call rfl rfl rfl rfl Tryd.func93 rfl (by kernel_rfl) rfl ((sBlob_x _ g _ A' n' c' _ 32 hR3).mono (R' := BlobX 127 _ g N A' n' c' (de4 l)) fun _ _ h => h) ?_
  rintro x5 w61 ⟨S4, m4, k4, rfl, hO4, hR4, hF4⟩
  refine ⟨_, rfl, ?_⟩
  have hm4 := hO4.len
  replace hR4 : RDX 127 w61 g N A' n' c' (de4 l).1 := hR4
  have hb5l' := hF3.size
  have hB4 : BV w61 (fun q => b5 < q) S4 m4 k4 (de4 l).2 := hO4.bv fun q hq => by omega
  replace hB3 := hB3.fr (hF4.mono fun q hq => by omega)
  replace hb2 := hb2.frA hF4
  replace hb5 := hb5.frA hF4
  replace hE := Ext.over hE hF4 hgg
  refine vA ?_
  refine vn (hK7 _ _ ?_)
  refine vs fun K8 hK8 => vR [(2, _), (4, _), (5, _), (6, _), (7, _)] ?_
  refine vM ?_
  refine vM ?_
  refine Wl.does rfl rfl rfl (Does.lit rfl Tryd.underlying32 infoL2 rfl rfl rfl rfl rfl) ?_
  rintro _ w72 ⟨g72, rfl, hs72, hk72, hx72⟩
  have hg72 : b5 < g72 := by have := hb5.lt; omega
  have hLL := bl2 (P := fun q => b5 < q) (hk72 : Blk w72 g72 _ #[.slice S3 m3 k3, .slice S4 m4 k4]) (hB3.ext hx72) (hB4.ext hx72) hg72
  replace hR4 := hR4.ext hx72
  replace hb2 := hb2.ext hx72
  replace hb5 := hb5.ext hx72
  replace hE := hE.trans hx72
  refine vF 2 Tryd.underlying34 ?_
  refine Wl.acts rfl rfl (Does.stC rfl rfl rfl hb5 (by kernel_rfl) (Nat.le_of_ble_eq_true rfl) rfl) ?_
  rintro _ w7_4 ⟨hbn, hF7_4⟩
  replace hb2 := hb2.frA hF7_4
  replace hE := Ext.over hE hF7_4 hg5
  replace hb5 := hbn
  clear hbn
  (try simp only [List.setIfInBounds_toArray, List.set_cons_zero, List.set_cons_succ, Nat.reduceAdd, Nat.zero_add] at hb5)
  replace hR4 := hR4.fr hF7_4 (fun q hq => by omega)
  replace hLL := hLL.fr (hF7_4.mono fun q hq => by omega)
  have hb5l2 := hb5.lt
  refine vn (hK8 _ _ ?_)
  refine vs fun K9 hK9 => vR [(2, _), (4, _), (5, _)] ?_
  refine vM ?_
  refine Wl.call rfl rfl rfl rfl Tryd.func93 rfl (by kernel_rfl) rfl ((sBlob_x _ g _ A' n' c' _ 64 hR4).mono (R' := BlobX 127 _ g N A' n' c' (de5 l)) fun _ _ h => h) ?_
  rintro x6 w81 ⟨S5, m5, k5, rfl, hO5, hR5, hF5⟩
  refine ⟨_, rfl, ?_⟩
  have hm5 := hO5.len
  have hB5 : BV w81 (fun q => b5 < q) S5 m5 k5 (de5 l).2 := hO5.bv fun q hq => by omega
  replace hLL := hLL.fr (hF5.mono fun q hq => by omega)
  replace hb2 := hb2.frA hF5
  replace hb5 := hb5.frA hF5
  replace hE := Ext.over hE hF5 hgg
  refine vF 3 Tryd.underlying34 ?_
  refine Wl.acts rfl rfl (Does.stC rfl rfl rfl hb5 (by kernel_rfl) (Nat.le_of_ble_eq_true rfl) rfl) ?_
  rintro _ w8_3 ⟨hbn, hF8_3⟩
  replace hb2 := hb2.frA hF8_3
  replace hE := Ext.over hE hF8_3 hg5
  replace hb5 := hbn
  clear hbn
  (try simp only [List.setIfInBounds_toArray, List.set_cons_zero, List.set_cons_succ, Nat.reduceAdd, Nat.zero_add] at hb5)
  replace hR5 := hR5.fr hF8_3 (fun q hq => by omega)
  replace hLL := hLL.fr (hF8_3.mono fun q hq => by omega)
  replace hB5 := hB5.fr (hF8_3.mono fun q hq => by omega)
  refine vn (hK9 _ _ ?_)
  refine Wc.seq (fun K10 hK10 => ?_)
  refine vs fun K11 hK11 => vR [(2, _), (4, _), (5, _)] ?_
  refine vM ?_
  refine Wl.call rfl rfl rfl rfl Tryd.func94 rfl (by kernel_rfl) rfl (sEnd_x _ g _ A' n' c' _ hR5) ?_
  rintro x7 w91 ⟨rfl, hq91⟩
  refine ⟨_, rfl, ?_⟩
  replace hLL := hLL.ext hq91.ext
  replace hB5 := hB5.ext hq91.ext
  replace hb2 := hb2.ext hq91.ext
  replace hb5 := hb5.ext hq91.ext
  replace hE := hE.trans hq91.ext
  refine vl (Gives.neq rfl rfl rfl) ?_
  refine vM ?_
  refine Wl.guard rfl rfl rfl (fun h31 => ?_) (fun h31 => ?_)
  · first | replace h31 := dF h31 | replace h31 := nF h31 | skip
    refine vl (Gives.ldW rfl (by kernel_rfl) rfl hb5 (by kernel_rfl)) ?_
    refine Wl.call rfl rfl rfl rfl Tryd.func45 rfl (by kernel_rfl) rfl (evWrR _ (de1 l).2 (de2 l).2 _ 2 2 [(de3 l).2, (de4 l).2] S5 m5 k5 (de5 l).2 hLL hB5) ?_
    rintro x8 w95 ⟨rfl, hx95⟩
    refine ⟨_, rfl, ?_⟩
    replace hLL := hLL.ext hx95
    replace hB5 := hB5.ext hx95
    replace hb2 := hb2.ext hx95
    replace hb5 := hb5.ext hx95
    replace hE := hE.trans hx95
    refine vl (Gives.not rfl rfl) ?_
    refine vU ?_
    refine vn (hK11 _ _ ?_)
    refine Wc.cond _ rfl (fun h35 => ?_) (fun h35 => ?_)
    · first | replace h35 := dT h35 | replace h35 := nT h35 | skip
      refine vs fun K12 hK12 => vR [(2, _)] ?_
      refine vl (Gives.buildS (pl := [(0, 1), (1, 1), (2, 1), (3, 1)]) (zv := (.agg #[(.int .i64 0), (.int .i64 0), (.slice none 0 0), (.slice none 0 0)])) rfl Tryd.underlying34 (by kernel_rfl) (by kernel_rfl) rfl rfl) ?_
      refine Wl.acts rfl rfl (Does.stL 4 rfl rfl rfl hb2 (by kernel_rfl) rfl rfl rfl) ?_
      rintro _ w10_1 ⟨hbn, hF10_1⟩
      replace hb5 := hb5.frA hF10_1
      replace hE := Ext.over hE hF10_1 hg2
      replace hb2 := hbn
      clear hbn
      refine vA ?_
      refine vn (hK12 _ _ ?_)
      refine Wc.ret ?_
      refine Wx.thenR ?_
      refine Wx.ret [_, _] ⟨⟨_, rfl, res_blk hb2 Tryd.underlying34 rfl (by kernel_rfl)⟩, ⟨rfl, trivial⟩⟩ ?_
      first | exact EDecR.yes ⟨h31, by simpa [evD] using h35⟩ (hLL.mono fun k hk => by omega) (hB5.mono fun k hk => by omega) hE | exact EDecR.no (fun h => by have h2 : wrE ⟨(de1 l).2, (de2 l).2, [(de3 l).2, (de4 l).2], (de5 l).2⟩ := h.2; simp [h2] at h35) hE | exact EDecR.no (fun h => h31 h.1) hE
    first | replace h35 := dF h35 | replace h35 := nF h35 | skip
    refine Wc.skip ?_
    refine Wx.thenN (hK10 _ _ ?_)
    refine vs fun K13 hK13 => vR [(2, _), (5, _)] ?_
    refine vl (Gives.ldW rfl (by kernel_rfl) rfl hb5 (by kernel_rfl)) ?_
    refine Wl.acts rfl rfl (Does.stL 4 rfl rfl rfl hb2 (by kernel_rfl) rfl rfl rfl) ?_
    rintro _ w11_1 ⟨hbn, hF11_1⟩
    replace hb5 := hb5.frA hF11_1
    replace hE := Ext.over hE hF11_1 hg2
    replace hb2 := hbn
    clear hbn
    replace hLL := hLL.fr (hF11_1.mono fun q hq => by omega)
    replace hB5 := hB5.fr (hF11_1.mono fun q hq => by omega)
    refine vA ?_
    refine vn (hK13 _ _ ?_)
    refine Wc.ret ?_
    refine Wx.ret [_, _] ⟨⟨_, rfl, res_blk hb2 Tryd.underlying34 rfl (by kernel_rfl)⟩, ⟨rfl, trivial⟩⟩ ?_
    first | exact EDecR.yes ⟨h31, by simpa [evD] using h35⟩ (hLL.mono fun k hk => by omega) (hB5.mono fun k hk => by omega) hE | exact EDecR.no (fun h => by have h2 : wrE ⟨(de1 l).2, (de2 l).2, [(de3 l).2, (de4 l).2], (de5 l).2⟩ := h.2; simp [h2] at h35) hE | exact EDecR.no (fun h => h31 h.1) hE
  first | replace h31 := dT h31 | replace h31 := nT h31 | skip
  refine vP ?_
  refine vP ?_
  refine vP ?_
  refine vT ?_
  refine vn (hK11 _ _ ?_)
  refine Wc.condT rfl rfl ?_
  refine vs fun K14 hK14 => vR [(2, _)] ?_
  refine vl (Gives.buildS (pl := [(0, 1), (1, 1), (2, 1), (3, 1)]) (zv := (.agg #[(.int .i64 0), (.int .i64 0), (.slice none 0 0), (.slice none 0 0)])) rfl Tryd.underlying34 (by kernel_rfl) (by kernel_rfl) rfl rfl) ?_
  refine Wl.acts rfl rfl (Does.stL 4 rfl rfl rfl hb2 (by kernel_rfl) rfl rfl rfl) ?_
  rintro _ w10_1 ⟨hbn, hF10_1⟩
  replace hb5 := hb5.frA hF10_1
  replace hE := Ext.over hE hF10_1 hg2
  replace hb2 := hbn
  clear hbn
  refine vA ?_
  refine vn (hK14 _ _ ?_)
  refine Wc.ret ?_
  refine Wx.thenR ?_
  refine Wx.ret [_, _] ⟨⟨_, rfl, res_blk hb2 Tryd.underlying34 rfl (by kernel_rfl)⟩, ⟨rfl, trivial⟩⟩ ?_
  first | exact EDecR.yes ⟨h31, by simpa [evD] using h35⟩ (hLL.mono fun k hk => by omega) (hB5.mono fun k hk => by omega) hE | exact EDecR.no (fun h => by have h2 : wrE ⟨(de1 l).2, (de2 l).2, [(de3 l).2, (de4 l).2], (de5 l).2⟩ := h.2; simp [h2] at h35) hE | exact EDecR.no (fun h => h31 h.1) hE
end Go.Proofs.YtnbgieccindpnaaDoor
/- Events and logs: equality; rows of events. -/
namespace Go.Proofs.YtnbgieccindpnaaDoor
set_option linter.all false
set_option maxRecDepth 20000
open Go.RowKit
theorem EL.at_ {w : World} {P : Nat → Prop} {A : Option Addr} {n c k : Nat} {l : List Ev} (h : SL Rp.evt w P A n c l) (hk : k < n) :
    ∃ b off, A = some ⟨b, off, none⟩ ∧ b < w.heap.size ∧ ∃ x r, l[k]? = some x ∧ w.rangeAt b (off + k * 4) (evtC x r) ∧ EvtV w P x r := by
  obtain ⟨b, off, hA, hb, _, a, cs, h1, h2, h3⟩ := h.at_ hk
  obtain ⟨r, h4, h5⟩ := evt_of h3
  subst h4
  exact ⟨b, off, hA, hb, a, r, h1, h2, h5⟩
set_option maxRecDepth 20000 in
set_option maxHeartbeats 2000000 in
theorem sameEv {P P' : Nat → Prop} (w : World) (x y : Ev) (r s : ERow) (hx : EvtV w P x r) (hy : EvtV w P' y s) :
    Calls Tryd.prog 48 #[.agg #[.int .i64 x.reg, .int .i64 x.kind, .slice r.D r.dn r.dc, .slice r.S r.m r.d], .agg #[.int .i64 y.reg, .int .i64 y.kind, .slice s.D s.dn s.dc, .slice s.S s.m s.d]] w fun e w' => e = .returned (.bool (decide (x = y))) ∧ Ext w w' := by
  obtain ⟨rg, kd, ds, pay⟩ := x
  obtain ⟨rg2, kd2, ds2, pay2⟩ := y
  obtain ⟨D, dn, dc, S, m, d⟩ := r
  obtain ⟨D2, dn2, dc2, S2, m2, d2⟩ := s
  obtain ⟨hx1, hx2⟩ := hx
  obtain ⟨hy1, hy2⟩ := hy
  dsimp only at hx1 hx2 hy1 hy2 ⊢
  have key : (⟨rg, kd, ds, pay⟩ : Ev) = ⟨rg2, kd2, ds2, pay2⟩ ↔ rg = rg2 ∧ kd = kd2 ∧ ds = ds2 ∧ pay = pay2 := by simp
  have key2 : decide ((⟨rg, kd, ds, pay⟩ : Ev) = ⟨rg2, kd2, ds2, pay2⟩) = decide (rg = rg2 ∧ kd = kd2 ∧ ds = ds2 ∧ pay = pay2) := decide_eq_decide.2 key
  refine calls_enter Tryd.func48 rfl Tryd.ntmps48 rfl ?_
  have hE : Ext w w := Ext.refl w
  refine vs fun K1 hK1 => vR [(0, _), (1, _)] ?_
  refine Wl.does rfl rfl rfl (Does.boxA rfl rfl) ?_
  rintro _ w0_0 ⟨b2, rfl, hs2, hb2, hx0_0⟩
  have hg2 : w.heap.size ≤ b2 := Nat.le_trans hE.size hs2
  replace hE := hE.trans hx0_0
  refine Wl.does rfl rfl rfl (Does.boxA rfl rfl) ?_
  rintro _ w0_1 ⟨b3, rfl, hs3, hb3, hx0_1⟩
  have hn2_3 : b2 ≠ b3 := hb2.ne hs3
  have hg3 : w.heap.size ≤ b3 := Nat.le_trans hE.size hs3
  replace hb2 := hb2.ext hx0_1
  replace hE := hE.trans hx0_1
  refine vA ?_
  refine vn (hK1 _ _ ?_)
  refine vs fun K2 hK2 => vR [(2, _), (3, _)] ?_
  refine vF 0 Tryd.underlying34 ?_
  refine vL hb2 ?_
  refine vF 0 Tryd.underlying34 ?_
  refine vL hb3 ?_
  refine vl (Gives.eql rfl rfl rfl) ?_
  refine vM ?_
  refine Wl.guard rfl rfl rfl (fun h10 => ?_) (fun h10 => ?_)
  · first | replace h10 := dT h10 | replace h10 := nT h10 | skip
    refine vF 1 Tryd.underlying34 ?_
    refine vL hb2 ?_
    refine vF 1 Tryd.underlying34 ?_
    refine vL hb3 ?_
    refine vl (Gives.eql rfl rfl rfl) ?_
    refine vT ?_
    refine vM ?_
    refine Wl.guard rfl rfl rfl (fun h17 => ?_) (fun h17 => ?_)
    · first | replace h17 := dT h17 | replace h17 := nT h17 | skip
      refine vF 2 Tryd.underlying34 ?_
      refine vL hb2 ?_
      refine vF 2 Tryd.underlying34 ?_
      refine vL hb3 ?_
      refine Wl.call rfl rfl rfl rfl Tryd.func72 rfl (by kernel_rfl) rfl (lists_calls _ _ _ _ _ _ _ _ _ (hx1.ext hE) (hy1.ext hE)) ?_
      rintro x1 w1 ⟨rfl, hq1⟩
      refine ⟨_, rfl, ?_⟩
      replace hb2 := hb2.ext hq1.ext
      replace hb3 := hb3.ext hq1.ext
      replace hE := hE.trans hq1.ext
      refine vT ?_
      refine vM ?_
      refine Wl.guard rfl rfl rfl (fun h24 => ?_) (fun h24 => ?_)
      · first | replace h24 := dT h24 | replace h24 := nT h24 | skip
        refine vF 3 Tryd.underlying34 ?_
        refine vL hb2 ?_
        refine vF 3 Tryd.underlying34 ?_
        refine vL hb3 ?_
        refine Wl.call rfl rfl rfl rfl Tryd.func18 rfl (by kernel_rfl) rfl (same_calls _ _ _ _ _ _ _ _ _ (hx2.ext hE) (hy2.ext hE)) ?_
        rintro x2 w2 ⟨rfl, hq2⟩
        refine ⟨_, rfl, ?_⟩
        replace hb2 := hb2.ext hq2.ext
        replace hb3 := hb3.ext hq2.ext
        replace hE := hE.trans hq2.ext
        refine vT ?_
        refine vA ?_
        refine vn (hK2 _ _ ?_)
        refine Wc.ret ?_
        refine Wx.ret [_] ⟨rfl, trivial⟩ ?_
        refine ⟨?_, hE⟩
        rw [key2]
        clear key key2
        simp_all [resV]
      first | replace h24 := dF h24 | replace h24 := nF h24 | skip
      refine vP ?_
      refine vP ?_
      refine vP ?_
      refine vP ?_
      refine vP ?_
      refine vU ?_
      refine vA ?_
      refine vn (hK2 _ _ ?_)
      refine Wc.ret ?_
      refine Wx.ret [_] ⟨rfl, trivial⟩ ?_
      refine ⟨?_, hE⟩
      rw [key2]
      clear key key2
      simp_all [resV]
    first | replace h17 := dF h17 | replace h17 := nF h17 | skip
    refine vP ?_
    refine vP ?_
    refine vP ?_
    refine vP ?_
    refine vP ?_
    refine vU ?_
    refine vM ?_
    refine Wl.guardF rfl rfl rfl rfl ?_
    refine vP ?_
    refine vP ?_
    refine vP ?_
    refine vP ?_
    refine vP ?_
    refine vU ?_
    refine vA ?_
    refine vn (hK2 _ _ ?_)
    refine Wc.ret ?_
    refine Wx.ret [_] ⟨rfl, trivial⟩ ?_
    refine ⟨?_, hE⟩
    rw [key2]
    clear key key2
    simp_all [resV]
  first | replace h10 := dF h10 | replace h10 := nF h10 | skip
  refine vP ?_
  refine vP ?_
  refine vP ?_
  refine vP ?_
  refine vP ?_
  refine vU ?_
  refine vM ?_
  refine Wl.guardF rfl rfl rfl rfl ?_
  refine vP ?_
  refine vP ?_
  refine vP ?_
  refine vP ?_
  refine vP ?_
  refine vU ?_
  refine vM ?_
  refine Wl.guardF rfl rfl rfl rfl ?_
  refine vP ?_
  refine vP ?_
  refine vP ?_
  refine vP ?_
  refine vP ?_
  refine vU ?_
  refine vA ?_
  refine vn (hK2 _ _ ?_)
  refine Wc.ret ?_
  refine Wx.ret [_] ⟨rfl, trivial⟩ ?_
  refine ⟨?_, hE⟩
  rw [key2]
  clear key key2
  simp_all [resV]
theorem take_ev {l : List Ev} {i : Nat} {x : Ev} (h : l[i]? = some x) : l.take i ++ [x] = l.take (i + 1) := by
  obtain ⟨hi, hx⟩ := List.getElem?_eq_some_iff.1 h
  rw [List.take_succ_eq_append_getElem hi, hx]
set_option maxRecDepth 20000 in
set_option maxHeartbeats 2000000 in
theorem sameEvs {P P' : Nat → Prop} (w : World) (A B : Option Addr) (n c m d : Nat) (l r : List Ev) (hl : SL Rp.evt w P A n c l) (hr : SL Rp.evt w P' B m d r) :
    Calls Tryd.prog 23 #[.slice A n c, .slice B m d] w fun e w' => e = .returned (.bool (decide (l = r))) ∧ Ext w w' := by
  have hln := hl.len
  have hle := hl.le
  have hrn := hr.len
  refine calls_enter Tryd.func23 rfl Tryd.ntmps23 rfl ?_
  have hE : Ext w w := Ext.refl w
  refine vs fun K1 hK1 => vR [(0, _), (1, _)] ?_
  refine vA ?_
  refine vn (hK1 _ _ ?_)
  refine Wc.seq (fun K2 hK2 => ?_)
  refine vs fun K3 hK3 => vR [(0, _), (1, _)] ?_
  refine vM ?_
  refine vl (Gives.lenS rfl Tryd.underlying28 rfl) ?_
  refine vM ?_
  refine vl (Gives.lenS rfl Tryd.underlying28 rfl) ?_
  refine vl (Gives.neq rfl rfl rfl) ?_
  refine vn (hK3 _ _ ?_)
  refine Wc.cond _ rfl (fun h10 => ?_) (fun h10 => ?_)
  · first | replace h10 := dT h10 | replace h10 := nT h10 | skip
    refine vs fun K4 hK4 => vR [] ?_
    refine vA ?_
    refine vn (hK4 _ _ ?_)
    refine Wc.ret ?_
    refine Wx.thenR ?_
    refine Wx.ret [_] ⟨rfl, trivial⟩ ?_
    first | exact ⟨by rw [decide_eq_false (fun hh => by rw [hh] at hln; omega)]; rfl, hE⟩ | exact ⟨by rw [decide_eq_false (fun hh => by rw [hh, hz3] at hz; cases hz; simp at h26)]; rfl, hE⟩ | exact ⟨by rw [decide_eq_true (by rw [List.take_of_length_le (by omega), List.take_of_length_le (by omega)] at hlr; exact hlr)]; rfl, hE⟩
  first | replace h10 := dF h10 | replace h10 := nF h10 | skip
  refine Wc.skip ?_
  refine Wx.thenN (hK2 _ _ ?_)
  refine Wc.seq (fun K5 hK5 => ?_)
  refine vs fun K6 hK6 => vR [(0, _), (1, _)] ?_
  refine vA ?_
  refine vn (hK6 _ _ ?_)
  refine Wc.block ?_
  refine vK [(0, _), (1, _), (5, _)] ?_
  refine Wc.loopC (ι := Nat) [(0, _), (1, _)] (fun i => [(5, .int .i64 (i : Int))]) (fun i wr => i ≤ n ∧ l.take i = r.take i ∧ Ext w wr) (fun i => n - i) (0) (.co (.cons rfl (.cons rfl (.nil)))) (⟨by omega, by rw [List.take_zero, List.take_zero], hE⟩) ?_
  intro i wr hJ KL1 hKL1
  clear hE
  obtain ⟨hi, hlr, hE⟩ := hJ
  refine Wc.seq (fun K7 hK7 => ?_)
  refine vs fun K8 hK8 => vR [(0, _), (1, _), (5, _)] ?_
  refine vM ?_
  refine vM ?_
  refine vl (Gives.lenS rfl Tryd.underlying28 rfl) ?_
  refine vl (Gives.lss rfl rfl rfl) ?_
  refine vn (hK8 _ _ ?_)
  refine Wc.cond _ rfl (fun h14 => ?_) (fun h14 => ?_)
  · first | replace h14 := dT h14 | replace h14 := nT h14 | skip
    refine Wc.skip ?_
    refine Wx.thenN (hK7 _ _ ?_)
    refine Wc.seq (fun K9 hK9 => ?_)
    refine Wc.block ?_
    refine vs fun K10 hK10 => vK [(0, _), (1, _), (5, _)] ?_
    refine Wc.regionD (fun _ => true) Eq (.read 0 (.read 1 (.read 2 (.read 3 (.read 4 (.read 5 (.read 6 (.read 7 .tail)))))))) 8 (by kernel_rfl) (by kernel_rfl) (by kernel_rfl) (fun _ => rfl) (fun _ _ _ h k => h.trans k) Quiet ⟨1, rfl⟩ ?_
    intro w6 hR6
    replace hE := hE.trans hR6.ext
    obtain ⟨xb, xo, rfl, hbw, x, rx, hz, hr0, hp⟩ := EL.at_ (hl.ext hE) (show i < n by omega)
    obtain ⟨yb, yo, rfl, hbw2, y, ry, hz3, hr3, hp3⟩ := EL.at_ (hr.ext hE) (show i < m by omega)
    refine rE rfl (Gives.move rfl rfl) ?_
    refine rE rfl (Gives.move rfl rfl) ?_
    refine rE rfl (Gives.ixSZ (i := i) (sz := 4) rfl Tryd.underlying28 (by kernel_rfl) rfl rfl rfl (by omega)) ?_
    refine rE rfl (Gives.ldM rfl (by kernel_rfl) rfl hr0 (by kernel_rfl)) ?_
    refine rE rfl (Gives.move rfl rfl) ?_
    refine rE rfl (Gives.move rfl rfl) ?_
    refine rE rfl (Gives.ixSZ (i := i) (sz := 4) rfl Tryd.underlying28 (by kernel_rfl) rfl rfl rfl (by omega)) ?_
    refine rE rfl (Gives.ldM rfl (by kernel_rfl) rfl hr3 (by kernel_rfl)) ?_
    refine RunE.tail rfl ?_
    refine Wl.call rfl rfl rfl rfl Tryd.func48 rfl (by kernel_rfl) rfl (sameEv _ x y rx ry hp hp3) ?_
    rintro x1 w68 ⟨rfl, hx68⟩
    refine ⟨_, rfl, ?_⟩
    replace hE := hE.trans hx68
    refine vl (Gives.not rfl rfl) ?_
    refine vn (hK10 _ _ ?_)
    refine Wc.cond _ rfl (fun h26 => ?_) (fun h26 => ?_)
    · first | replace h26 := dT h26 | replace h26 := nT h26 | skip
      refine vs fun K11 hK11 => vR [] ?_
      refine vA ?_
      refine vn (hK11 _ _ ?_)
      refine Wc.ret ?_
      refine Wx.blockR ?_
      refine Wx.thenR ?_
      refine Wx.thenR ?_
      refine Wx.blockR ?_
      refine Wx.thenR ?_
      refine Wx.ret [_] ⟨rfl, trivial⟩ ?_
      first | exact ⟨by rw [decide_eq_false (fun hh => by rw [hh] at hln; omega)]; rfl, hE⟩ | exact ⟨by rw [decide_eq_false (fun hh => by rw [hh, hz3] at hz; cases hz; simp at h26)]; rfl, hE⟩ | exact ⟨by rw [decide_eq_true (by rw [List.take_of_length_le (by omega), List.take_of_length_le (by omega)] at hlr; exact hlr)]; rfl, hE⟩
    first | replace h26 := dF h26 | replace h26 := nF h26 | skip
    refine Wc.skip ?_
    refine Wx.blockN ?_
    refine Wx.thenN (hK9 _ _ ?_)
    refine vR [(0, _), (1, _), (5, _)] ?_
    refine vM ?_
    refine vAdd ?_
    refine vA ?_
    refine Wl.nil ?_
    refine Wx.thenN ?_
    have hxy : x = y := by simpa using h26
    exact hKL1 (i + 1) _ _ (.co (.cons rfl (.cons rfl (.nil)))) ⟨by omega, by rw [← take_ev hz, ← take_ev hz3, hlr, hxy], hE⟩ (by show n - (i + 1) < n - i; omega)
  first | replace h14 := dF h14 | replace h14 := nF h14 | skip
  refine Wc.exit ?_
  refine Wx.thenE ?_
  refine Wx.thenE ?_
  refine Wx.hit ?_
  refine Wx.thenN (hK5 _ _ ?_)
  refine vs fun K12 hK12 => vR [] ?_
  refine vA ?_
  refine vn (hK12 _ _ ?_)
  refine Wc.ret ?_
  refine Wx.ret [_] ⟨rfl, trivial⟩ ?_
  first | exact ⟨by rw [decide_eq_false (fun hh => by rw [hh] at hln; omega)]; rfl, hE⟩ | exact ⟨by rw [decide_eq_false (fun hh => by rw [hh, hz3] at hz; cases hz; simp at h26)]; rfl, hE⟩ | exact ⟨by rw [decide_eq_true (by rw [List.take_of_length_le (by omega), List.take_of_length_le (by omega)] at hlr; exact hlr)]; rfl, hE⟩
set_option maxRecDepth 20000 in
set_option maxHeartbeats 2000000 in
theorem sameLg {P P' : Nat → Prop} (w : World) (a1 b1' a2 b2' : Int) (A B : Option Addr) (n c m d : Nat) (l r : List Ev) (hl : SL Rp.evt w P A n c l) (hr : SL Rp.evt w P' B m d r) :
    Calls Tryd.prog 29 #[.agg #[.int .i64 a1, .int .i64 b1', .slice A n c], .agg #[.int .i64 a2, .int .i64 b2', .slice B m d]] w fun e w' => e = .returned (.bool (decide ((⟨a1, b1', l⟩ : Lg) = ⟨a2, b2', r⟩))) ∧ Ext w w' := by
  have key : (⟨a1, b1', l⟩ : Lg) = ⟨a2, b2', r⟩ ↔ a1 = a2 ∧ b1' = b2' ∧ l = r := by simp
  have key2 : decide ((⟨a1, b1', l⟩ : Lg) = ⟨a2, b2', r⟩) = decide (a1 = a2 ∧ b1' = b2' ∧ l = r) := decide_eq_decide.2 key
  refine calls_enter Tryd.func29 rfl Tryd.ntmps29 rfl ?_
  have hE : Ext w w := Ext.refl w
  refine vs fun K1 hK1 => vR [(0, _), (1, _)] ?_
  refine Wl.does rfl rfl rfl (Does.boxA rfl rfl) ?_
  rintro _ w0_0 ⟨b2, rfl, hs2, hb2, hx0_0⟩
  have hg2 : w.heap.size ≤ b2 := Nat.le_trans hE.size hs2
  replace hE := hE.trans hx0_0
  refine Wl.does rfl rfl rfl (Does.boxA rfl rfl) ?_
  rintro _ w0_1 ⟨b3, rfl, hs3, hb3, hx0_1⟩
  have hn2_3 : b2 ≠ b3 := hb2.ne hs3
  have hg3 : w.heap.size ≤ b3 := Nat.le_trans hE.size hs3
  replace hb2 := hb2.ext hx0_1
  replace hE := hE.trans hx0_1
  refine vA ?_
  refine vn (hK1 _ _ ?_)
  refine vs fun K2 hK2 => vR [(2, _), (3, _)] ?_
  refine vF 0 Tryd.underlying30 ?_
  refine vL hb2 ?_
  refine vF 0 Tryd.underlying30 ?_
  refine vL hb3 ?_
  refine vl (Gives.eql rfl rfl rfl) ?_
  refine vM ?_
  refine Wl.guard rfl rfl rfl (fun h10 => ?_) (fun h10 => ?_)
  · first | replace h10 := dT h10 | replace h10 := nT h10 | skip
    refine vF 1 Tryd.underlying30 ?_
    refine vL hb2 ?_
    refine vF 1 Tryd.underlying30 ?_
    refine vL hb3 ?_
    refine vl (Gives.eql rfl rfl rfl) ?_
    refine vT ?_
    refine vM ?_
    refine Wl.guard rfl rfl rfl (fun h17 => ?_) (fun h17 => ?_)
    · first | replace h17 := dT h17 | replace h17 := nT h17 | skip
      refine vF 2 Tryd.underlying30 ?_
      refine vL hb2 ?_
      refine vF 2 Tryd.underlying30 ?_
      refine vL hb3 ?_
      refine Wl.call rfl rfl rfl rfl Tryd.func23 rfl (by kernel_rfl) rfl (sameEvs _ A B n c m d l r (hl.ext hE) (hr.ext hE)) ?_
      rintro x1 w1 ⟨rfl, hx1⟩
      refine ⟨_, rfl, ?_⟩
      replace hb2 := hb2.ext hx1
      replace hb3 := hb3.ext hx1
      replace hE := hE.trans hx1
      refine vT ?_
      refine vA ?_
      refine vn (hK2 _ _ ?_)
      refine Wc.ret ?_
      refine Wx.ret [_] ⟨rfl, trivial⟩ ?_
      refine ⟨?_, hE⟩
      rw [key2]
      clear key key2
      simp_all [resV]
    first | replace h17 := dF h17 | replace h17 := nF h17 | skip
    refine vP ?_
    refine vP ?_
    refine vP ?_
    refine vP ?_
    refine vP ?_
    refine vU ?_
    refine vA ?_
    refine vn (hK2 _ _ ?_)
    refine Wc.ret ?_
    refine Wx.ret [_] ⟨rfl, trivial⟩ ?_
    refine ⟨?_, hE⟩
    rw [key2]
    clear key key2
    simp_all [resV]
  first | replace h10 := dF h10 | replace h10 := nF h10 | skip
  refine vP ?_
  refine vP ?_
  refine vP ?_
  refine vP ?_
  refine vP ?_
  refine vU ?_
  refine vM ?_
  refine Wl.guardF rfl rfl rfl rfl ?_
  refine vP ?_
  refine vP ?_
  refine vP ?_
  refine vP ?_
  refine vP ?_
  refine vU ?_
  refine vA ?_
  refine vn (hK2 _ _ ?_)
  refine Wc.ret ?_
  refine Wx.ret [_] ⟨rfl, trivial⟩ ?_
  refine ⟨?_, hE⟩
  rw [key2]
  clear key key2
  simp_all [resV]
end Go.Proofs.YtnbgieccindpnaaDoor
/- EvN: merged. -/
/- Events: Make of both, equality. -/
namespace Go.Proofs.YtnbgieccindpnaaDoor
set_option linter.all false
set_option maxRecDepth 20000
open Go.RowKit
theorem sumZ0 : SumC 54 0 sha1S := fun P w hT A n c l hl hn => (sum1P w A n c l hl (by omega)).mono fun e w' ⟨S, k, h1, h2, h3⟩ => ⟨S, 20, k, h1, h2, h3⟩
set_option maxRecDepth 20000 in
theorem sumY0 : SumC 56 0 sha1S := fun P w hT A n c l hl hn => by
  refine calls_enter Tryd.func56 rfl Tryd.ntmps56 rfl ?_
  have hE : Ext w w := Ext.refl w
  refine vs fun K1 hK1 => vR [(0, _), (1, _)] ?_
  refine vA ?_
  refine vn (hK1 _ _ ?_)
  refine Wc.seq (fun K2 hK2 => ?_)
  refine vs fun K3 hK3 => vR [(0, _), (1, _)] ?_
  refine vM ?_
  refine vn (hK3 _ _ ?_)
  refine Wc.block ?_
  refine vs fun K4 hK4 => vR [(1, _), (5, _)] ?_
  refine vl (Gives.eql rfl rfl rfl) ?_
  refine vA ?_
  refine vn (hK4 _ _ ?_)
  refine Wc.condT rfl (by decide) ?_
  refine vs fun K5 hK5 => vR [(1, _)] ?_
  refine vM ?_
  refine Wl.call rfl rfl rfl rfl Tryd.func79 rfl (by kernel_rfl) rfl (sum1R _ A n c l (hl.ext hE) (by omega)) ?_
  rintro x1 w1 ⟨S, k, rfl, hO, hx1⟩
  refine ⟨_, rfl, ?_⟩
  have hzE := hE.size
  replace hE := hE.trans hx1
  refine vA ?_
  refine vn (hK5 _ _ ?_)
  refine Wc.ret ?_
  refine Wx.blockR ?_
  refine Wx.thenR ?_
  refine Wx.ret [_] ⟨rfl, trivial⟩ ?_
  exact ⟨S, 20, k, rfl, hO.mono hzE, hE⟩
def sumX (i : Nat) : List UInt8 → List UInt8 := if i = 0 then sha1S else sha256S
theorem sumPX {i : Nat} (hi : i < 2) : SumC 54 (i : Int) (sumX i) := by
  rcases (show i = 0 ∨ i = 1 by omega) with rfl | rfl
  · exact sumZ0
  · exact sumP1
theorem sumRX {i : Nat} (hi : i < 2) : SumC 56 (i : Int) (sumX i) := by
  rcases (show i = 0 ∨ i = 1 by omega) with rfl | rfl
  · exact sumY0
  · exact sumR1
def mkD (kind act : Int) (pay : List UInt8) (i : Nat) : List UInt8 := if (decide (kind ≠ 5) && hasS act i) = true then sumX i pay else []
theorem mkD_y {kind act : Int} {pay : List UInt8} {i : Nat} (h : kind ≠ 5) (h2 : hasS act i = true) : mkD kind act pay i = sumX i pay := by unfold mkD; rw [if_pos (by rw [decide_eq_true h, h2]; rfl)]
theorem mkD_n {kind act : Int} {pay : List UInt8} {i : Nat} (h : ¬ (kind ≠ 5 ∧ hasS act i = true)) : mkD kind act pay i = [] := by unfold mkD; rw [if_neg]; intro hh; simp only [Bool.and_eq_true, decide_eq_true_eq] at hh; exact h hh
def mkE (rg kd act : Int) (pay : List UInt8) : Ev := ⟨rg, kd, [mkD kd act pay 0, mkD kd act pay 1], pay⟩
def MakeR (w : World) (P : Nat → Prop) (x : Ev) (e : Ending) (w' : World) : Prop := ∃ D dc S m k, e = .returned (.agg #[.int .i64 x.reg, .int .i64 x.kind, .slice D 2 dc, .slice S m k]) ∧ BL w' (fun q => w.heap.size ≤ q) D 2 dc x.ds ∧ BV w' (fun q => P q ∨ w.heap.size ≤ q) S m k x.pay ∧ Ext w w'
theorem run_nilEq {P : Program} {t el : TypeId} {A : Option Addr} {m c n' c' : Nat} (ht : P.underlying t = some (.slice el)) (w : World) : (Op.equal t (.slice A m c) (.slice none n' c')).run P w = .ok A.isNone w := by
  unfold Op.equal
  rw [show Op.maxDepth = 9999 + 1 from rfl]
  unfold Op.equalIn
  rw [Sem.run_bind, run_underlying ht]
  cases A <;> simp [go_sem]
theorem Gives.nilEql {P : Program} {n : Nat} {e : Env} {w : World} {o : Oper} {x y : Operand} {t t' el : TypeId} {A : Option Addr} {m c n' c' : Nat} (ho : o.op = .binOp .eql t x y t') (ht : P.underlying t = some (.slice el)) (hx : ev e x = some (.slice A m c)) (hy : ev e y = some (.slice none n' c')) : Gives P n o e w (.bool A.isNone) := .run fun a ha => by
  have h := run_nilEq (P := P) (A := A) (m := m) (c := c) (n' := n') (c' := c') ht w
  unfold execOp
  simp only [ho, ha.ev hx, ha.ev hy]
  simp [binOp, eqGuard, Sem.run_bind, h, go_sem]
set_option maxRecDepth 20000 in
theorem cloneP {P : Nat → Prop} (w : World) (A : Option Addr) (n c : Nat) (l : List UInt8) (ha : BV w P A n c l) (hn : n ≤ 35184372088832) :
    Calls Tryd.prog 53 #[.slice A n c] w fun e w' => ∃ S m k, e = .returned (.slice S m k) ∧ OB w' w.heap.size 5 S m k l ∧ Ext w w' := by
  have hl := ha.len
  refine calls_enter Tryd.func53 rfl Tryd.ntmps53 rfl ?_
  have hE : Ext w w := Ext.refl w
  refine vs fun K1 hK1 => vR [(0, _)] ?_
  refine vA ?_
  refine vn (hK1 _ _ ?_)
  refine Wc.seq (fun K2 hK2 => ?_)
  refine vs fun K3 hK3 => vR [(0, _)] ?_
  refine vM ?_
  refine vl (Gives.nilEql rfl Tryd.underlying22 rfl rfl) ?_
  refine vn (hK3 _ _ ?_)
  refine Wc.cond _ rfl (fun h4 => ?_) (fun h4 => ?_)
  · first | replace h4 := dT h4 | replace h4 := nT h4 | skip
    refine vs fun K4 hK4 => vR [] ?_
    refine vA ?_
    refine vn (hK4 _ _ ?_)
    refine Wc.ret ?_
    refine Wx.thenR ?_
    refine Wx.ret [_] ⟨rfl, trivial⟩ ?_
    have hA : A = none := by cases A with | none => rfl | some a => cases h4
    have hl0 : l = [] := by
      rcases Nat.eq_zero_or_pos n with h0 | h0
      · exact List.eq_nil_of_length_eq_zero (by omega)
      · obtain ⟨b, o, hb, _⟩ := ha.2.2.2 h0
        rw [hA] at hb; cases hb
    exact ⟨none, 0, 0, rfl, by rw [hl0]; exact OB.nil_ _ _ _, hE⟩
  first | replace h4 := dF h4 | replace h4 := nF h4 | skip
  refine Wc.skip ?_
  refine Wx.thenN (hK2 _ _ ?_)
  refine vs fun K5 hK5 => vR [(0, _)] ?_
  refine Wl.does rfl rfl rfl (Does.lit rfl Tryd.underlying22 infoB2 rfl rfl rfl rfl rfl) ?_
  rintro _ w30 ⟨g30, rfl, hs30, hk30, hx30⟩
  have hOe : OB w30 w.heap.size 5 (some ⟨g30, 0, none⟩) 0 0 [] := MB.ob (l := []) hk30 (Nat.le_trans hE.size hs30) rfl (Nat.le_refl _) rfl (by omega)
  replace hE := hE.trans hx30
  refine vM ?_
  refine Wl.does rfl rfl rfl (Does.app0 rfl Tryd.underlying22 infoB rfl rfl hOe (ha.ext hE) (by omega) hE.size) ?_
  rintro _ w32 ⟨S5, k5, rfl, hO5, hx32⟩
  replace hE := hE.trans hx32
  refine vA ?_
  refine vn (hK5 _ _ ?_)
  refine Wc.ret ?_
  refine Wx.ret [_] ⟨rfl, trivial⟩ ?_
  exact ⟨S5, n, k5, rfl, hO5, hE⟩
set_option maxRecDepth 20000 in
set_option maxHeartbeats 2000000 in
theorem makeRR {P : Nat → Prop} (w : World) (hT : Tab w) (rg kd act : Int) (A : Option Addr) (n c : Nat) (pay : List UInt8) (hp : BV w P A n c pay) (hn : n ≤ 1000000) :
    Calls Tryd.prog 37 #[.int .i64 rg, .int .i64 kd, .int .i64 act, .slice A n c] w (MakeR w P (mkE rg kd act pay)) := by
  have hpl := hp.len
  refine calls_enter Tryd.func37 rfl Tryd.ntmps37 rfl ?_
  have hE : Ext w w := Ext.refl w
  refine vs fun K1 hK1 => vR [(0, _), (1, _), (2, _), (3, _)] ?_
  refine Wl.does rfl rfl rfl (Does.alB (.agg #[(.int .i64 0), (.int .i64 0), (.slice none 0 0), (.slice none 0 0)]) rfl (by kernel_rfl) rfl) ?_
  rintro _ w0_0 ⟨b8, rfl, hs8, hb8, hx0_0⟩
  have hg8 : w.heap.size ≤ b8 := Nat.le_trans hE.size hs8
  replace hE := hE.trans hx0_0
  refine vn (hK1 _ _ ?_)
  refine vs fun K2 hK2 => vR [(0, _), (1, _), (2, _), (3, _), (8, _)] ?_
  refine vM ?_
  refine vM ?_
  refine Wl.does rfl rfl rfl (Does.mkA 2 rfl rfl Tryd.underlying32 infoL rfl rfl rfl (by omega) (by omega)) ?_
  rintro _ w12 ⟨gr, rfl, hgr, hk12, hx12⟩
  have hkr : Blk w12 gr 22 #[.slice none 0 0, .slice none 0 0] := hk12
  have hgw : w.heap.size ≤ gr := Nat.le_trans hE.size hgr
  have hb8r : b8 < gr := by have := hb8.lt; omega
  have hlr0 := hkr.lt
  replace hb8 := hb8.ext hx12
  replace hE := hE.trans hx12
  refine vM ?_
  refine vl (Gives.buildS (pl := [(0, 1), (1, 1), (2, 1), (3, 1)]) (zv := (.agg #[(.int .i64 0), (.int .i64 0), (.slice none 0 0), (.slice none 0 0)])) rfl Tryd.underlying34 (by kernel_rfl) (by kernel_rfl) rfl rfl) ?_
  refine Wl.does rfl rfl rfl (Does.alB (.agg #[(.int .i64 0), (.int .i64 0), (.slice none 0 0), (.slice none 0 0)]) rfl (by kernel_rfl) rfl) ?_
  rintro _ w1_5 ⟨b9, rfl, hs9, hb9, hx1_5⟩
  have hn8_9 : b8 ≠ b9 := hb8.ne hs9
  have hg9 : w.heap.size ≤ b9 := Nat.le_trans hE.size hs9
  replace hb8 := hb8.ext hx1_5
  replace hE := hE.trans hx1_5
  refine Wl.acts rfl rfl (Does.stL 4 rfl rfl rfl hb9 (by kernel_rfl) rfl rfl rfl) ?_
  rintro _ w1_6 ⟨hbn, hF1_6⟩
  replace hb8 := hb8.frA hF1_6
  replace hE := Ext.over hE hF1_6 hg9
  replace hb9 := hbn
  clear hbn
  replace hkr := (hkr.ext hx1_5).fr hF1_6 (by omega)
  have hn9r : b9 ≠ gr := by omega
  have hn8r : b8 ≠ gr := by omega
  have hb89 : b8 < b9 := by omega
  have hBp : BV w1_6 (fun q => q ≠ gr ∧ q ≠ b8 ∧ (P q ∨ w.heap.size ≤ q)) A n c pay := (hp.bd.ext hE).mono fun q hq => ⟨by have := hq.2; omega, by have := hq.2; omega, .inl hq.1⟩
  refine vn (hK2 _ _ ?_)
  refine Wc.seq (fun K3 hK3 => ?_)
  refine vs fun K4 hK4 => vR [(1, _), (2, _), (3, _), (8, _), (9, _)] ?_
  refine vA ?_
  refine vn (hK4 _ _ ?_)
  refine Wc.block ?_
  refine vK [(1, _), (2, _), (3, _), (8, _), (9, _), (10, _)] ?_
  refine Wc.loopC (ι := Nat × (Option Addr × Nat × Nat) × (Option Addr × Nat × Nat)) [(1, _), (2, _), (3, _), (8, _), (9, _)] (fun | (i, _, _) => [(10, .int .i64 (i : Int))]) (fun | (i, (S0, m0, k0), (S1, m1, k1)), wr => i ≤ 2 ∧ BV wr (fun q => q ≠ gr ∧ b8 < q) S0 m0 k0 (if 0 < i then mkD kd act pay 0 else []) ∧ BV wr (fun q => q ≠ gr ∧ b8 < q) S1 m1 k1 (if 1 < i then mkD kd act pay 1 else []) ∧ BV wr (fun q => q ≠ gr ∧ q ≠ b8 ∧ (P q ∨ w.heap.size ≤ q)) A n c pay ∧ Blk wr gr 22 #[.slice S0 m0 k0, .slice S1 m1 k1] ∧ Blk wr b9 34 #[.int .i64 rg, .int .i64 kd, .slice (some ⟨gr, 0, none⟩) 2 2, .slice A n c] ∧ Blk wr b8 34 #[.int .i64 0, .int .i64 0, .slice none 0 0, .slice none 0 0] ∧ Ext w wr) (fun | (i, _) => 2 - i) ((0, (none, 0, 0), (none, 0, 0))) (.co (.cons rfl (.cons rfl (.cons rfl (.cons rfl (.cons rfl (.nil))))))) (⟨by omega, BV.nil_ _ _, BV.nil_ _ _, hBp, hkr, hb9, hb8, hE⟩) ?_
  intro ⟨i, ⟨S0, m0, k0⟩, ⟨S1, m1, k1⟩⟩ wr hJ KL1 hKL1
  clear hE hBp hkr hb9 hb8
  obtain ⟨hi, h0, h1, hBp, hkr, hb9, hb8, hE⟩ := hJ
  have hlr := hkr.lt
  refine Wc.seq (fun K5 hK5 => ?_)
  refine vs fun K6 hK6 => vR [(1, _), (2, _), (3, _), (8, _), (9, _), (10, _)] ?_
  refine vM ?_
  refine vl (Gives.lss rfl rfl rfl) ?_
  refine vn (hK6 _ _ ?_)
  refine Wc.cond _ rfl (fun h17 => ?_) (fun h17 => ?_)
  · first | replace h17 := dT h17 | replace h17 := nT h17 | skip
    refine Wc.skip ?_
    refine Wx.thenN (hK5 _ _ ?_)
    refine Wc.seq (fun K7 hK7 => ?_)
    refine Wc.block ?_
    refine vs fun K8 hK8 => vR [(1, _), (2, _), (3, _), (8, _), (9, _), (10, _)] ?_
    refine vM ?_
    refine vM ?_
    refine vl (Gives.call rfl Tryd.func55 rfl (by kernel_rfl) rfl (hasR _ act i (by omega))) ?_
    refine vM ?_
    refine Wl.guard rfl rfl rfl (fun h23 => ?_) (fun h23 => ?_)
    · first | replace h23 := dT h23 | replace h23 := nT h23 | skip
      refine vM ?_
      refine vl (Gives.neq rfl rfl rfl) ?_
      refine vT ?_
      refine vn (hK8 _ _ ?_)
      refine Wc.cond _ rfl (fun h26 => ?_) (fun h26 => ?_)
      · first | replace h26 := dT h26 | replace h26 := nT h26 | skip
        refine vK [(1, _), (2, _), (3, _), (8, _), (9, _), (10, _)] ?_
        refine Wc.regionB (fun q => [1, 5].contains q) [] (.read 0 (.read 1 (.read 2 (.read 3 (.read 4 (.call false 5 .tail .none)))))) 6 (by kernel_rfl) (by kernel_rfl) (by kernel_rfl) ?_
        intro w6 hR6
        replace hb8 := hb8.ext hR6.ext
        replace hb9 := hb9.ext hR6.ext
        replace hE := hE.trans hR6.ext
        have hO6_8 : Old w6.heap.size [] b8 := ⟨hb8.lt, trivial⟩
        have hO6_9 : Old w6.heap.size [] b9 := ⟨hb9.lt, trivial⟩
        have hX := Ext.refl w6
        have hlw6 := hR6.ext.size
        refine RunE.read rfl rfl rfl rfl (fun wS _ => (Gives.fieldAt 2 rfl Tryd.underlying34 rfl (by kernel_rfl) rfl rfl)) ?_
        refine RunE.readM rfl rfl rfl rfl rfl (fun wS hS => (Gives.ldK rfl (by kernel_rfl) rfl ((hb9.ext hX).fr hS hO6_9) rfl)) ?_
        refine RunE.read rfl rfl rfl rfl (fun wS _ => (Gives.move rfl rfl)) ?_
        refine RunE.read rfl rfl rfl rfl (fun wS _ => (Gives.move rfl rfl)) ?_
        refine RunE.read rfl rfl rfl rfl (fun wS _ => (Gives.move rfl rfl)) ?_
        refine RunE.turnC rfl rfl rfl rfl rfl Tryd.func56 rfl (by kernel_rfl) rfl (sumRX (show i < 2 by omega) _ _ (hT.ext (hE.trans hX)) A n c pay (hp.ext (hE.trans hX)) hn) ?_ RunE.none
        rintro x2 w65 ⟨S4, m4, k4, rfl, hO4, hx65⟩
        refine ⟨_, rfl, ?_⟩
        refine ⟨hx65.fr, ?_⟩
        replace hX := hX.trans hx65
        refine RunE.tail rfl ?_
        replace hb8 := hb8.ext hX
        replace hb9 := hb9.ext hX
        replace hE := hE.trans hX
        refine vl (Gives.ixS (i := i) rfl Tryd.underlying32 (by kernel_rfl) rfl rfl (by omega) (by omega)) ?_
        have hkd : kd ≠ 5 := by omega
        have hhas : hasS act i = true := by first | exact decide_eq_true h23 | simpa using h23
        refine Wl.acts rfl rfl (Does.stC (i := 0 + i) rfl rfl rfl (hkr.ext (hR6.ext.trans hX)) (by kernel_rfl) (by show 0 + i < 2; omega) rfl) ?_
        rintro _ w67 ⟨hk2, hFs⟩
        replace h0 := h0.ext (hR6.ext.trans hX)
        replace h1 := h1.ext (hR6.ext.trans hX)
        replace hBp := hBp.ext (hR6.ext.trans hX)
        have hB4 : BV w67 (fun q => q ≠ gr ∧ b8 < q) S4 m4 k4 (mkD kd act pay i) := by
          rw [mkD_y hkd hhas]
          exact (hO4.bv (P := fun q => q ≠ gr ∧ b8 < q) fun q hq => by omega).fr (hFs.mono fun q hq => hq.1)
        replace h0 := h0.fr (hFs.mono fun q hq => hq.1)
        replace h1 := h1.fr (hFs.mono fun q hq => hq.1)
        replace hBp := hBp.fr (hFs.mono fun q hq => hq.1)
        replace hb9 := hb9.fr hFs hn9r
        replace hb8 := hb8.fr hFs hn8r
        replace hE := Ext.over hE hFs hgw
        refine Wl.nil ?_
        skip
        refine Wx.blockN ?_
        refine Wx.thenN (hK7 _ _ ?_)
        refine vR [(1, _), (2, _), (3, _), (8, _), (9, _), (10, _)] ?_
        refine vM ?_
        refine vAdd ?_
        refine vA ?_
        refine Wl.nil ?_
        refine Wx.thenN ?_
        rcases (show i = 0 ∨ i = 1 by omega) with rfl | rfl
        · exact hKL1 (0 + 1, (S4, m4, k4), (S1, m1, k1)) _ _ (.co (.cons rfl (.cons rfl (.cons rfl (.cons rfl (.cons rfl (.nil))))))) ⟨by omega, hB4, h1, hBp, hk2, hb9, hb8, hE⟩ (by show 2 - (0 + 1) < 2 - 0; omega)
        · exact hKL1 (1 + 1, (S0, m0, k0), (S4, m4, k4)) _ _ (.co (.cons rfl (.cons rfl (.cons rfl (.cons rfl (.cons rfl (.nil))))))) ⟨by omega, h0, hB4, hBp, hk2, hb9, hb8, hE⟩ (by show 2 - (1 + 1) < 2 - 1; omega)
      first | replace h26 := dF h26 | replace h26 := nF h26 | skip
      refine Wc.skip ?_
      refine Wx.blockN ?_
      refine Wx.thenN (hK7 _ _ ?_)
      refine vR [(1, _), (2, _), (3, _), (8, _), (9, _), (10, _)] ?_
      refine vM ?_
      refine vAdd ?_
      refine vA ?_
      refine Wl.nil ?_
      refine Wx.thenN ?_
      have hno : ¬ (kd ≠ 5 ∧ hasS act i = true) := by rintro ⟨ha, hb⟩; first | omega | exact h23 (of_decide_eq_true hb) | simp_all
      rcases (show i = 0 ∨ i = 1 by omega) with rfl | rfl
      · exact hKL1 (0 + 1, (S0, m0, k0), (S1, m1, k1)) _ _ (.co (.cons rfl (.cons rfl (.cons rfl (.cons rfl (.cons rfl (.nil))))))) ⟨by omega, by show BV wr _ S0 m0 k0 (mkD kd act pay 0); rw [mkD_n hno]; exact h0, h1, hBp, hkr, hb9, hb8, hE⟩ (by show 2 - (0 + 1) < 2 - 0; omega)
      · exact hKL1 (1 + 1, (S0, m0, k0), (S1, m1, k1)) _ _ (.co (.cons rfl (.cons rfl (.cons rfl (.cons rfl (.cons rfl (.nil))))))) ⟨by omega, h0, by show BV wr _ S1 m1 k1 (mkD kd act pay 1); rw [mkD_n hno]; exact h1, hBp, hkr, hb9, hb8, hE⟩ (by show 2 - (1 + 1) < 2 - 1; omega)
    first | replace h23 := dF h23 | replace h23 := nF h23 | skip
    refine vP ?_
    refine vP ?_
    refine vU ?_
    refine vn (hK8 _ _ ?_)
    refine Wc.condF rfl rfl ?_
    refine Wc.skip ?_
    refine Wx.blockN ?_
    refine Wx.thenN (hK7 _ _ ?_)
    refine vR [(1, _), (2, _), (3, _), (8, _), (9, _), (10, _)] ?_
    refine vM ?_
    refine vAdd ?_
    refine vA ?_
    refine Wl.nil ?_
    refine Wx.thenN ?_
    have hno : ¬ (kd ≠ 5 ∧ hasS act i = true) := by rintro ⟨ha, hb⟩; first | omega | exact h23 (of_decide_eq_true hb) | simp_all
    rcases (show i = 0 ∨ i = 1 by omega) with rfl | rfl
    · exact hKL1 (0 + 1, (S0, m0, k0), (S1, m1, k1)) _ _ (.co (.cons rfl (.cons rfl (.cons rfl (.cons rfl (.cons rfl (.nil))))))) ⟨by omega, by show BV wr _ S0 m0 k0 (mkD kd act pay 0); rw [mkD_n hno]; exact h0, h1, hBp, hkr, hb9, hb8, hE⟩ (by show 2 - (0 + 1) < 2 - 0; omega)
    · exact hKL1 (1 + 1, (S0, m0, k0), (S1, m1, k1)) _ _ (.co (.cons rfl (.cons rfl (.cons rfl (.cons rfl (.cons rfl (.nil))))))) ⟨by omega, h0, by show BV wr _ S1 m1 k1 (mkD kd act pay 1); rw [mkD_n hno]; exact h1, hBp, hkr, hb9, hb8, hE⟩ (by show 2 - (1 + 1) < 2 - 1; omega)
  first | replace h17 := dF h17 | replace h17 := nF h17 | skip
  refine Wc.exit ?_
  refine Wx.thenE ?_
  refine Wx.thenE ?_
  refine Wx.hit ?_
  refine Wx.thenN (hK3 _ _ ?_)
  refine vs fun K9 hK9 => vK [(8, _), (9, _)] ?_
  obtain rfl : i = 2 := by omega
  have hBL := bl2 (P := fun q => b8 < q) hkr (h0.mono fun q hq => hq.2) (h1.mono fun q hq => hq.2) hb8r
  refine Wc.region ?_
  refine vl (Gives.ldW rfl (by kernel_rfl) rfl hb9 (by kernel_rfl)) ?_
  refine Wl.acts rfl rfl (Does.stL 4 rfl rfl rfl hb8 (by kernel_rfl) rfl rfl rfl) ?_
  rintro _ w7_1 ⟨hbn, hF7_1⟩
  replace hb9 := hb9.frA hF7_1
  replace hE := Ext.over hE hF7_1 hg8
  replace hb8 := hbn
  clear hbn
  replace hBL := hBL.fr (hF7_1.mono fun q hq => by omega)
  replace hBp := hBp.fr (hF7_1.mono fun q hq => hq.2.1)
  refine vn (hK9 _ _ ?_)
  refine Wc.ret ?_
  refine Wx.ret [_] ⟨⟨_, rfl, res_blk hb8 Tryd.underlying34 rfl (by kernel_rfl)⟩, trivial⟩ ?_
  exact ⟨_, _, A, n, c, rfl, hBL.mono fun q hq => by omega, hBp.mono fun q hq => hq.2.2, hE⟩
end Go.Proofs.YtnbgieccindpnaaDoor
/- Events: Make of the program, equality of events and logs. -/
namespace Go.Proofs.YtnbgieccindpnaaDoor
set_option linter.all false
set_option maxRecDepth 20000
open Go.RowKit
set_option maxRecDepth 20000 in
set_option maxHeartbeats 2000000 in
theorem makePP {P : Nat → Prop} (w : World) (hT : Tab w) (rg kd act : Int) (A : Option Addr) (n c : Nat) (pay : List UInt8) (hp : BV w P A n c pay) (hn : n ≤ 1000000) :
    Calls Tryd.prog 33 #[.int .i64 rg, .int .i64 kd, .int .i64 act, .slice A n c] w (MakeR w P (mkE rg kd act pay)) := by
  have hpl := hp.len
  refine calls_enter Tryd.func33 rfl Tryd.ntmps33 rfl ?_
  have hE : Ext w w := Ext.refl w
  refine vs fun K1 hK1 => vR [(0, _), (1, _), (2, _), (3, _)] ?_
  refine Wl.does rfl rfl rfl (Does.alB (.agg #[(.int .i64 0), (.int .i64 0), (.slice none 0 0), (.slice none 0 0)]) rfl (by kernel_rfl) rfl) ?_
  rintro _ w0_0 ⟨b8, rfl, hs8, hb8, hx0_0⟩
  have hg8 : w.heap.size ≤ b8 := Nat.le_trans hE.size hs8
  replace hE := hE.trans hx0_0
  refine vn (hK1 _ _ ?_)
  refine Wc.joinC (ι := Nat × Nat × Option Addr × Nat) [(1, _), (2, _), (3, _), (8, _)] (fun | (gr, b9, Sp, kp) => [(9, .pointer (some ⟨b9, 0, none⟩))]) (fun | (gr, b9, Sp, kp), wr => Blk wr gr 22 #[.slice none 0 0, .slice none 0 0] ∧ Blk wr b9 34 #[.int .i64 rg, .int .i64 kd, .slice (some ⟨gr, 0, none⟩) 2 2, .slice Sp n kp] ∧ Blk wr b8 34 #[.int .i64 0, .int .i64 0, .slice none 0 0, .slice none 0 0] ∧ BV wr (fun q => q ≠ gr ∧ q ≠ b8 ∧ (P q ∨ w.heap.size ≤ q)) Sp n kp pay ∧ w.heap.size ≤ gr ∧ b8 < gr ∧ b9 ≠ gr ∧ b8 < b9 ∧ Ext w wr) ?_ ?_ (.cons rfl (.cons rfl (.cons rfl (.cons rfl (.nil)))))
  · intro K2 hJ2
    refine vK [(0, _), (1, _), (2, _), (3, _), (8, _)] ?_
    refine Wc.regionB (fun q => [4].contains q) [] (.read 0 (.read 1 (.read 3 (.call true 2 (.call true 4 (.read 5 (.call false 6 .tail .none)) (.call true 6 (.call true 4 (.read 5 .tail) .none) .none)) (.call true 4 (.call false 2 (.read 5 (.call false 6 .tail .none)) (.call false 6 (.call false 2 (.read 5 .tail) .none) .none)) (.call true 6 (.call true 2 (.call true 4 (.read 5 .tail) .none) (.call true 4 (.call false 2 (.read 5 .tail) .none) .none)) .none)))))) 7 (by kernel_rfl) (by kernel_rfl) (by kernel_rfl) ?_
    intro w1 hR1
    replace hb8 := hb8.ext hR1.ext
    replace hE := hE.trans hR1.ext
    have hO1_8 : Old w1.heap.size [] b8 := ⟨hb8.lt, trivial⟩
    have hX := Ext.refl w1
    have hlw1 := hR1.ext.size
    have hb8l := hb8.lt
    refine RunE.read rfl rfl rfl rfl (fun wS _ => (Gives.move rfl rfl)) ?_
    refine RunE.read rfl rfl rfl rfl (fun wS _ => (Gives.move rfl rfl)) ?_
    refine RunE.read rfl rfl rfl rfl (fun wS _ => (Gives.move rfl rfl)) ?_
    refine RunE.free rfl rfl rfl rfl (Does.mkA 2 rfl rfl Tryd.underlying32 infoL rfl rfl rfl (by omega) (by omega)) ?_ ?_
    · rintro _ w12 ⟨gr, rfl, hgr, hk12, hx12⟩
      have hkr : Blk w12 gr 22 #[.slice none 0 0, .slice none 0 0] := hk12
      have hgr1 : w1.heap.size ≤ gr := Nat.le_trans hX.size hgr
      have hlr0 := hkr.lt
      replace hX := hX.trans hx12
      refine RunE.freeC rfl rfl rfl rfl rfl Tryd.func53 rfl (by kernel_rfl) rfl (cloneP _ A n c pay (hp.ext (hE.trans hX)) (by omega)) ?_ ?_
      · rintro x1 w14 ⟨Sp, mp, kp, rfl, hOp, hx14⟩
        refine ⟨_, rfl, ?_⟩
        have hmp := hOp.len
        obtain rfl : mp = n := by omega
        have hBp0 := (hOp.bv (fun q h => h)).bd
        have hlp0 := hx14.size
        have hlx := hX.size
        replace hkr := hkr.ext hx14
        replace hX := hX.trans hx14
        refine RunE.read rfl rfl rfl rfl (fun wS _ => (Gives.buildS (pl := [(0, 1), (1, 1), (2, 1), (3, 1)]) (zv := (.agg #[(.int .i64 0), (.int .i64 0), (.slice none 0 0), (.slice none 0 0)])) rfl Tryd.underlying34 (by kernel_rfl) (by kernel_rfl) rfl rfl)) ?_
        refine RunE.turn rfl rfl rfl rfl (Does.alB (.agg #[(.int .i64 0), (.int .i64 0), (.slice none 0 0), (.slice none 0 0)]) rfl (by kernel_rfl) rfl) ?_ RunE.none
        rintro _ w1_6 ⟨b9, rfl, hs9, hb9, hx1_6⟩
        refine ⟨hx1_6.fr, ?_⟩
        have hn8_9 : b8 ≠ b9 := (hb8.ext hX).ne hs9
        have hg9 : w.heap.size ≤ b9 := Nat.le_trans (hE.trans hX).size hs9
        have hN9 := Nat.le_trans hX.size hs9
        replace hkr := hkr.ext hx1_6
        replace hBp0 := hBp0.ext hx1_6
        replace hX := hX.trans hx1_6
        have hl9 := hb9.lt
        have hlx9 := hx1_6.size
        refine RunE.tail rfl ?_
        replace hb8 := hb8.ext hX
        replace hE := hE.trans hX
        refine Wl.acts rfl rfl (Does.stL 4 rfl rfl rfl hb9 (by kernel_rfl) rfl rfl rfl) ?_
        rintro _ w1_7 ⟨hbn, hF1_7⟩
        replace hb8 := hb8.frA hF1_7
        replace hE := Ext.over hE hF1_7 hg9
        replace hb9 := hbn
        clear hbn
        refine Wl.nil ?_
        refine Wx.thenN ?_
        have hn9r : b9 ≠ gr := by omega
        exact hJ2 (gr, b9, Sp, kp) _ _ (.co (.cons rfl (.cons rfl (.cons rfl (.cons rfl (.nil)))))) ⟨hkr.fr hF1_7 (Ne.symm hn9r), hb9, hb8, (hBp0.fr (hF1_7.mono fun q hq => by omega)).mono fun q hq => ⟨by omega, by omega, .inr (by omega)⟩, by omega, by omega, hn9r, by omega, hE⟩
      refine RunE.free rfl rfl rfl rfl (Does.alB (.agg #[(.int .i64 0), (.int .i64 0), (.slice none 0 0), (.slice none 0 0)]) rfl (by kernel_rfl) rfl) ?_ RunE.none
      rintro _ w1_6 ⟨b9, rfl, hs9, hb9, hx1_6⟩
      have hn8_9 : b8 ≠ b9 := (hb8.ext hX).ne hs9
      have hg9 : w.heap.size ≤ b9 := Nat.le_trans (hE.trans hX).size hs9
      have hN9 := Nat.le_trans hX.size hs9
      replace hkr := hkr.ext hx1_6
      replace hX := hX.trans hx1_6
      have hl9 := hb9.lt
      have hlx9 := hx1_6.size
      refine RunE.freeC rfl rfl rfl rfl rfl Tryd.func53 rfl (by kernel_rfl) rfl (cloneP _ A n c pay (hp.ext (hE.trans hX)) (by omega)) ?_ RunE.none
      rintro x1 w14 ⟨Sp, mp, kp, rfl, hOp, hx14⟩
      refine ⟨_, rfl, ?_⟩
      have hmp := hOp.len
      obtain rfl : mp = n := by omega
      have hBp0 := (hOp.bv (fun q h => h)).bd
      have hlp0 := hx14.size
      have hlx := hX.size
      replace hkr := hkr.ext hx14
      replace hb9 := hb9.ext hx14
      replace hX := hX.trans hx14
      refine RunE.read rfl rfl rfl rfl (fun wS _ => (Gives.buildS (pl := [(0, 1), (1, 1), (2, 1), (3, 1)]) (zv := (.agg #[(.int .i64 0), (.int .i64 0), (.slice none 0 0), (.slice none 0 0)])) rfl Tryd.underlying34 (by kernel_rfl) (by kernel_rfl) rfl rfl)) ?_
      refine RunE.tail rfl ?_
      replace hb8 := hb8.ext hX
      replace hE := hE.trans hX
      refine Wl.acts rfl rfl (Does.stL 4 rfl rfl rfl hb9 (by kernel_rfl) rfl rfl rfl) ?_
      rintro _ w1_7 ⟨hbn, hF1_7⟩
      replace hb8 := hb8.frA hF1_7
      replace hE := Ext.over hE hF1_7 hg9
      replace hb9 := hbn
      clear hbn
      refine Wl.nil ?_
      refine Wx.thenN ?_
      have hn9r : b9 ≠ gr := by omega
      exact hJ2 (gr, b9, Sp, kp) _ _ (.co (.cons rfl (.cons rfl (.cons rfl (.cons rfl (.nil)))))) ⟨hkr.fr hF1_7 (Ne.symm hn9r), hb9, hb8, (hBp0.fr (hF1_7.mono fun q hq => by omega)).mono fun q hq => ⟨by omega, by omega, .inr (by omega)⟩, by omega, by omega, hn9r, by omega, hE⟩
    refine RunE.freeC rfl rfl rfl rfl rfl Tryd.func53 rfl (by kernel_rfl) rfl (cloneP _ A n c pay (hp.ext (hE.trans hX)) (by omega)) ?_ ?_
    · rintro x1 w14 ⟨Sp, mp, kp, rfl, hOp, hx14⟩
      refine ⟨_, rfl, ?_⟩
      have hmp := hOp.len
      obtain rfl : mp = n := by omega
      have hBp0 := (hOp.bv (fun q h => h)).bd
      have hlp0 := hx14.size
      have hlx := hX.size
      replace hX := hX.trans hx14
      refine RunE.turn rfl rfl rfl rfl (Does.mkA 2 rfl rfl Tryd.underlying32 infoL rfl rfl rfl (by omega) (by omega)) ?_ ?_
      · rintro _ w12 ⟨gr, rfl, hgr, hk12, hx12⟩
        have hkr : Blk w12 gr 22 #[.slice none 0 0, .slice none 0 0] := hk12
        have hgr1 : w1.heap.size ≤ gr := Nat.le_trans hX.size hgr
        have hlr0 := hkr.lt
        refine ⟨hx12.fr, ?_⟩
        replace hBp0 := hBp0.ext hx12
        replace hX := hX.trans hx12
        refine RunE.read rfl rfl rfl rfl (fun wS _ => (Gives.buildS (pl := [(0, 1), (1, 1), (2, 1), (3, 1)]) (zv := (.agg #[(.int .i64 0), (.int .i64 0), (.slice none 0 0), (.slice none 0 0)])) rfl Tryd.underlying34 (by kernel_rfl) (by kernel_rfl) rfl rfl)) ?_
        refine RunE.turn rfl rfl rfl rfl (Does.alB (.agg #[(.int .i64 0), (.int .i64 0), (.slice none 0 0), (.slice none 0 0)]) rfl (by kernel_rfl) rfl) ?_ RunE.none
        rintro _ w1_6 ⟨b9, rfl, hs9, hb9, hx1_6⟩
        refine ⟨hx1_6.fr, ?_⟩
        have hn8_9 : b8 ≠ b9 := (hb8.ext hX).ne hs9
        have hg9 : w.heap.size ≤ b9 := Nat.le_trans (hE.trans hX).size hs9
        have hN9 := Nat.le_trans hX.size hs9
        replace hBp0 := hBp0.ext hx1_6
        replace hkr := hkr.ext hx1_6
        replace hX := hX.trans hx1_6
        have hl9 := hb9.lt
        have hlx9 := hx1_6.size
        refine RunE.tail rfl ?_
        replace hb8 := hb8.ext hX
        replace hE := hE.trans hX
        refine Wl.acts rfl rfl (Does.stL 4 rfl rfl rfl hb9 (by kernel_rfl) rfl rfl rfl) ?_
        rintro _ w1_7 ⟨hbn, hF1_7⟩
        replace hb8 := hb8.frA hF1_7
        replace hE := Ext.over hE hF1_7 hg9
        replace hb9 := hbn
        clear hbn
        refine Wl.nil ?_
        refine Wx.thenN ?_
        have hn9r : b9 ≠ gr := by omega
        exact hJ2 (gr, b9, Sp, kp) _ _ (.co (.cons rfl (.cons rfl (.cons rfl (.cons rfl (.nil)))))) ⟨hkr.fr hF1_7 (Ne.symm hn9r), hb9, hb8, (hBp0.fr (hF1_7.mono fun q hq => by omega)).mono fun q hq => ⟨by omega, by omega, .inr (by omega)⟩, by omega, by omega, hn9r, by omega, hE⟩
      refine RunE.turn rfl rfl rfl rfl (Does.alB (.agg #[(.int .i64 0), (.int .i64 0), (.slice none 0 0), (.slice none 0 0)]) rfl (by kernel_rfl) rfl) ?_ RunE.none
      rintro _ w1_6 ⟨b9, rfl, hs9, hb9, hx1_6⟩
      refine ⟨hx1_6.fr, ?_⟩
      have hn8_9 : b8 ≠ b9 := (hb8.ext hX).ne hs9
      have hg9 : w.heap.size ≤ b9 := Nat.le_trans (hE.trans hX).size hs9
      have hN9 := Nat.le_trans hX.size hs9
      replace hBp0 := hBp0.ext hx1_6
      replace hX := hX.trans hx1_6
      have hl9 := hb9.lt
      have hlx9 := hx1_6.size
      refine RunE.turn rfl rfl rfl rfl (Does.mkA 2 rfl rfl Tryd.underlying32 infoL rfl rfl rfl (by omega) (by omega)) ?_ RunE.none
      rintro _ w12 ⟨gr, rfl, hgr, hk12, hx12⟩
      have hkr : Blk w12 gr 22 #[.slice none 0 0, .slice none 0 0] := hk12
      have hgr1 : w1.heap.size ≤ gr := Nat.le_trans hX.size hgr
      have hlr0 := hkr.lt
      refine ⟨hx12.fr, ?_⟩
      replace hBp0 := hBp0.ext hx12
      replace hb9 := hb9.ext hx12
      replace hX := hX.trans hx12
      refine RunE.read rfl rfl rfl rfl (fun wS _ => (Gives.buildS (pl := [(0, 1), (1, 1), (2, 1), (3, 1)]) (zv := (.agg #[(.int .i64 0), (.int .i64 0), (.slice none 0 0), (.slice none 0 0)])) rfl Tryd.underlying34 (by kernel_rfl) (by kernel_rfl) rfl rfl)) ?_
      refine RunE.tail rfl ?_
      replace hb8 := hb8.ext hX
      replace hE := hE.trans hX
      refine Wl.acts rfl rfl (Does.stL 4 rfl rfl rfl hb9 (by kernel_rfl) rfl rfl rfl) ?_
      rintro _ w1_7 ⟨hbn, hF1_7⟩
      replace hb8 := hb8.frA hF1_7
      replace hE := Ext.over hE hF1_7 hg9
      replace hb9 := hbn
      clear hbn
      refine Wl.nil ?_
      refine Wx.thenN ?_
      have hn9r : b9 ≠ gr := by omega
      exact hJ2 (gr, b9, Sp, kp) _ _ (.co (.cons rfl (.cons rfl (.cons rfl (.cons rfl (.nil)))))) ⟨hkr.fr hF1_7 (Ne.symm hn9r), hb9, hb8, (hBp0.fr (hF1_7.mono fun q hq => by omega)).mono fun q hq => ⟨by omega, by omega, .inr (by omega)⟩, by omega, by omega, hn9r, by omega, hE⟩
    refine RunE.free rfl rfl rfl rfl (Does.alB (.agg #[(.int .i64 0), (.int .i64 0), (.slice none 0 0), (.slice none 0 0)]) rfl (by kernel_rfl) rfl) ?_ RunE.none
    rintro _ w1_6 ⟨b9, rfl, hs9, hb9, hx1_6⟩
    have hn8_9 : b8 ≠ b9 := (hb8.ext hX).ne hs9
    have hg9 : w.heap.size ≤ b9 := Nat.le_trans (hE.trans hX).size hs9
    have hN9 := Nat.le_trans hX.size hs9
    replace hX := hX.trans hx1_6
    have hl9 := hb9.lt
    have hlx9 := hx1_6.size
    refine RunE.free rfl rfl rfl rfl (Does.mkA 2 rfl rfl Tryd.underlying32 infoL rfl rfl rfl (by omega) (by omega)) ?_ ?_
    · rintro _ w12 ⟨gr, rfl, hgr, hk12, hx12⟩
      have hkr : Blk w12 gr 22 #[.slice none 0 0, .slice none 0 0] := hk12
      have hgr1 : w1.heap.size ≤ gr := Nat.le_trans hX.size hgr
      have hlr0 := hkr.lt
      replace hb9 := hb9.ext hx12
      replace hX := hX.trans hx12
      refine RunE.freeC rfl rfl rfl rfl rfl Tryd.func53 rfl (by kernel_rfl) rfl (cloneP _ A n c pay (hp.ext (hE.trans hX)) (by omega)) ?_ RunE.none
      rintro x1 w14 ⟨Sp, mp, kp, rfl, hOp, hx14⟩
      refine ⟨_, rfl, ?_⟩
      have hmp := hOp.len
      obtain rfl : mp = n := by omega
      have hBp0 := (hOp.bv (fun q h => h)).bd
      have hlp0 := hx14.size
      have hlx := hX.size
      replace hb9 := hb9.ext hx14
      replace hkr := hkr.ext hx14
      replace hX := hX.trans hx14
      refine RunE.read rfl rfl rfl rfl (fun wS _ => (Gives.buildS (pl := [(0, 1), (1, 1), (2, 1), (3, 1)]) (zv := (.agg #[(.int .i64 0), (.int .i64 0), (.slice none 0 0), (.slice none 0 0)])) rfl Tryd.underlying34 (by kernel_rfl) (by kernel_rfl) rfl rfl)) ?_
      refine RunE.tail rfl ?_
      replace hb8 := hb8.ext hX
      replace hE := hE.trans hX
      refine Wl.acts rfl rfl (Does.stL 4 rfl rfl rfl hb9 (by kernel_rfl) rfl rfl rfl) ?_
      rintro _ w1_7 ⟨hbn, hF1_7⟩
      replace hb8 := hb8.frA hF1_7
      replace hE := Ext.over hE hF1_7 hg9
      replace hb9 := hbn
      clear hbn
      refine Wl.nil ?_
      refine Wx.thenN ?_
      have hn9r : b9 ≠ gr := by omega
      exact hJ2 (gr, b9, Sp, kp) _ _ (.co (.cons rfl (.cons rfl (.cons rfl (.cons rfl (.nil)))))) ⟨hkr.fr hF1_7 (Ne.symm hn9r), hb9, hb8, (hBp0.fr (hF1_7.mono fun q hq => by omega)).mono fun q hq => ⟨by omega, by omega, .inr (by omega)⟩, by omega, by omega, hn9r, by omega, hE⟩
    refine RunE.freeC rfl rfl rfl rfl rfl Tryd.func53 rfl (by kernel_rfl) rfl (cloneP _ A n c pay (hp.ext (hE.trans hX)) (by omega)) ?_ RunE.none
    rintro x1 w14 ⟨Sp, mp, kp, rfl, hOp, hx14⟩
    refine ⟨_, rfl, ?_⟩
    have hmp := hOp.len
    obtain rfl : mp = n := by omega
    have hBp0 := (hOp.bv (fun q h => h)).bd
    have hlp0 := hx14.size
    have hlx := hX.size
    replace hb9 := hb9.ext hx14
    replace hX := hX.trans hx14
    refine RunE.turn rfl rfl rfl rfl (Does.mkA 2 rfl rfl Tryd.underlying32 infoL rfl rfl rfl (by omega) (by omega)) ?_ RunE.none
    rintro _ w12 ⟨gr, rfl, hgr, hk12, hx12⟩
    have hkr : Blk w12 gr 22 #[.slice none 0 0, .slice none 0 0] := hk12
    have hgr1 : w1.heap.size ≤ gr := Nat.le_trans hX.size hgr
    have hlr0 := hkr.lt
    refine ⟨hx12.fr, ?_⟩
    replace hb9 := hb9.ext hx12
    replace hBp0 := hBp0.ext hx12
    replace hX := hX.trans hx12
    refine RunE.read rfl rfl rfl rfl (fun wS _ => (Gives.buildS (pl := [(0, 1), (1, 1), (2, 1), (3, 1)]) (zv := (.agg #[(.int .i64 0), (.int .i64 0), (.slice none 0 0), (.slice none 0 0)])) rfl Tryd.underlying34 (by kernel_rfl) (by kernel_rfl) rfl rfl)) ?_
    refine RunE.tail rfl ?_
    replace hb8 := hb8.ext hX
    replace hE := hE.trans hX
    refine Wl.acts rfl rfl (Does.stL 4 rfl rfl rfl hb9 (by kernel_rfl) rfl rfl rfl) ?_
    rintro _ w1_7 ⟨hbn, hF1_7⟩
    replace hb8 := hb8.frA hF1_7
    replace hE := Ext.over hE hF1_7 hg9
    replace hb9 := hbn
    clear hbn
    refine Wl.nil ?_
    refine Wx.thenN ?_
    have hn9r : b9 ≠ gr := by omega
    exact hJ2 (gr, b9, Sp, kp) _ _ (.co (.cons rfl (.cons rfl (.cons rfl (.cons rfl (.nil)))))) ⟨hkr.fr hF1_7 (Ne.symm hn9r), hb9, hb8, (hBp0.fr (hF1_7.mono fun q hq => by omega)).mono fun q hq => ⟨by omega, by omega, .inr (by omega)⟩, by omega, by omega, hn9r, by omega, hE⟩
  intro ⟨gr, b9, Sp, kp⟩ wj hJ
  clear hE hb8
  obtain ⟨hkr, hb9, hb8, hBp, hgw, hb8r, hn9r, hb89, hE⟩ := hJ
  have hn8r : b8 ≠ gr := by omega
  have hn8_9 : b8 ≠ b9 := by omega
  refine Wc.seq (fun K3 hK3 => ?_)
  refine vs fun K4 hK4 => vR [(1, _), (2, _), (3, _), (8, _), (9, _)] ?_
  refine vF 2 Tryd.underlying34 ?_
  refine vL hb9 ?_
  refine vl (Gives.lenS rfl Tryd.underlying32 rfl) ?_
  refine vM ?_
  refine vn (hK4 _ _ ?_)
  refine Wc.block ?_
  refine vK [(1, _), (2, _), (3, _), (8, _), (9, _), (19, _), (20, _)] ?_
  refine Wc.loopC (ι := Nat × (Option Addr × Nat × Nat) × (Option Addr × Nat × Nat)) [(1, _), (2, _), (3, _), (8, _), (9, _), (19, _)] (fun | (i, _, _) => [(20, .int .i64 (i : Int))]) (fun | (i, (S0, m0, k0), (S1, m1, k1)), wr => i ≤ 2 ∧ BV wr (fun q => q ≠ gr ∧ b8 < q) S0 m0 k0 (if 0 < i then mkD kd act pay 0 else []) ∧ BV wr (fun q => q ≠ gr ∧ b8 < q) S1 m1 k1 (if 1 < i then mkD kd act pay 1 else []) ∧ BV wr (fun q => q ≠ gr ∧ q ≠ b8 ∧ (P q ∨ w.heap.size ≤ q)) Sp n kp pay ∧ Blk wr gr 22 #[.slice S0 m0 k0, .slice S1 m1 k1] ∧ Blk wr b9 34 #[.int .i64 rg, .int .i64 kd, .slice (some ⟨gr, 0, none⟩) 2 2, .slice Sp n kp] ∧ Blk wr b8 34 #[.int .i64 0, .int .i64 0, .slice none 0 0, .slice none 0 0] ∧ Ext w wr) (fun | (i, _) => 2 - i) ((0, (none, 0, 0), (none, 0, 0))) (.co (.cons rfl (.cons rfl (.cons rfl (.cons rfl (.cons rfl (.cons rfl (.nil)))))))) (⟨by omega, BV.nil_ _ _, BV.nil_ _ _, hBp, hkr, hb9, hb8, hE⟩) ?_
  intro ⟨i, ⟨S0, m0, k0⟩, ⟨S1, m1, k1⟩⟩ wr hJ KL1 hKL1
  clear hE hBp hkr hb9 hb8
  obtain ⟨hi, h0, h1, hBp, hkr, hb9, hb8, hE⟩ := hJ
  have hlr := hkr.lt
  refine vs fun K5 hK5 => vR [(1, _), (2, _), (3, _), (8, _), (9, _), (19, _), (20, _)] ?_
  refine vl (Gives.lss rfl rfl rfl) ?_
  refine vn (hK5 _ _ ?_)
  refine Wc.seq (fun K6 hK6 => ?_)
  refine Wc.cond _ rfl (fun h21 => ?_) (fun h21 => ?_)
  · first | replace h21 := dT h21 | replace h21 := nT h21 | skip
    refine Wc.skip ?_
    refine Wx.thenN (hK6 _ _ ?_)
    refine Wc.seq (fun K7 hK7 => ?_)
    refine Wc.block ?_
    refine vs fun K8 hK8 => vR [(1, _), (2, _), (3, _), (8, _), (9, _), (19, _), (20, _)] ?_
    refine vM ?_
    refine vA ?_
    refine vn (hK8 _ _ ?_)
    refine vs fun K9 hK9 => vR [(1, _), (2, _), (3, _), (8, _), (9, _), (10, _), (19, _), (20, _)] ?_
    refine vM ?_
    refine vl (Gives.neq rfl rfl rfl) ?_
    refine vM ?_
    refine Wl.guard rfl rfl rfl (fun h25 => ?_) (fun h25 => ?_)
    · first | replace h25 := dT h25 | replace h25 := nT h25 | skip
      refine vM ?_
      refine vM ?_
      refine vl (Gives.shr rfl rfl rfl (by omega) rfl) ?_
      refine vl (Gives.bits .and (by simp) rfl rfl rfl rfl) ?_
      refine vl (Gives.eql rfl rfl rfl) ?_
      refine vT ?_
      refine vn (hK9 _ _ ?_)
      refine Wc.cond _ rfl (fun h31 => ?_) (fun h31 => ?_)
      · first | replace h31 := dT h31 | replace h31 := nT h31 | skip
        refine vK [(1, _), (2, _), (3, _), (8, _), (9, _), (10, _), (19, _), (20, _)] ?_
        refine Wc.regionB (fun q => [1, 5].contains q) [] (.read 0 (.read 1 (.read 2 (.read 3 (.read 4 (.call false 5 .tail .none)))))) 6 (by kernel_rfl) (by kernel_rfl) (by kernel_rfl) ?_
        intro w6 hR6
        replace hb8 := hb8.ext hR6.ext
        replace hb9 := hb9.ext hR6.ext
        replace hE := hE.trans hR6.ext
        have hO6_8 : Old w6.heap.size [] b8 := ⟨hb8.lt, trivial⟩
        have hO6_9 : Old w6.heap.size [] b9 := ⟨hb9.lt, trivial⟩
        have hX := Ext.refl w6
        have hlw6 := hR6.ext.size
        refine RunE.read rfl rfl rfl rfl (fun wS _ => (Gives.fieldAt 2 rfl Tryd.underlying34 rfl (by kernel_rfl) rfl rfl)) ?_
        refine RunE.readM rfl rfl rfl rfl rfl (fun wS hS => (Gives.ldK rfl (by kernel_rfl) rfl ((hb9.ext hX).fr hS hO6_9) rfl)) ?_
        refine RunE.read rfl rfl rfl rfl (fun wS _ => (Gives.move rfl rfl)) ?_
        refine RunE.read rfl rfl rfl rfl (fun wS _ => (Gives.move rfl rfl)) ?_
        refine RunE.read rfl rfl rfl rfl (fun wS _ => (Gives.move rfl rfl)) ?_
        refine RunE.turnC rfl rfl rfl rfl rfl Tryd.func54 rfl (by kernel_rfl) rfl (sumPX (show i < 2 by omega) _ _ (hT.ext (hE.trans hX)) A n c pay (hp.ext (hE.trans hX)) hn) ?_ RunE.none
        rintro x2 w65 ⟨S4, m4, k4, rfl, hO4, hx65⟩
        refine ⟨_, rfl, ?_⟩
        refine ⟨hx65.fr, ?_⟩
        replace hX := hX.trans hx65
        refine RunE.tail rfl ?_
        replace hb8 := hb8.ext hX
        replace hb9 := hb9.ext hX
        replace hE := hE.trans hX
        refine vl (Gives.ixS (i := i) rfl Tryd.underlying32 (by kernel_rfl) rfl rfl (by omega) (by omega)) ?_
        have hkd : kd ≠ 5 := by omega
        have hhas : hasS act i = true := by first | exact decide_eq_true h31 | simpa using h31
        refine Wl.acts rfl rfl (Does.stC (i := 0 + i) rfl rfl rfl (hkr.ext (hR6.ext.trans hX)) (by kernel_rfl) (by show 0 + i < 2; omega) rfl) ?_
        rintro _ w67 ⟨hk2, hFs⟩
        replace h0 := h0.ext (hR6.ext.trans hX)
        replace h1 := h1.ext (hR6.ext.trans hX)
        replace hBp := hBp.ext (hR6.ext.trans hX)
        have hB4 : BV w67 (fun q => q ≠ gr ∧ b8 < q) S4 m4 k4 (mkD kd act pay i) := by
          rw [mkD_y hkd hhas]
          exact (hO4.bv (P := fun q => q ≠ gr ∧ b8 < q) fun q hq => by omega).fr (hFs.mono fun q hq => hq.1)
        replace h0 := h0.fr (hFs.mono fun q hq => hq.1)
        replace h1 := h1.fr (hFs.mono fun q hq => hq.1)
        replace hBp := hBp.fr (hFs.mono fun q hq => hq.1)
        replace hb9 := hb9.fr hFs hn9r
        replace hb8 := hb8.fr hFs hn8r
        replace hE := Ext.over hE hFs hgw
        refine Wl.nil ?_
        refine Wx.blockN ?_
        refine Wx.thenN (hK7 _ _ ?_)
        refine vR [(1, _), (2, _), (3, _), (8, _), (9, _), (19, _), (20, _)] ?_
        refine vAdd ?_
        refine vM ?_
        refine Wl.nil ?_
        refine Wx.thenN ?_
        rcases (show i = 0 ∨ i = 1 by omega) with rfl | rfl
        · exact hKL1 (0 + 1, (S4, m4, k4), (S1, m1, k1)) _ _ (.co (.cons rfl (.cons rfl (.cons rfl (.cons rfl (.cons rfl (.cons rfl (.nil)))))))) ⟨by omega, hB4, h1, hBp, hk2, hb9, hb8, hE⟩ (by show 2 - (0 + 1) < 2 - 0; omega)
        · exact hKL1 (1 + 1, (S0, m0, k0), (S4, m4, k4)) _ _ (.co (.cons rfl (.cons rfl (.cons rfl (.cons rfl (.cons rfl (.cons rfl (.nil)))))))) ⟨by omega, h0, hB4, hBp, hk2, hb9, hb8, hE⟩ (by show 2 - (1 + 1) < 2 - 1; omega)
      first | replace h31 := dF h31 | replace h31 := nF h31 | skip
      refine Wc.skip ?_
      refine Wx.blockN ?_
      refine Wx.thenN (hK7 _ _ ?_)
      refine vR [(1, _), (2, _), (3, _), (8, _), (9, _), (19, _), (20, _)] ?_
      refine vAdd ?_
      refine vM ?_
      refine Wl.nil ?_
      refine Wx.thenN ?_
      have hno : ¬ (kd ≠ 5 ∧ hasS act i = true) := by rintro ⟨ha, hb⟩; first | omega | exact h31 (of_decide_eq_true hb) | simp_all
      rcases (show i = 0 ∨ i = 1 by omega) with rfl | rfl
      · exact hKL1 (0 + 1, (S0, m0, k0), (S1, m1, k1)) _ _ (.co (.cons rfl (.cons rfl (.cons rfl (.cons rfl (.cons rfl (.cons rfl (.nil)))))))) ⟨by omega, by show BV wr _ S0 m0 k0 (mkD kd act pay 0); rw [mkD_n hno]; exact h0, h1, hBp, hkr, hb9, hb8, hE⟩ (by show 2 - (0 + 1) < 2 - 0; omega)
      · exact hKL1 (1 + 1, (S0, m0, k0), (S1, m1, k1)) _ _ (.co (.cons rfl (.cons rfl (.cons rfl (.cons rfl (.cons rfl (.cons rfl (.nil)))))))) ⟨by omega, h0, by show BV wr _ S1 m1 k1 (mkD kd act pay 1); rw [mkD_n hno]; exact h1, hBp, hkr, hb9, hb8, hE⟩ (by show 2 - (1 + 1) < 2 - 1; omega)
    first | replace h25 := dF h25 | replace h25 := nF h25 | skip
    refine vP ?_
    refine vP ?_
    refine vP ?_
    refine vP ?_
    refine vP ?_
    refine vU ?_
    refine vn (hK9 _ _ ?_)
    refine Wc.condF rfl rfl ?_
    refine Wc.skip ?_
    refine Wx.blockN ?_
    refine Wx.thenN (hK7 _ _ ?_)
    refine vR [(1, _), (2, _), (3, _), (8, _), (9, _), (19, _), (20, _)] ?_
    refine vAdd ?_
    refine vM ?_
    refine Wl.nil ?_
    refine Wx.thenN ?_
    have hno : ¬ (kd ≠ 5 ∧ hasS act i = true) := by rintro ⟨ha, hb⟩; first | omega | exact h31 (of_decide_eq_true hb) | simp_all
    rcases (show i = 0 ∨ i = 1 by omega) with rfl | rfl
    · exact hKL1 (0 + 1, (S0, m0, k0), (S1, m1, k1)) _ _ (.co (.cons rfl (.cons rfl (.cons rfl (.cons rfl (.cons rfl (.cons rfl (.nil)))))))) ⟨by omega, by show BV wr _ S0 m0 k0 (mkD kd act pay 0); rw [mkD_n hno]; exact h0, h1, hBp, hkr, hb9, hb8, hE⟩ (by show 2 - (0 + 1) < 2 - 0; omega)
    · exact hKL1 (1 + 1, (S0, m0, k0), (S1, m1, k1)) _ _ (.co (.cons rfl (.cons rfl (.cons rfl (.cons rfl (.cons rfl (.cons rfl (.nil)))))))) ⟨by omega, h0, by show BV wr _ S1 m1 k1 (mkD kd act pay 1); rw [mkD_n hno]; exact h1, hBp, hkr, hb9, hb8, hE⟩ (by show 2 - (1 + 1) < 2 - 1; omega)
  first | replace h21 := dF h21 | replace h21 := nF h21 | skip
  refine Wc.exit ?_
  refine Wx.thenE ?_
  refine Wx.thenE ?_
  refine Wx.hit ?_
  refine Wx.thenN (hK3 _ _ ?_)
  refine vs fun K10 hK10 => vK [(8, _), (9, _)] ?_
  obtain rfl : i = 2 := by omega
  have hBL := bl2 (P := fun q => b8 < q) hkr (h0.mono fun q hq => hq.2) (h1.mono fun q hq => hq.2) hb8r
  refine Wc.region ?_
  refine vl (Gives.ldW rfl (by kernel_rfl) rfl hb9 (by kernel_rfl)) ?_
  refine Wl.acts rfl rfl (Does.stL 4 rfl rfl rfl hb8 (by kernel_rfl) rfl rfl rfl) ?_
  rintro _ w8_1 ⟨hbn, hF8_1⟩
  replace hb9 := hb9.frA hF8_1
  replace hE := Ext.over hE hF8_1 hg8
  replace hb8 := hbn
  clear hbn
  replace hBL := hBL.fr (hF8_1.mono fun q hq => by omega)
  replace hBp := hBp.fr (hF8_1.mono fun q hq => hq.2.1)
  refine vn (hK10 _ _ ?_)
  refine Wc.ret ?_
  refine Wx.ret [_] ⟨⟨_, rfl, res_blk hb8 Tryd.underlying34 rfl (by kernel_rfl)⟩, trivial⟩ ?_
  exact ⟨_, _, Sp, n, kp, rfl, hBL.mono fun q hq => by omega, hBp.mono fun q hq => hq.2.2, hE⟩
end Go.Proofs.YtnbgieccindpnaaDoor
