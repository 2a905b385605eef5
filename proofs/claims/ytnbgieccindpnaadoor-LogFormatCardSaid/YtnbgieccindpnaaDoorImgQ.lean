/- ImgQ: merged. -/
import Derived.Test.YtnbgieccindpnaaDoorImgP
/- Images: Check, Encode, equality, Register. -/
namespace Go.Proofs.YtnbgieccindpnaaDoor
set_option linter.all false
set_option maxRecDepth 20000
open Go.RowKit
theorem imgE_1 {x : Im} (h : ¬ (1 ≤ x.role ∧ x.role ≤ 4 ∧ 0 ≤ x.ver ∧ x.ver ≤ 1000000)) : imgE x = 1 := by unfold imgE; rw [if_pos h]
theorem imgE_43 {x : Im} (h : 1 ≤ x.role ∧ x.role ≤ 4 ∧ 0 ≤ x.ver ∧ x.ver ≤ 1000000) (h2 : nameS x.name = false) : imgE x = 43 := by unfold imgE; rw [if_neg (fun q => q h), if_pos h2]
theorem imgE_4 {x : Im} (h : 1 ≤ x.role ∧ x.role ≤ 4 ∧ 0 ≤ x.ver ∧ x.ver ≤ 1000000) (h2 : nameS x.name = true) (h3 : 64 < x.pay.length) : imgE x = 4 := by unfold imgE; rw [if_neg (fun q => q h), if_neg (by rw [h2]; decide), if_pos h3]
theorem imgE_40 {x : Im} (h : 1 ≤ x.role ∧ x.role ≤ 4 ∧ 0 ≤ x.ver ∧ x.ver ≤ 1000000) (h2 : nameS x.name = true) (h3 : ¬ 64 < x.pay.length) (h4 : x.role = 4) (h5 : (linesS x.pay).length = 0) : imgE x = 40 := by
  unfold imgE; rw [if_neg (fun q => q h), if_neg (by rw [h2]; decide), if_neg h3, if_pos ⟨h4, List.eq_nil_of_length_eq_zero h5⟩]
theorem imgE_0 {x : Im} (h : 1 ≤ x.role ∧ x.role ≤ 4 ∧ 0 ≤ x.ver ∧ x.ver ≤ 1000000) (h2 : nameS x.name = true) (h3 : ¬ 64 < x.pay.length) (h4 : x.role = 4 → (linesS x.pay).length ≠ 0) : imgE x = 0 :=
  img_mk h h2 (by omega) fun q hh => h4 q (by rw [hh]; rfl)
set_option maxRecDepth 20000 in
set_option maxHeartbeats 1000000 in
theorem checkR0 {P : Nat → Prop} (w : World) (r v : Int) (nm : List UInt8) (A : Option Addr) (n c : Nat) (pay : List UInt8) (hp : BV w P A n c pay) :
    Calls Tryd.prog 83 #[.agg #[.int .i64 r, txt nm, .int .i64 v, .slice A n c]] w fun e w' => e = .returned (.int .i64 (imgE ⟨r, nm, v, pay⟩)) ∧ Ext w w' := by
  have hpl := hp.len
  have hple := hp.le
  refine calls_enter Tryd.func83 rfl Tryd.ntmps83 rfl ?_
  have hE : Ext w w := Ext.refl w
  refine vs fun K1 hK1 => vR [(0, _)] ?_
  refine Wl.does rfl rfl rfl (Does.boxA rfl rfl) ?_
  rintro _ w0_0 ⟨b1, rfl, hs1, hb1, hx0_0⟩
  have hg1 : w.heap.size ≤ b1 := Nat.le_trans hE.size hs1
  replace hE := hE.trans hx0_0
  refine vA ?_
  refine vn (hK1 _ _ ?_)
  refine Wc.seq (fun K2 hK2 => ?_)
  refine vs fun K3 hK3 => vR [(1, _)] ?_
  refine vF 0 Tryd.underlying84 ?_
  refine vL hb1 ?_
  refine vl (Gives.lss rfl rfl rfl) ?_
  refine vM ?_
  refine Wl.guard rfl rfl rfl (fun h6 => ?_) (fun h6 => ?_)
  · first | replace h6 := dF h6 | replace h6 := nF h6 | skip
    refine vF 0 Tryd.underlying84 ?_
    refine vL hb1 ?_
    refine vl (Gives.gtr rfl rfl rfl) ?_
    refine vU ?_
    refine vM ?_
    refine Wl.guard rfl rfl rfl (fun h11 => ?_) (fun h11 => ?_)
    · first | replace h11 := dF h11 | replace h11 := nF h11 | skip
      refine vF 2 Tryd.underlying84 ?_
      refine vL hb1 ?_
      refine vl (Gives.lss rfl rfl rfl) ?_
      refine vU ?_
      refine vM ?_
      refine Wl.guard rfl rfl rfl (fun h16 => ?_) (fun h16 => ?_)
      · first | replace h16 := dF h16 | replace h16 := nF h16 | skip
        refine vF 2 Tryd.underlying84 ?_
        refine vL hb1 ?_
        refine vl (Gives.gtr rfl rfl rfl) ?_
        refine vU ?_
        refine vn (hK3 _ _ ?_)
        refine Wc.cond _ rfl (fun h20 => ?_) (fun h20 => ?_)
        · first | replace h20 := dT h20 | replace h20 := nT h20 | skip
          refine vs fun K4 hK4 => vR [] ?_
          refine vA ?_
          refine vn (hK4 _ _ ?_)
          refine Wc.ret ?_
          refine Wx.thenR ?_
          refine Wx.ret [_] ⟨rfl, trivial⟩ ?_
          first | exact ⟨by rw [imgE_1 (by show ¬ (1 ≤ r ∧ r ≤ 4 ∧ 0 ≤ v ∧ v ≤ 1000000); omega)]; rfl, hE⟩ | exact ⟨by rw [imgE_43 (by show 1 ≤ r ∧ r ≤ 4 ∧ 0 ≤ v ∧ v ≤ 1000000; omega) (by simpa using h22)]; rfl, hE⟩ | exact ⟨by rw [imgE_4 (by show 1 ≤ r ∧ r ≤ 4 ∧ 0 ≤ v ∧ v ≤ 1000000; omega) (by simpa using h22) (by show 64 < pay.length; omega)]; rfl, hE⟩ | exact ⟨by rw [imgE_40 (by show 1 ≤ r ∧ r ≤ 4 ∧ 0 ≤ v ∧ v ≤ 1000000; omega) (by simpa using h22) (by show ¬ 64 < pay.length; omega) (by show r = 4; omega) (by show (linesS pay).length = 0; omega)]; rfl, hE⟩ | exact ⟨by rw [imgE_0 (by show 1 ≤ r ∧ r ≤ 4 ∧ 0 ≤ v ∧ v ≤ 1000000; omega) (by simpa using h22) (by show ¬ 64 < pay.length; omega) (fun q => by have q' : r = 4 := q; show (linesS pay).length ≠ 0; omega)]; rfl, hE⟩
        first | replace h20 := dF h20 | replace h20 := nF h20 | skip
        refine Wc.skip ?_
        refine Wx.thenN (hK2 _ _ ?_)
        refine Wc.seq (fun K5 hK5 => ?_)
        refine vs fun K6 hK6 => vR [(1, _)] ?_
        refine vF 1 Tryd.underlying84 ?_
        refine vL hb1 ?_
        refine Wl.call rfl rfl rfl rfl Tryd.func103 rfl (by kernel_rfl) rfl (namedR _ nm) ?_
        rintro x1 w3 ⟨rfl, hx3⟩
        refine ⟨_, rfl, ?_⟩
        replace hb1 := hb1.ext hx3
        replace hE := hE.trans hx3
        refine vl (Gives.not rfl rfl) ?_
        refine vn (hK6 _ _ ?_)
        refine Wc.cond _ rfl (fun h22 => ?_) (fun h22 => ?_)
        · first | replace h22 := dT h22 | replace h22 := nT h22 | skip
          refine vs fun K7 hK7 => vR [] ?_
          refine vA ?_
          refine vn (hK7 _ _ ?_)
          refine Wc.ret ?_
          refine Wx.thenR ?_
          refine Wx.ret [_] ⟨rfl, trivial⟩ ?_
          first | exact ⟨by rw [imgE_1 (by show ¬ (1 ≤ r ∧ r ≤ 4 ∧ 0 ≤ v ∧ v ≤ 1000000); omega)]; rfl, hE⟩ | exact ⟨by rw [imgE_43 (by show 1 ≤ r ∧ r ≤ 4 ∧ 0 ≤ v ∧ v ≤ 1000000; omega) (by simpa using h22)]; rfl, hE⟩ | exact ⟨by rw [imgE_4 (by show 1 ≤ r ∧ r ≤ 4 ∧ 0 ≤ v ∧ v ≤ 1000000; omega) (by simpa using h22) (by show 64 < pay.length; omega)]; rfl, hE⟩ | exact ⟨by rw [imgE_40 (by show 1 ≤ r ∧ r ≤ 4 ∧ 0 ≤ v ∧ v ≤ 1000000; omega) (by simpa using h22) (by show ¬ 64 < pay.length; omega) (by show r = 4; omega) (by show (linesS pay).length = 0; omega)]; rfl, hE⟩ | exact ⟨by rw [imgE_0 (by show 1 ≤ r ∧ r ≤ 4 ∧ 0 ≤ v ∧ v ≤ 1000000; omega) (by simpa using h22) (by show ¬ 64 < pay.length; omega) (fun q => by have q' : r = 4 := q; show (linesS pay).length ≠ 0; omega)]; rfl, hE⟩
        first | replace h22 := dF h22 | replace h22 := nF h22 | skip
        refine Wc.skip ?_
        refine Wx.thenN (hK5 _ _ ?_)
        refine Wc.seq (fun K8 hK8 => ?_)
        refine vs fun K9 hK9 => vR [(1, _)] ?_
        refine vF 3 Tryd.underlying84 ?_
        refine vL hb1 ?_
        refine vl (Gives.lenS rfl Tryd.underlying22 rfl) ?_
        refine vl (Gives.gtr rfl rfl rfl) ?_
        refine vn (hK9 _ _ ?_)
        refine Wc.cond _ rfl (fun h28 => ?_) (fun h28 => ?_)
        · first | replace h28 := dT h28 | replace h28 := nT h28 | skip
          refine vs fun K10 hK10 => vR [] ?_
          refine vA ?_
          refine vn (hK10 _ _ ?_)
          refine Wc.ret ?_
          refine Wx.thenR ?_
          refine Wx.ret [_] ⟨rfl, trivial⟩ ?_
          first | exact ⟨by rw [imgE_1 (by show ¬ (1 ≤ r ∧ r ≤ 4 ∧ 0 ≤ v ∧ v ≤ 1000000); omega)]; rfl, hE⟩ | exact ⟨by rw [imgE_43 (by show 1 ≤ r ∧ r ≤ 4 ∧ 0 ≤ v ∧ v ≤ 1000000; omega) (by simpa using h22)]; rfl, hE⟩ | exact ⟨by rw [imgE_4 (by show 1 ≤ r ∧ r ≤ 4 ∧ 0 ≤ v ∧ v ≤ 1000000; omega) (by simpa using h22) (by show 64 < pay.length; omega)]; rfl, hE⟩ | exact ⟨by rw [imgE_40 (by show 1 ≤ r ∧ r ≤ 4 ∧ 0 ≤ v ∧ v ≤ 1000000; omega) (by simpa using h22) (by show ¬ 64 < pay.length; omega) (by show r = 4; omega) (by show (linesS pay).length = 0; omega)]; rfl, hE⟩ | exact ⟨by rw [imgE_0 (by show 1 ≤ r ∧ r ≤ 4 ∧ 0 ≤ v ∧ v ≤ 1000000; omega) (by simpa using h22) (by show ¬ 64 < pay.length; omega) (fun q => by have q' : r = 4 := q; show (linesS pay).length ≠ 0; omega)]; rfl, hE⟩
        first | replace h28 := dF h28 | replace h28 := nF h28 | skip
        refine Wc.skip ?_
        refine Wx.thenN (hK8 _ _ ?_)
        refine Wc.seq (fun K11 hK11 => ?_)
        refine vs fun K12 hK12 => vR [(1, _)] ?_
        refine vF 0 Tryd.underlying84 ?_
        refine vL hb1 ?_
        refine vl (Gives.eql rfl rfl rfl) ?_
        refine vM ?_
        refine Wl.guard rfl rfl rfl (fun h32 => ?_) (fun h32 => ?_)
        · first | replace h32 := dT h32 | replace h32 := nT h32 | skip
          refine vl (Gives.ldW rfl (by kernel_rfl) rfl hb1 (by kernel_rfl)) ?_
          refine Wl.call rfl rfl rfl rfl Tryd.func64 rfl (by kernel_rfl) rfl (linesR _ r v nm A n c pay (hp.ext hE) (by omega)) ?_
          rintro x2 w7 ⟨S, m, k, rfl, hL, hx7⟩
          refine ⟨_, rfl, ?_⟩
          have hLl := hL.len
          replace hb1 := hb1.ext hx7
          replace hE := hE.trans hx7
          refine vl (Gives.lenS rfl Tryd.underlying32 rfl) ?_
          refine vl (Gives.eql rfl rfl rfl) ?_
          refine vT ?_
          refine vn (hK12 _ _ ?_)
          refine Wc.cond _ rfl (fun h37 => ?_) (fun h37 => ?_)
          · first | replace h37 := dT h37 | replace h37 := nT h37 | skip
            refine vs fun K13 hK13 => vR [] ?_
            refine vA ?_
            refine vn (hK13 _ _ ?_)
            refine Wc.ret ?_
            refine Wx.thenR ?_
            refine Wx.ret [_] ⟨rfl, trivial⟩ ?_
            first | exact ⟨by rw [imgE_1 (by show ¬ (1 ≤ r ∧ r ≤ 4 ∧ 0 ≤ v ∧ v ≤ 1000000); omega)]; rfl, hE⟩ | exact ⟨by rw [imgE_43 (by show 1 ≤ r ∧ r ≤ 4 ∧ 0 ≤ v ∧ v ≤ 1000000; omega) (by simpa using h22)]; rfl, hE⟩ | exact ⟨by rw [imgE_4 (by show 1 ≤ r ∧ r ≤ 4 ∧ 0 ≤ v ∧ v ≤ 1000000; omega) (by simpa using h22) (by show 64 < pay.length; omega)]; rfl, hE⟩ | exact ⟨by rw [imgE_40 (by show 1 ≤ r ∧ r ≤ 4 ∧ 0 ≤ v ∧ v ≤ 1000000; omega) (by simpa using h22) (by show ¬ 64 < pay.length; omega) (by show r = 4; omega) (by show (linesS pay).length = 0; omega)]; rfl, hE⟩ | exact ⟨by rw [imgE_0 (by show 1 ≤ r ∧ r ≤ 4 ∧ 0 ≤ v ∧ v ≤ 1000000; omega) (by simpa using h22) (by show ¬ 64 < pay.length; omega) (fun q => by have q' : r = 4 := q; show (linesS pay).length ≠ 0; omega)]; rfl, hE⟩
          first | replace h37 := dF h37 | replace h37 := nF h37 | skip
          refine Wc.skip ?_
          refine Wx.thenN (hK11 _ _ ?_)
          refine vs fun K14 hK14 => vR [] ?_
          refine vA ?_
          refine vn (hK14 _ _ ?_)
          refine Wc.ret ?_
          refine Wx.ret [_] ⟨rfl, trivial⟩ ?_
          first | exact ⟨by rw [imgE_1 (by show ¬ (1 ≤ r ∧ r ≤ 4 ∧ 0 ≤ v ∧ v ≤ 1000000); omega)]; rfl, hE⟩ | exact ⟨by rw [imgE_43 (by show 1 ≤ r ∧ r ≤ 4 ∧ 0 ≤ v ∧ v ≤ 1000000; omega) (by simpa using h22)]; rfl, hE⟩ | exact ⟨by rw [imgE_4 (by show 1 ≤ r ∧ r ≤ 4 ∧ 0 ≤ v ∧ v ≤ 1000000; omega) (by simpa using h22) (by show 64 < pay.length; omega)]; rfl, hE⟩ | exact ⟨by rw [imgE_40 (by show 1 ≤ r ∧ r ≤ 4 ∧ 0 ≤ v ∧ v ≤ 1000000; omega) (by simpa using h22) (by show ¬ 64 < pay.length; omega) (by show r = 4; omega) (by show (linesS pay).length = 0; omega)]; rfl, hE⟩ | exact ⟨by rw [imgE_0 (by show 1 ≤ r ∧ r ≤ 4 ∧ 0 ≤ v ∧ v ≤ 1000000; omega) (by simpa using h22) (by show ¬ 64 < pay.length; omega) (fun q => by have q' : r = 4 := q; show (linesS pay).length ≠ 0; omega)]; rfl, hE⟩
        first | replace h32 := dF h32 | replace h32 := nF h32 | skip
        refine vP ?_
        refine vP ?_
        refine vP ?_
        refine vP ?_
        refine vU ?_
        refine vn (hK12 _ _ ?_)
        refine Wc.condF rfl rfl ?_
        refine Wc.skip ?_
        refine Wx.thenN (hK11 _ _ ?_)
        refine vs fun K15 hK15 => vR [] ?_
        refine vA ?_
        refine vn (hK15 _ _ ?_)
        refine Wc.ret ?_
        refine Wx.ret [_] ⟨rfl, trivial⟩ ?_
        first | exact ⟨by rw [imgE_1 (by show ¬ (1 ≤ r ∧ r ≤ 4 ∧ 0 ≤ v ∧ v ≤ 1000000); omega)]; rfl, hE⟩ | exact ⟨by rw [imgE_43 (by show 1 ≤ r ∧ r ≤ 4 ∧ 0 ≤ v ∧ v ≤ 1000000; omega) (by simpa using h22)]; rfl, hE⟩ | exact ⟨by rw [imgE_4 (by show 1 ≤ r ∧ r ≤ 4 ∧ 0 ≤ v ∧ v ≤ 1000000; omega) (by simpa using h22) (by show 64 < pay.length; omega)]; rfl, hE⟩ | exact ⟨by rw [imgE_40 (by show 1 ≤ r ∧ r ≤ 4 ∧ 0 ≤ v ∧ v ≤ 1000000; omega) (by simpa using h22) (by show ¬ 64 < pay.length; omega) (by show r = 4; omega) (by show (linesS pay).length = 0; omega)]; rfl, hE⟩ | exact ⟨by rw [imgE_0 (by show 1 ≤ r ∧ r ≤ 4 ∧ 0 ≤ v ∧ v ≤ 1000000; omega) (by simpa using h22) (by show ¬ 64 < pay.length; omega) (fun q => by have q' : r = 4 := q; show (linesS pay).length ≠ 0; omega)]; rfl, hE⟩
      first | replace h16 := dT h16 | replace h16 := nT h16 | skip
      refine vP ?_
      refine vP ?_
      refine vP ?_
      refine vT ?_
      refine vn (hK3 _ _ ?_)
      refine Wc.condT rfl rfl ?_
      refine vs fun K16 hK16 => vR [] ?_
      refine vA ?_
      refine vn (hK16 _ _ ?_)
      refine Wc.ret ?_
      refine Wx.thenR ?_
      refine Wx.ret [_] ⟨rfl, trivial⟩ ?_
      first | exact ⟨by rw [imgE_1 (by show ¬ (1 ≤ r ∧ r ≤ 4 ∧ 0 ≤ v ∧ v ≤ 1000000); omega)]; rfl, hE⟩ | exact ⟨by rw [imgE_43 (by show 1 ≤ r ∧ r ≤ 4 ∧ 0 ≤ v ∧ v ≤ 1000000; omega) (by simpa using h22)]; rfl, hE⟩ | exact ⟨by rw [imgE_4 (by show 1 ≤ r ∧ r ≤ 4 ∧ 0 ≤ v ∧ v ≤ 1000000; omega) (by simpa using h22) (by show 64 < pay.length; omega)]; rfl, hE⟩ | exact ⟨by rw [imgE_40 (by show 1 ≤ r ∧ r ≤ 4 ∧ 0 ≤ v ∧ v ≤ 1000000; omega) (by simpa using h22) (by show ¬ 64 < pay.length; omega) (by show r = 4; omega) (by show (linesS pay).length = 0; omega)]; rfl, hE⟩ | exact ⟨by rw [imgE_0 (by show 1 ≤ r ∧ r ≤ 4 ∧ 0 ≤ v ∧ v ≤ 1000000; omega) (by simpa using h22) (by show ¬ 64 < pay.length; omega) (fun q => by have q' : r = 4 := q; show (linesS pay).length ≠ 0; omega)]; rfl, hE⟩
    first | replace h11 := dT h11 | replace h11 := nT h11 | skip
    refine vP ?_
    refine vP ?_
    refine vP ?_
    refine vT ?_
    refine vM ?_
    refine Wl.guardF rfl rfl rfl rfl ?_
    refine vP ?_
    refine vP ?_
    refine vP ?_
    refine vT ?_
    refine vn (hK3 _ _ ?_)
    refine Wc.condT rfl rfl ?_
    refine vs fun K17 hK17 => vR [] ?_
    refine vA ?_
    refine vn (hK17 _ _ ?_)
    refine Wc.ret ?_
    refine Wx.thenR ?_
    refine Wx.ret [_] ⟨rfl, trivial⟩ ?_
    first | exact ⟨by rw [imgE_1 (by show ¬ (1 ≤ r ∧ r ≤ 4 ∧ 0 ≤ v ∧ v ≤ 1000000); omega)]; rfl, hE⟩ | exact ⟨by rw [imgE_43 (by show 1 ≤ r ∧ r ≤ 4 ∧ 0 ≤ v ∧ v ≤ 1000000; omega) (by simpa using h22)]; rfl, hE⟩ | exact ⟨by rw [imgE_4 (by show 1 ≤ r ∧ r ≤ 4 ∧ 0 ≤ v ∧ v ≤ 1000000; omega) (by simpa using h22) (by show 64 < pay.length; omega)]; rfl, hE⟩ | exact ⟨by rw [imgE_40 (by show 1 ≤ r ∧ r ≤ 4 ∧ 0 ≤ v ∧ v ≤ 1000000; omega) (by simpa using h22) (by show ¬ 64 < pay.length; omega) (by show r = 4; omega) (by show (linesS pay).length = 0; omega)]; rfl, hE⟩ | exact ⟨by rw [imgE_0 (by show 1 ≤ r ∧ r ≤ 4 ∧ 0 ≤ v ∧ v ≤ 1000000; omega) (by simpa using h22) (by show ¬ 64 < pay.length; omega) (fun q => by have q' : r = 4 := q; show (linesS pay).length ≠ 0; omega)]; rfl, hE⟩
  first | replace h6 := dT h6 | replace h6 := nT h6 | skip
  refine vP ?_
  refine vP ?_
  refine vP ?_
  refine vT ?_
  refine vM ?_
  refine Wl.guardF rfl rfl rfl rfl ?_
  refine vP ?_
  refine vP ?_
  refine vP ?_
  refine vT ?_
  refine vM ?_
  refine Wl.guardF rfl rfl rfl rfl ?_
  refine vP ?_
  refine vP ?_
  refine vP ?_
  refine vT ?_
  refine vn (hK3 _ _ ?_)
  refine Wc.condT rfl rfl ?_
  refine vs fun K18 hK18 => vR [] ?_
  refine vA ?_
  refine vn (hK18 _ _ ?_)
  refine Wc.ret ?_
  refine Wx.thenR ?_
  refine Wx.ret [_] ⟨rfl, trivial⟩ ?_
  first | exact ⟨by rw [imgE_1 (by show ¬ (1 ≤ r ∧ r ≤ 4 ∧ 0 ≤ v ∧ v ≤ 1000000); omega)]; rfl, hE⟩ | exact ⟨by rw [imgE_43 (by show 1 ≤ r ∧ r ≤ 4 ∧ 0 ≤ v ∧ v ≤ 1000000; omega) (by simpa using h22)]; rfl, hE⟩ | exact ⟨by rw [imgE_4 (by show 1 ≤ r ∧ r ≤ 4 ∧ 0 ≤ v ∧ v ≤ 1000000; omega) (by simpa using h22) (by show 64 < pay.length; omega)]; rfl, hE⟩ | exact ⟨by rw [imgE_40 (by show 1 ≤ r ∧ r ≤ 4 ∧ 0 ≤ v ∧ v ≤ 1000000; omega) (by simpa using h22) (by show ¬ 64 < pay.length; omega) (by show r = 4; omega) (by show (linesS pay).length = 0; omega)]; rfl, hE⟩ | exact ⟨by rw [imgE_0 (by show 1 ≤ r ∧ r ≤ 4 ∧ 0 ≤ v ∧ v ≤ 1000000; omega) (by simpa using h22) (by show ¬ 64 < pay.length; omega) (fun q => by have q' : r = 4 := q; show (linesS pay).length ≠ 0; omega)]; rfl, hE⟩
theorem checkR {P : Nat → Prop} (w : World) (r v : Int) (nm : List UInt8) (A : Option Addr) (n c : Nat) (pay : List UInt8) (hp : BV w P A n c pay) (hn : n ≤ 1000000) :
    Calls Tryd.prog 83 #[.agg #[.int .i64 r, txt nm, .int .i64 v, .slice A n c]] w fun e w' => e = .returned (.int .i64 (imgE ⟨r, nm, v, pay⟩)) ∧ Ext w w' := checkR0 w r v nm A n c pay hp
theorem imgB_no {x : Im} (h : ¬ imgE x = 0) : imgB x = [] := by unfold imgB; rw [if_neg h]
theorem imgB_y {x : Im} (h : imgE x = 0) : imgB x = blobS (blobS (uintS (uintS [] 1 x.role) 4 x.ver) x.name) x.pay := by unfold imgB; rw [if_pos h]
theorem blob_len (l r : List UInt8) : (blobS l r).length ≤ l.length + 65543 := by
  unfold blobS
  have h1 := uintS_len l 2 (min r.length 65535 : Nat)
  rw [List.length_append, List.length_take]
  omega
set_option maxRecDepth 20000 in
set_option maxHeartbeats 1000000 in
theorem encR {P : Nat → Prop} (w : World) (r v : Int) (nm : List UInt8) (A : Option Addr) (n c : Nat) (pay : List UInt8) (hp : BV w P A n c pay) (hn : n ≤ 1000000) :
    Calls Tryd.prog 104 #[.agg #[.int .i64 r, txt nm, .int .i64 v, .slice A n c]] w fun e w' => ∃ S m k, e = .returned (.slice S m k) ∧ OB w' w.heap.size 5 S m k (imgB ⟨r, nm, v, pay⟩) ∧ Ext w w' := by
  have hpl := hp.len
  have hple := hp.le
  refine calls_enter Tryd.func104 rfl Tryd.ntmps104 rfl ?_
  have hE : Ext w w := Ext.refl w
  refine vs fun K1 hK1 => vR [(0, _)] ?_
  refine Wl.does rfl rfl rfl (Does.boxA rfl rfl) ?_
  rintro _ w0_0 ⟨b1, rfl, hs1, hb1, hx0_0⟩
  have hg1 : w.heap.size ≤ b1 := Nat.le_trans hE.size hs1
  replace hE := hE.trans hx0_0
  refine vA ?_
  refine vn (hK1 _ _ ?_)
  refine Wc.seq (fun K2 hK2 => ?_)
  refine vs fun K3 hK3 => vR [(1, _)] ?_
  refine vl (Gives.ldW rfl (by kernel_rfl) rfl hb1 (by kernel_rfl)) ?_
  refine Wl.call rfl rfl rfl rfl Tryd.func83 rfl (by kernel_rfl) rfl (checkR _ r v nm A n c pay (hp.ext hE) hn) ?_
  rintro x1 w3 ⟨rfl, hx3⟩
  refine ⟨_, rfl, ?_⟩
  replace hb1 := hb1.ext hx3
  replace hE := hE.trans hx3
  refine vl (Gives.neq rfl rfl rfl) ?_
  refine vn (hK3 _ _ ?_)
  refine Wc.cond _ rfl (fun h6 => ?_) (fun h6 => ?_)
  · first | replace h6 := dT h6 | replace h6 := nT h6 | skip
    refine vs fun K4 hK4 => vR [] ?_
    refine vA ?_
    refine vn (hK4 _ _ ?_)
    refine Wc.ret ?_
    refine Wx.thenR ?_
    refine Wx.ret [_] ⟨rfl, trivial⟩ ?_
    exact ⟨none, 0, 0, rfl, by rw [imgB_no (by simpa using h6)]; exact OB.nil_ _ _ _, hE⟩
  first | replace h6 := dF h6 | replace h6 := nF h6 | skip
  refine Wc.skip ?_
  refine Wx.thenN (hK2 _ _ ?_)
  refine vs fun K5 hK5 => vK [(1, _)] ?_
  have hq : imgE ⟨r, nm, v, pay⟩ = 0 := h6
  obtain ⟨_, hnm, _, _⟩ := img_ok hq
  have hnl : nm.length ≤ 12 := (name_max hnm).2
  refine Wc.region ?_
  refine vF 0 Tryd.underlying84 ?_
  refine vL hb1 ?_
  refine Wl.call rfl rfl rfl rfl Tryd.func49 rfl (by kernel_rfl) rfl (uintR_calls _ none 0 0 [] (BV.nil_ _ (fun _ => True)) (by omega) 1 r) ?_
  rintro x2 w32 ⟨S1, m1, k1, rfl, hO1, hx32⟩
  refine ⟨_, rfl, ?_⟩
  have hm1 := hO1.len
  have hm1' := uintS_len [] 1 r
  replace hb1 := hb1.ext hx32
  replace hE := hE.trans hx32
  refine vA ?_
  refine vn (hK5 _ _ ?_)
  refine vs fun K6 hK6 => vR [(1, _), (3, _)] ?_
  refine vM ?_
  refine vF 2 Tryd.underlying84 ?_
  refine vL hb1 ?_
  refine Wl.call rfl rfl rfl rfl Tryd.func49 rfl (by kernel_rfl) rfl (uintR_calls _ S1 m1 k1 _ (hO1.bv (P := fun _ => True) fun _ _ => trivial) (by simp only [List.length_nil] at hm1'; omega) 4 v) ?_
  rintro x3 w43 ⟨S2, m2, k2, rfl, hO2, hx43⟩
  refine ⟨_, rfl, ?_⟩
  have hm2 := hO2.len
  have hm2' := uintS_len (uintS [] 1 r) 4 v
  replace hb1 := hb1.ext hx43
  replace hE := hE.trans hx43
  refine vA ?_
  refine vn (hK6 _ _ ?_)
  refine vs fun K7 hK7 => vR [(1, _), (3, _)] ?_
  refine vM ?_
  refine vF 1 Tryd.underlying84 ?_
  refine vL hb1 ?_
  refine Wl.does rfl rfl rfl (Does.toBytes rfl Tryd.underlying9 Tryd.underlying22 Tryd.underlying5 rfl (by omega)) ?_
  rintro _ w53 ⟨g5, c5, rfl, hg5, hB5, hx53⟩
  replace hO2 := hO2.ext hx53
  replace hb1 := hb1.ext hx53
  replace hE := hE.trans hx53
  refine Wl.call rfl rfl rfl rfl Tryd.func46 rfl (by kernel_rfl) rfl (blobR_calls _ S2 m2 k2 _ (hO2.bv (P := fun _ => True) fun _ _ => trivial) (by simp only [List.length_nil] at hm1'; omega) _ _ _ nm hB5 (by omega)) ?_
  rintro x4 w54 ⟨S3, m3, k3, rfl, hO3, hx54⟩
  refine ⟨_, rfl, ?_⟩
  have hm3 := hO3.len
  have hm3' := blob_len (uintS (uintS [] 1 r) 4 v) nm
  replace hb1 := hb1.ext hx54
  replace hE := hE.trans hx54
  refine vA ?_
  refine vn (hK7 _ _ ?_)
  refine vs fun K8 hK8 => vR [(1, _), (3, _)] ?_
  refine vM ?_
  refine vF 3 Tryd.underlying84 ?_
  refine vL hb1 ?_
  refine Wl.call rfl rfl rfl rfl Tryd.func46 rfl (by kernel_rfl) rfl (blobR_calls _ S3 m3 k3 _ (hO3.bv (P := fun _ => True) fun _ _ => trivial) (by simp only [List.length_nil] at hm1'; omega) A n c pay (hp.ext hE) (by omega)) ?_
  rintro x5 w63 ⟨S4, m4, k4, rfl, hO4, hx63⟩
  refine ⟨_, rfl, ?_⟩
  have hzE := hE.size
  replace hb1 := hb1.ext hx63
  replace hE := hE.trans hx63
  refine vA ?_
  refine vn (hK8 _ _ ?_)
  refine Wc.ret ?_
  refine Wx.ret [_] ⟨rfl, trivial⟩ ?_
  exact ⟨S4, m4, k4, rfl, by rw [imgB_y hq]; exact hO4.mono hzE, hE⟩
end Go.Proofs.YtnbgieccindpnaaDoor
/- Images: Decode, Register. -/
namespace Go.Proofs.YtnbgieccindpnaaDoor
set_option linter.all false
set_option maxRecDepth 20000
open Go.RowKit
theorem rdBlob_le (r : Rd) (k : Int) : (rdBlob r k).2.length ≤ r.b.length := by
  unfold rdBlob
  repeat' split
  all_goals simp only [List.length_nil, List.length_take, List.length_drop]
  all_goals omega
/-! registers -/
theorem regR (w : World) (r : Int) : Calls Tryd.prog 84 #[.int .i64 r] w fun e w' => e = .returned (.int .i64 (regS r)) ∧ w = w' := by
  refine calls_enter Tryd.func84 rfl Tryd.ntmps84 rfl ?_
  refine vs fun K1 hK1 => vR [(0, _)] ?_
  refine vA ?_
  refine vn (hK1 _ _ ?_)
  refine Wc.seq (fun K2 hK2 => ?_)
  refine vs fun K3 hK3 => vR [(0, _)] ?_
  refine vM ?_
  refine vn (hK3 _ _ ?_)
  refine Wc.block ?_
  refine vs fun K4 hK4 => vR [(3, _)] ?_
  refine vl (Gives.eql rfl rfl rfl) ?_
  refine vA ?_
  refine vn (hK4 _ _ ?_)
  refine Wc.cond _ rfl (fun h4 => ?_) (fun h4 => ?_)
  · first | replace h4 := dT h4 | replace h4 := nT h4 | skip
    refine vs fun K5 hK5 => vR [] ?_
    refine vA ?_
    refine vn (hK5 _ _ ?_)
    refine Wc.ret ?_
    refine Wx.blockR ?_
    refine Wx.thenR ?_
    refine Wx.ret [_] ⟨rfl, trivial⟩ ?_
    refine ⟨?_, rfl⟩
    have : regS r = _ := rfl
    simp_all [regS, resV]
  first | replace h4 := dF h4 | replace h4 := nF h4 | skip
  refine vs fun K6 hK6 => vR [(3, _)] ?_
  refine vl (Gives.eql rfl rfl rfl) ?_
  refine vA ?_
  refine vn (hK6 _ _ ?_)
  refine Wc.cond _ rfl (fun h6 => ?_) (fun h6 => ?_)
  · first | replace h6 := dT h6 | replace h6 := nT h6 | skip
    refine vs fun K7 hK7 => vR [] ?_
    refine vA ?_
    refine vn (hK7 _ _ ?_)
    refine Wc.ret ?_
    refine Wx.blockR ?_
    refine Wx.thenR ?_
    refine Wx.ret [_] ⟨rfl, trivial⟩ ?_
    refine ⟨?_, rfl⟩
    have : regS r = _ := rfl
    simp_all [regS, resV]
  first | replace h6 := dF h6 | replace h6 := nF h6 | skip
  refine vs fun K8 hK8 => vR [(3, _)] ?_
  refine vl (Gives.eql rfl rfl rfl) ?_
  refine vA ?_
  refine vn (hK8 _ _ ?_)
  refine Wc.cond _ rfl (fun h8 => ?_) (fun h8 => ?_)
  · first | replace h8 := dT h8 | replace h8 := nT h8 | skip
    refine vs fun K9 hK9 => vR [] ?_
    refine vA ?_
    refine vn (hK9 _ _ ?_)
    refine Wc.ret ?_
    refine Wx.blockR ?_
    refine Wx.thenR ?_
    refine Wx.ret [_] ⟨rfl, trivial⟩ ?_
    refine ⟨?_, rfl⟩
    have : regS r = _ := rfl
    simp_all [regS, resV]
  first | replace h8 := dF h8 | replace h8 := nF h8 | skip
  refine vs fun K10 hK10 => vR [(3, _)] ?_
  refine vl (Gives.eql rfl rfl rfl) ?_
  refine vA ?_
  refine vn (hK10 _ _ ?_)
  refine Wc.cond _ rfl (fun h10 => ?_) (fun h10 => ?_)
  · first | replace h10 := dT h10 | replace h10 := nT h10 | skip
    refine vs fun K11 hK11 => vR [] ?_
    refine vA ?_
    refine vn (hK11 _ _ ?_)
    refine Wc.ret ?_
    refine Wx.blockR ?_
    refine Wx.thenR ?_
    refine Wx.ret [_] ⟨rfl, trivial⟩ ?_
    refine ⟨?_, rfl⟩
    have : regS r = _ := rfl
    simp_all [regS, resV]
  first | replace h10 := dF h10 | replace h10 := nF h10 | skip
  refine Wc.skip ?_
  refine Wx.blockN ?_
  refine Wx.thenN (hK2 _ _ ?_)
  refine vs fun K12 hK12 => vR [] ?_
  refine vA ?_
  refine vn (hK12 _ _ ?_)
  refine Wc.ret ?_
  refine Wx.ret [_] ⟨rfl, trivial⟩ ?_
  refine ⟨?_, rfl⟩
  have : regS r = _ := rfl
  simp_all [regS, resV]
end Go.Proofs.YtnbgieccindpnaaDoor
