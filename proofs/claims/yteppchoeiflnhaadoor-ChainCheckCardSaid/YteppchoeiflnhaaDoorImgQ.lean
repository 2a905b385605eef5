/- ImgQ: merged. -/
import Derived.Test.YteppchoeiflnhaaDoorImgP
/- Images: Check, Encode, equality, Register. -/
namespace Go.Proofs.YteppchoeiflnhaaDoor
set_option linter.all false
set_option maxRecDepth 20000
open Go.RowKit
theorem imgE_1 {x : Im} (h : ¬ (1 ≤ x.role ∧ x.role ≤ 4 ∧ 0 ≤ x.ver ∧ x.ver ≤ 1000000)) : imgE x = 1 := by unfold imgE; rw [if_pos h]
theorem imgE_43 {x : Im} (h : 1 ≤ x.role ∧ x.role ≤ 4 ∧ 0 ≤ x.ver ∧ x.ver ≤ 1000000) (h2 : nameS x.name = false) : imgE x = 43 := by unfold imgE; rw [if_neg (fun q => q h), if_pos h2]
theorem imgE_4 {x : Im} (h : 1 ≤ x.role ∧ x.role ≤ 4 ∧ 0 ≤ x.ver ∧ x.ver ≤ 1000000) (h2 : nameS x.name = true) (h3 : 64 < x.pay.length) : imgE x = 4 := by unfold imgE; rw [if_neg (fun q => q h), if_neg (by rw [h2]; decide), if_pos h3]
theorem imgE_40 {x : Im} (h : 1 ≤ x.role ∧ x.role ≤ 4 ∧ 0 ≤ x.ver ∧ x.ver ≤ 1000000) (h2 : nameS x.name = true) (h3 : ¬ 64 < x.pay.length) (h4 : x.role = 4) (h5 : (linesS x.pay).length = 0) : imgE x = 40 := by
  unfold imgE; rw [if_neg (fun q => q h), if_neg (by rw [h2]; decide), if_neg h3, if_pos ⟨h4, List.eq_nil_of_length_eq_zero h5⟩]
theorem imgE_0 {x : Im} (h : 1 ≤ x.role ∧ x.role ≤ 4 ∧ 0 ≤ x.ver ∧ x.ver ≤ 1000000) (h2 : nameS x.name = true) (h3 : ¬ 64 < x.pay.length) (h4 : x.role = 4 → (linesS x.pay).length ≠ 0) : imgE x = 0 :=
  img_mk h h2 (by omega) fun q hh => h4 q (by rw [hh]; rfl)
set_option maxRecDepth 20000 in
set_option maxHeartbeats 1000000 in
theorem checkP {P : Nat → Prop} (w : World) (r v : Int) (nm : List UInt8) (A : Option Addr) (n c : Nat) (pay : List UInt8) (hp : BV w P A n c pay) :
    Calls Tryd.prog 23 #[.agg #[.int .i64 r, txt nm, .int .i64 v, .slice A n c]] w fun e w' => e = .returned (.int .i64 (imgE ⟨r, nm, v, pay⟩)) ∧ Ext w w' := by
  have hpl := hp.len
  have hple := hp.le
  refine calls_enter Tryd.func23 rfl Tryd.ntmps23 rfl ?_
  have hE : Ext w w := Ext.refl w
  refine Wc.seq (fun K1 hK1 => ?_)
  refine Wc.keep [(0, _)] (.cons rfl (.nil)) ?_
  refine Wc.region ?_
  refine Wl.does rfl rfl rfl (Does.boxA rfl rfl) ?_
  rintro _ w0_0 ⟨b1, rfl, hs1, hb1, hx0_0⟩
  have hg1 : w.heap.size ≤ b1 := Nat.le_trans hE.size hs1
  replace hE := hE.trans hx0_0
  refine Wl.val rfl rfl rfl (Gives.assign rfl rfl) ?_
  refine Wl.nil ?_
  refine Wx.thenN (hK1 _ _ ?_)
  refine Wc.seq (fun K2 hK2 => ?_)
  refine Wc.block ?_
  refine Wc.seq (fun K3 hK3 => ?_)
  refine Wc.keep [(1, _)] (.cons rfl (.nil)) ?_
  refine Wc.region ?_
  refine Wl.val rfl rfl rfl (Gives.fieldAt 0 rfl Tryd.underlying26 rfl (by kernel_rfl) rfl rfl) ?_
  refine Wl.val rfl rfl rfl (Gives.ldK rfl (by kernel_rfl) rfl hb1 rfl) ?_
  refine Wl.val rfl rfl rfl (Gives.lss rfl rfl rfl) ?_
  refine Wl.val rfl rfl rfl (Gives.move rfl rfl) ?_
  refine Wl.guard rfl rfl rfl (fun h7 => ?_) (fun h7 => ?_)
  · (first | replace h7 := of_decide_eq_false h7 | replace h7 := nd_false h7 | skip)
    refine Wl.val rfl rfl rfl (Gives.fieldAt 0 rfl Tryd.underlying26 rfl (by kernel_rfl) rfl rfl) ?_
    refine Wl.val rfl rfl rfl (Gives.ldK rfl (by kernel_rfl) rfl hb1 rfl) ?_
    refine Wl.val rfl rfl rfl (Gives.gtr rfl rfl rfl) ?_
    refine Wl.val rfl rfl rfl (Gives.pickF rfl rfl rfl rfl) ?_
    refine Wl.val rfl rfl rfl (Gives.move rfl rfl) ?_
    refine Wl.guard rfl rfl rfl (fun h12 => ?_) (fun h12 => ?_)
    · (first | replace h12 := of_decide_eq_false h12 | replace h12 := nd_false h12 | skip)
      refine Wl.val rfl rfl rfl (Gives.fieldAt 2 rfl Tryd.underlying26 rfl (by kernel_rfl) rfl rfl) ?_
      refine Wl.val rfl rfl rfl (Gives.ldK rfl (by kernel_rfl) rfl hb1 rfl) ?_
      refine Wl.val rfl rfl rfl (Gives.lss rfl rfl rfl) ?_
      refine Wl.val rfl rfl rfl (Gives.pickF rfl rfl rfl rfl) ?_
      refine Wl.val rfl rfl rfl (Gives.move rfl rfl) ?_
      refine Wl.guard rfl rfl rfl (fun h17 => ?_) (fun h17 => ?_)
      · (first | replace h17 := of_decide_eq_false h17 | replace h17 := nd_false h17 | skip)
        refine Wl.val rfl rfl rfl (Gives.fieldAt 2 rfl Tryd.underlying26 rfl (by kernel_rfl) rfl rfl) ?_
        refine Wl.val rfl rfl rfl (Gives.ldK rfl (by kernel_rfl) rfl hb1 rfl) ?_
        refine Wl.val rfl rfl rfl (Gives.gtr rfl rfl rfl) ?_
        refine Wl.val rfl rfl rfl (Gives.pickF rfl rfl rfl rfl) ?_
        refine Wl.val rfl rfl rfl (Gives.assign rfl rfl) ?_
        refine Wl.nil ?_
        refine Wx.thenN (hK3 _ _ ?_)
        refine Wc.cond _ rfl (fun h3 => ?_) (fun h3 => ?_)
        · (first | replace h3 := of_decide_eq_true h3 | replace h3 := nd_true h3 | skip)
          refine Wc.seq (fun K4 hK4 => ?_)
          refine Wc.keep [] (.nil) ?_
          refine Wc.region ?_
          refine Wl.val rfl rfl rfl (Gives.assign rfl rfl) ?_
          refine Wl.nil ?_
          refine Wx.thenN (hK4 _ _ ?_)
          refine Wc.ret ?_
          refine Wx.blockR ?_
          refine Wx.thenR ?_
          refine Wx.ret [_] ⟨rfl, trivial⟩ ?_
          first | exact ⟨by rw [imgE_1 (by show ¬ (1 ≤ r ∧ r ≤ 4 ∧ 0 ≤ v ∧ v ≤ 1000000); omega)]; rfl, hE⟩ | exact ⟨by rw [imgE_43 (by show 1 ≤ r ∧ r ≤ 4 ∧ 0 ≤ v ∧ v ≤ 1000000; omega) (by simpa using h22)]; rfl, hE⟩ | exact ⟨by rw [imgE_4 (by show 1 ≤ r ∧ r ≤ 4 ∧ 0 ≤ v ∧ v ≤ 1000000; omega) (by simpa using h22) (by show 64 < pay.length; omega)]; rfl, hE⟩ | exact ⟨by rw [imgE_40 (by show 1 ≤ r ∧ r ≤ 4 ∧ 0 ≤ v ∧ v ≤ 1000000; omega) (by simpa using h22) (by show ¬ 64 < pay.length; omega) (by show r = 4; omega) (by show (linesS pay).length = 0; omega)]; rfl, hE⟩ | exact ⟨by rw [imgE_0 (by show 1 ≤ r ∧ r ≤ 4 ∧ 0 ≤ v ∧ v ≤ 1000000; omega) (by simpa using h22) (by show ¬ 64 < pay.length; omega) (fun q => by have q' : r = 4 := q; show (linesS pay).length ≠ 0; omega)]; rfl, hE⟩
        · (first | replace h3 := of_decide_eq_false h3 | replace h3 := nd_false h3 | skip)
          refine Wc.seq (fun K5 hK5 => ?_)
          refine Wc.keep [(1, _)] (.cons rfl (.nil)) ?_
          refine Wc.region ?_
          refine Wl.val rfl rfl rfl (Gives.fieldAt 1 rfl Tryd.underlying26 rfl (by kernel_rfl) rfl rfl) ?_
          refine Wl.val rfl rfl rfl (Gives.ldK rfl (by kernel_rfl) rfl hb1 rfl) ?_
          refine Wl.call rfl rfl rfl rfl Tryd.func49 rfl (by kernel_rfl) rfl (namedP _ nm) ?_
          rintro x1 w3 ⟨rfl, hx3⟩
          refine ⟨_, rfl, ?_⟩
          replace hb1 := hb1.ext hx3
          replace hE := hE.trans hx3
          refine Wl.val rfl rfl rfl (Gives.not rfl rfl) ?_
          refine Wl.val rfl rfl rfl (Gives.assign rfl rfl) ?_
          refine Wl.nil ?_
          refine Wx.thenN (hK5 _ _ ?_)
          refine Wc.cond _ rfl (fun h22 => ?_) (fun h22 => ?_)
          · (first | replace h22 := of_decide_eq_true h22 | replace h22 := nd_true h22 | skip)
            refine Wc.seq (fun K6 hK6 => ?_)
            refine Wc.keep [] (.nil) ?_
            refine Wc.region ?_
            refine Wl.val rfl rfl rfl (Gives.assign rfl rfl) ?_
            refine Wl.nil ?_
            refine Wx.thenN (hK6 _ _ ?_)
            refine Wc.ret ?_
            refine Wx.blockR ?_
            refine Wx.thenR ?_
            refine Wx.ret [_] ⟨rfl, trivial⟩ ?_
            first | exact ⟨by rw [imgE_1 (by show ¬ (1 ≤ r ∧ r ≤ 4 ∧ 0 ≤ v ∧ v ≤ 1000000); omega)]; rfl, hE⟩ | exact ⟨by rw [imgE_43 (by show 1 ≤ r ∧ r ≤ 4 ∧ 0 ≤ v ∧ v ≤ 1000000; omega) (by simpa using h22)]; rfl, hE⟩ | exact ⟨by rw [imgE_4 (by show 1 ≤ r ∧ r ≤ 4 ∧ 0 ≤ v ∧ v ≤ 1000000; omega) (by simpa using h22) (by show 64 < pay.length; omega)]; rfl, hE⟩ | exact ⟨by rw [imgE_40 (by show 1 ≤ r ∧ r ≤ 4 ∧ 0 ≤ v ∧ v ≤ 1000000; omega) (by simpa using h22) (by show ¬ 64 < pay.length; omega) (by show r = 4; omega) (by show (linesS pay).length = 0; omega)]; rfl, hE⟩ | exact ⟨by rw [imgE_0 (by show 1 ≤ r ∧ r ≤ 4 ∧ 0 ≤ v ∧ v ≤ 1000000; omega) (by simpa using h22) (by show ¬ 64 < pay.length; omega) (fun q => by have q' : r = 4 := q; show (linesS pay).length ≠ 0; omega)]; rfl, hE⟩
          · (first | replace h22 := of_decide_eq_false h22 | replace h22 := nd_false h22 | skip)
            refine Wc.seq (fun K7 hK7 => ?_)
            refine Wc.keep [(1, _)] (.cons rfl (.nil)) ?_
            refine Wc.region ?_
            refine Wl.val rfl rfl rfl (Gives.fieldAt 3 rfl Tryd.underlying26 rfl (by kernel_rfl) rfl rfl) ?_
            refine Wl.val rfl rfl rfl (Gives.ldK rfl (by kernel_rfl) rfl hb1 rfl) ?_
            refine Wl.val rfl rfl rfl (Gives.lenS rfl Tryd.underlying22 rfl) ?_
            refine Wl.val rfl rfl rfl (Gives.gtr rfl rfl rfl) ?_
            refine Wl.val rfl rfl rfl (Gives.assign rfl rfl) ?_
            refine Wl.nil ?_
            refine Wx.thenN (hK7 _ _ ?_)
            refine Wc.cond _ rfl (fun h27 => ?_) (fun h27 => ?_)
            · (first | replace h27 := of_decide_eq_true h27 | replace h27 := nd_true h27 | skip)
              refine Wc.seq (fun K8 hK8 => ?_)
              refine Wc.keep [] (.nil) ?_
              refine Wc.region ?_
              refine Wl.val rfl rfl rfl (Gives.assign rfl rfl) ?_
              refine Wl.nil ?_
              refine Wx.thenN (hK8 _ _ ?_)
              refine Wc.ret ?_
              refine Wx.blockR ?_
              refine Wx.thenR ?_
              refine Wx.ret [_] ⟨rfl, trivial⟩ ?_
              first | exact ⟨by rw [imgE_1 (by show ¬ (1 ≤ r ∧ r ≤ 4 ∧ 0 ≤ v ∧ v ≤ 1000000); omega)]; rfl, hE⟩ | exact ⟨by rw [imgE_43 (by show 1 ≤ r ∧ r ≤ 4 ∧ 0 ≤ v ∧ v ≤ 1000000; omega) (by simpa using h22)]; rfl, hE⟩ | exact ⟨by rw [imgE_4 (by show 1 ≤ r ∧ r ≤ 4 ∧ 0 ≤ v ∧ v ≤ 1000000; omega) (by simpa using h22) (by show 64 < pay.length; omega)]; rfl, hE⟩ | exact ⟨by rw [imgE_40 (by show 1 ≤ r ∧ r ≤ 4 ∧ 0 ≤ v ∧ v ≤ 1000000; omega) (by simpa using h22) (by show ¬ 64 < pay.length; omega) (by show r = 4; omega) (by show (linesS pay).length = 0; omega)]; rfl, hE⟩ | exact ⟨by rw [imgE_0 (by show 1 ≤ r ∧ r ≤ 4 ∧ 0 ≤ v ∧ v ≤ 1000000; omega) (by simpa using h22) (by show ¬ 64 < pay.length; omega) (fun q => by have q' : r = 4 := q; show (linesS pay).length ≠ 0; omega)]; rfl, hE⟩
            · (first | replace h27 := of_decide_eq_false h27 | replace h27 := nd_false h27 | skip)
              refine Wc.seq (fun K9 hK9 => ?_)
              refine Wc.keep [(1, _)] (.cons rfl (.nil)) ?_
              refine Wc.region ?_
              refine Wl.val rfl rfl rfl (Gives.fieldAt 0 rfl Tryd.underlying26 rfl (by kernel_rfl) rfl rfl) ?_
              refine Wl.val rfl rfl rfl (Gives.ldK rfl (by kernel_rfl) rfl hb1 rfl) ?_
              refine Wl.val rfl rfl rfl (Gives.eql rfl rfl rfl) ?_
              refine Wl.val rfl rfl rfl (Gives.move rfl rfl) ?_
              refine Wl.guard rfl rfl rfl (fun h36 => ?_) (fun h36 => ?_)
              · (first | replace h36 := of_decide_eq_true h36 | replace h36 := nd_true h36 | skip)
                refine Wl.val rfl rfl rfl (Gives.ldW rfl (by kernel_rfl) rfl hb1 (by kernel_rfl)) ?_
                refine Wl.call rfl rfl rfl rfl Tryd.func16 rfl (by kernel_rfl) rfl (linesP _ r v nm A n c pay (hp.ext hE)) ?_
                rintro x2 w7 ⟨S, m, k, rfl, hL, hx7⟩
                refine ⟨_, rfl, ?_⟩
                have hLl := hL.len
                replace hb1 := hb1.ext hx7
                replace hE := hE.trans hx7
                refine Wl.val rfl rfl rfl (Gives.lenS rfl Tryd.underlying28 rfl) ?_
                refine Wl.val rfl rfl rfl (Gives.eql rfl rfl rfl) ?_
                refine Wl.val rfl rfl rfl (Gives.pickT rfl rfl rfl rfl) ?_
                refine Wl.val rfl rfl rfl (Gives.assign rfl rfl) ?_
                refine Wl.nil ?_
                refine Wx.thenN (hK9 _ _ ?_)
                refine Wc.cond _ rfl (fun h32 => ?_) (fun h32 => ?_)
                · (first | replace h32 := of_decide_eq_true h32 | replace h32 := nd_true h32 | skip)
                  refine Wc.seq (fun K10 hK10 => ?_)
                  refine Wc.keep [] (.nil) ?_
                  refine Wc.region ?_
                  refine Wl.val rfl rfl rfl (Gives.assign rfl rfl) ?_
                  refine Wl.nil ?_
                  refine Wx.thenN (hK10 _ _ ?_)
                  refine Wc.ret ?_
                  refine Wx.blockR ?_
                  refine Wx.thenR ?_
                  refine Wx.ret [_] ⟨rfl, trivial⟩ ?_
                  first | exact ⟨by rw [imgE_1 (by show ¬ (1 ≤ r ∧ r ≤ 4 ∧ 0 ≤ v ∧ v ≤ 1000000); omega)]; rfl, hE⟩ | exact ⟨by rw [imgE_43 (by show 1 ≤ r ∧ r ≤ 4 ∧ 0 ≤ v ∧ v ≤ 1000000; omega) (by simpa using h22)]; rfl, hE⟩ | exact ⟨by rw [imgE_4 (by show 1 ≤ r ∧ r ≤ 4 ∧ 0 ≤ v ∧ v ≤ 1000000; omega) (by simpa using h22) (by show 64 < pay.length; omega)]; rfl, hE⟩ | exact ⟨by rw [imgE_40 (by show 1 ≤ r ∧ r ≤ 4 ∧ 0 ≤ v ∧ v ≤ 1000000; omega) (by simpa using h22) (by show ¬ 64 < pay.length; omega) (by show r = 4; omega) (by show (linesS pay).length = 0; omega)]; rfl, hE⟩ | exact ⟨by rw [imgE_0 (by show 1 ≤ r ∧ r ≤ 4 ∧ 0 ≤ v ∧ v ≤ 1000000; omega) (by simpa using h22) (by show ¬ 64 < pay.length; omega) (fun q => by have q' : r = 4 := q; show (linesS pay).length ≠ 0; omega)]; rfl, hE⟩
                · (first | replace h32 := of_decide_eq_false h32 | replace h32 := nd_false h32 | skip)
                  refine Wc.skip ?_
                  refine Wx.blockN ?_
                  refine Wx.thenN (hK2 _ _ ?_)
                  refine Wc.seq (fun K11 hK11 => ?_)
                  refine Wc.keep [] (.nil) ?_
                  refine Wc.region ?_
                  refine Wl.val rfl rfl rfl (Gives.assign rfl rfl) ?_
                  refine Wl.nil ?_
                  refine Wx.thenN (hK11 _ _ ?_)
                  refine Wc.ret ?_
                  refine Wx.ret [_] ⟨rfl, trivial⟩ ?_
                  first | exact ⟨by rw [imgE_1 (by show ¬ (1 ≤ r ∧ r ≤ 4 ∧ 0 ≤ v ∧ v ≤ 1000000); omega)]; rfl, hE⟩ | exact ⟨by rw [imgE_43 (by show 1 ≤ r ∧ r ≤ 4 ∧ 0 ≤ v ∧ v ≤ 1000000; omega) (by simpa using h22)]; rfl, hE⟩ | exact ⟨by rw [imgE_4 (by show 1 ≤ r ∧ r ≤ 4 ∧ 0 ≤ v ∧ v ≤ 1000000; omega) (by simpa using h22) (by show 64 < pay.length; omega)]; rfl, hE⟩ | exact ⟨by rw [imgE_40 (by show 1 ≤ r ∧ r ≤ 4 ∧ 0 ≤ v ∧ v ≤ 1000000; omega) (by simpa using h22) (by show ¬ 64 < pay.length; omega) (by show r = 4; omega) (by show (linesS pay).length = 0; omega)]; rfl, hE⟩ | exact ⟨by rw [imgE_0 (by show 1 ≤ r ∧ r ≤ 4 ∧ 0 ≤ v ∧ v ≤ 1000000; omega) (by simpa using h22) (by show ¬ 64 < pay.length; omega) (fun q => by have q' : r = 4 := q; show (linesS pay).length ≠ 0; omega)]; rfl, hE⟩
              · (first | replace h36 := of_decide_eq_false h36 | replace h36 := nd_false h36 | skip)
                refine Wl.pass rfl rfl rfl ?_
                refine Wl.pass rfl rfl rfl ?_
                refine Wl.pass rfl rfl rfl ?_
                refine Wl.pass rfl rfl rfl ?_
                refine Wl.val rfl rfl rfl (Gives.pickF rfl rfl rfl rfl) ?_
                refine Wl.val rfl rfl rfl (Gives.assign rfl rfl) ?_
                refine Wl.nil ?_
                refine Wx.thenN (hK9 _ _ ?_)
                refine Wc.condF rfl rfl ?_
                refine Wc.skip ?_
                refine Wx.blockN ?_
                refine Wx.thenN (hK2 _ _ ?_)
                refine Wc.seq (fun K12 hK12 => ?_)
                refine Wc.keep [] (.nil) ?_
                refine Wc.region ?_
                refine Wl.val rfl rfl rfl (Gives.assign rfl rfl) ?_
                refine Wl.nil ?_
                refine Wx.thenN (hK12 _ _ ?_)
                refine Wc.ret ?_
                refine Wx.ret [_] ⟨rfl, trivial⟩ ?_
                first | exact ⟨by rw [imgE_1 (by show ¬ (1 ≤ r ∧ r ≤ 4 ∧ 0 ≤ v ∧ v ≤ 1000000); omega)]; rfl, hE⟩ | exact ⟨by rw [imgE_43 (by show 1 ≤ r ∧ r ≤ 4 ∧ 0 ≤ v ∧ v ≤ 1000000; omega) (by simpa using h22)]; rfl, hE⟩ | exact ⟨by rw [imgE_4 (by show 1 ≤ r ∧ r ≤ 4 ∧ 0 ≤ v ∧ v ≤ 1000000; omega) (by simpa using h22) (by show 64 < pay.length; omega)]; rfl, hE⟩ | exact ⟨by rw [imgE_40 (by show 1 ≤ r ∧ r ≤ 4 ∧ 0 ≤ v ∧ v ≤ 1000000; omega) (by simpa using h22) (by show ¬ 64 < pay.length; omega) (by show r = 4; omega) (by show (linesS pay).length = 0; omega)]; rfl, hE⟩ | exact ⟨by rw [imgE_0 (by show 1 ≤ r ∧ r ≤ 4 ∧ 0 ≤ v ∧ v ≤ 1000000; omega) (by simpa using h22) (by show ¬ 64 < pay.length; omega) (fun q => by have q' : r = 4 := q; show (linesS pay).length ≠ 0; omega)]; rfl, hE⟩
      · (first | replace h17 := of_decide_eq_true h17 | replace h17 := nd_true h17 | skip)
        refine Wl.pass rfl rfl rfl ?_
        refine Wl.pass rfl rfl rfl ?_
        refine Wl.pass rfl rfl rfl ?_
        refine Wl.val rfl rfl rfl (Gives.pickT rfl rfl rfl rfl) ?_
        refine Wl.val rfl rfl rfl (Gives.assign rfl rfl) ?_
        refine Wl.nil ?_
        refine Wx.thenN (hK3 _ _ ?_)
        refine Wc.condT rfl rfl ?_
        refine Wc.seq (fun K13 hK13 => ?_)
        refine Wc.keep [] (.nil) ?_
        refine Wc.region ?_
        refine Wl.val rfl rfl rfl (Gives.assign rfl rfl) ?_
        refine Wl.nil ?_
        refine Wx.thenN (hK13 _ _ ?_)
        refine Wc.ret ?_
        refine Wx.blockR ?_
        refine Wx.thenR ?_
        refine Wx.ret [_] ⟨rfl, trivial⟩ ?_
        first | exact ⟨by rw [imgE_1 (by show ¬ (1 ≤ r ∧ r ≤ 4 ∧ 0 ≤ v ∧ v ≤ 1000000); omega)]; rfl, hE⟩ | exact ⟨by rw [imgE_43 (by show 1 ≤ r ∧ r ≤ 4 ∧ 0 ≤ v ∧ v ≤ 1000000; omega) (by simpa using h22)]; rfl, hE⟩ | exact ⟨by rw [imgE_4 (by show 1 ≤ r ∧ r ≤ 4 ∧ 0 ≤ v ∧ v ≤ 1000000; omega) (by simpa using h22) (by show 64 < pay.length; omega)]; rfl, hE⟩ | exact ⟨by rw [imgE_40 (by show 1 ≤ r ∧ r ≤ 4 ∧ 0 ≤ v ∧ v ≤ 1000000; omega) (by simpa using h22) (by show ¬ 64 < pay.length; omega) (by show r = 4; omega) (by show (linesS pay).length = 0; omega)]; rfl, hE⟩ | exact ⟨by rw [imgE_0 (by show 1 ≤ r ∧ r ≤ 4 ∧ 0 ≤ v ∧ v ≤ 1000000; omega) (by simpa using h22) (by show ¬ 64 < pay.length; omega) (fun q => by have q' : r = 4 := q; show (linesS pay).length ≠ 0; omega)]; rfl, hE⟩
    · (first | replace h12 := of_decide_eq_true h12 | replace h12 := nd_true h12 | skip)
      refine Wl.pass rfl rfl rfl ?_
      refine Wl.pass rfl rfl rfl ?_
      refine Wl.pass rfl rfl rfl ?_
      refine Wl.val rfl rfl rfl (Gives.pickT rfl rfl rfl rfl) ?_
      refine Wl.val rfl rfl rfl (Gives.move rfl rfl) ?_
      refine Wl.guardF rfl rfl rfl rfl ?_
      refine Wl.pass rfl rfl rfl ?_
      refine Wl.pass rfl rfl rfl ?_
      refine Wl.pass rfl rfl rfl ?_
      refine Wl.val rfl rfl rfl (Gives.pickT rfl rfl rfl rfl) ?_
      refine Wl.val rfl rfl rfl (Gives.assign rfl rfl) ?_
      refine Wl.nil ?_
      refine Wx.thenN (hK3 _ _ ?_)
      refine Wc.condT rfl rfl ?_
      refine Wc.seq (fun K14 hK14 => ?_)
      refine Wc.keep [] (.nil) ?_
      refine Wc.region ?_
      refine Wl.val rfl rfl rfl (Gives.assign rfl rfl) ?_
      refine Wl.nil ?_
      refine Wx.thenN (hK14 _ _ ?_)
      refine Wc.ret ?_
      refine Wx.blockR ?_
      refine Wx.thenR ?_
      refine Wx.ret [_] ⟨rfl, trivial⟩ ?_
      first | exact ⟨by rw [imgE_1 (by show ¬ (1 ≤ r ∧ r ≤ 4 ∧ 0 ≤ v ∧ v ≤ 1000000); omega)]; rfl, hE⟩ | exact ⟨by rw [imgE_43 (by show 1 ≤ r ∧ r ≤ 4 ∧ 0 ≤ v ∧ v ≤ 1000000; omega) (by simpa using h22)]; rfl, hE⟩ | exact ⟨by rw [imgE_4 (by show 1 ≤ r ∧ r ≤ 4 ∧ 0 ≤ v ∧ v ≤ 1000000; omega) (by simpa using h22) (by show 64 < pay.length; omega)]; rfl, hE⟩ | exact ⟨by rw [imgE_40 (by show 1 ≤ r ∧ r ≤ 4 ∧ 0 ≤ v ∧ v ≤ 1000000; omega) (by simpa using h22) (by show ¬ 64 < pay.length; omega) (by show r = 4; omega) (by show (linesS pay).length = 0; omega)]; rfl, hE⟩ | exact ⟨by rw [imgE_0 (by show 1 ≤ r ∧ r ≤ 4 ∧ 0 ≤ v ∧ v ≤ 1000000; omega) (by simpa using h22) (by show ¬ 64 < pay.length; omega) (fun q => by have q' : r = 4 := q; show (linesS pay).length ≠ 0; omega)]; rfl, hE⟩
  · (first | replace h7 := of_decide_eq_true h7 | replace h7 := nd_true h7 | skip)
    refine Wl.pass rfl rfl rfl ?_
    refine Wl.pass rfl rfl rfl ?_
    refine Wl.pass rfl rfl rfl ?_
    refine Wl.val rfl rfl rfl (Gives.pickT rfl rfl rfl rfl) ?_
    refine Wl.val rfl rfl rfl (Gives.move rfl rfl) ?_
    refine Wl.guardF rfl rfl rfl rfl ?_
    refine Wl.pass rfl rfl rfl ?_
    refine Wl.pass rfl rfl rfl ?_
    refine Wl.pass rfl rfl rfl ?_
    refine Wl.val rfl rfl rfl (Gives.pickT rfl rfl rfl rfl) ?_
    refine Wl.val rfl rfl rfl (Gives.move rfl rfl) ?_
    refine Wl.guardF rfl rfl rfl rfl ?_
    refine Wl.pass rfl rfl rfl ?_
    refine Wl.pass rfl rfl rfl ?_
    refine Wl.pass rfl rfl rfl ?_
    refine Wl.val rfl rfl rfl (Gives.pickT rfl rfl rfl rfl) ?_
    refine Wl.val rfl rfl rfl (Gives.assign rfl rfl) ?_
    refine Wl.nil ?_
    refine Wx.thenN (hK3 _ _ ?_)
    refine Wc.condT rfl rfl ?_
    refine Wc.seq (fun K15 hK15 => ?_)
    refine Wc.keep [] (.nil) ?_
    refine Wc.region ?_
    refine Wl.val rfl rfl rfl (Gives.assign rfl rfl) ?_
    refine Wl.nil ?_
    refine Wx.thenN (hK15 _ _ ?_)
    refine Wc.ret ?_
    refine Wx.blockR ?_
    refine Wx.thenR ?_
    refine Wx.ret [_] ⟨rfl, trivial⟩ ?_
    first | exact ⟨by rw [imgE_1 (by show ¬ (1 ≤ r ∧ r ≤ 4 ∧ 0 ≤ v ∧ v ≤ 1000000); omega)]; rfl, hE⟩ | exact ⟨by rw [imgE_43 (by show 1 ≤ r ∧ r ≤ 4 ∧ 0 ≤ v ∧ v ≤ 1000000; omega) (by simpa using h22)]; rfl, hE⟩ | exact ⟨by rw [imgE_4 (by show 1 ≤ r ∧ r ≤ 4 ∧ 0 ≤ v ∧ v ≤ 1000000; omega) (by simpa using h22) (by show 64 < pay.length; omega)]; rfl, hE⟩ | exact ⟨by rw [imgE_40 (by show 1 ≤ r ∧ r ≤ 4 ∧ 0 ≤ v ∧ v ≤ 1000000; omega) (by simpa using h22) (by show ¬ 64 < pay.length; omega) (by show r = 4; omega) (by show (linesS pay).length = 0; omega)]; rfl, hE⟩ | exact ⟨by rw [imgE_0 (by show 1 ≤ r ∧ r ≤ 4 ∧ 0 ≤ v ∧ v ≤ 1000000; omega) (by simpa using h22) (by show ¬ 64 < pay.length; omega) (fun q => by have q' : r = 4 := q; show (linesS pay).length ≠ 0; omega)]; rfl, hE⟩
set_option maxRecDepth 20000 in
set_option maxHeartbeats 1000000 in
theorem checkR0 {P : Nat → Prop} (w : World) (r v : Int) (nm : List UInt8) (A : Option Addr) (n c : Nat) (pay : List UInt8) (hp : BV w P A n c pay) :
    Calls Tryd.prog 24 #[.agg #[.int .i64 r, txt nm, .int .i64 v, .slice A n c]] w fun e w' => e = .returned (.int .i64 (imgE ⟨r, nm, v, pay⟩)) ∧ Ext w w' := by
  have hpl := hp.len
  have hple := hp.le
  refine calls_enter Tryd.func24 rfl Tryd.ntmps24 rfl ?_
  have hE : Ext w w := Ext.refl w
  refine Wc.seq (fun K1 hK1 => ?_)
  refine Wc.keep [(0, _)] (.cons rfl (.nil)) ?_
  refine Wc.region ?_
  refine Wl.does rfl rfl rfl (Does.boxA rfl rfl) ?_
  rintro _ w0_0 ⟨b1, rfl, hs1, hb1, hx0_0⟩
  have hg1 : w.heap.size ≤ b1 := Nat.le_trans hE.size hs1
  replace hE := hE.trans hx0_0
  refine Wl.val rfl rfl rfl (Gives.assign rfl rfl) ?_
  refine Wl.nil ?_
  refine Wx.thenN (hK1 _ _ ?_)
  refine Wc.seq (fun K2 hK2 => ?_)
  refine Wc.seq (fun K3 hK3 => ?_)
  refine Wc.keep [(1, _)] (.cons rfl (.nil)) ?_
  refine Wc.region ?_
  refine Wl.val rfl rfl rfl (Gives.fieldAt 0 rfl Tryd.underlying26 rfl (by kernel_rfl) rfl rfl) ?_
  refine Wl.val rfl rfl rfl (Gives.ldK rfl (by kernel_rfl) rfl hb1 rfl) ?_
  refine Wl.val rfl rfl rfl (Gives.lss rfl rfl rfl) ?_
  refine Wl.val rfl rfl rfl (Gives.move rfl rfl) ?_
  refine Wl.guard rfl rfl rfl (fun h6 => ?_) (fun h6 => ?_)
  · (first | replace h6 := of_decide_eq_false h6 | replace h6 := nd_false h6 | skip)
    refine Wl.val rfl rfl rfl (Gives.fieldAt 0 rfl Tryd.underlying26 rfl (by kernel_rfl) rfl rfl) ?_
    refine Wl.val rfl rfl rfl (Gives.ldK rfl (by kernel_rfl) rfl hb1 rfl) ?_
    refine Wl.val rfl rfl rfl (Gives.gtr rfl rfl rfl) ?_
    refine Wl.val rfl rfl rfl (Gives.pickF rfl rfl rfl rfl) ?_
    refine Wl.val rfl rfl rfl (Gives.move rfl rfl) ?_
    refine Wl.guard rfl rfl rfl (fun h11 => ?_) (fun h11 => ?_)
    · (first | replace h11 := of_decide_eq_false h11 | replace h11 := nd_false h11 | skip)
      refine Wl.val rfl rfl rfl (Gives.fieldAt 2 rfl Tryd.underlying26 rfl (by kernel_rfl) rfl rfl) ?_
      refine Wl.val rfl rfl rfl (Gives.ldK rfl (by kernel_rfl) rfl hb1 rfl) ?_
      refine Wl.val rfl rfl rfl (Gives.lss rfl rfl rfl) ?_
      refine Wl.val rfl rfl rfl (Gives.pickF rfl rfl rfl rfl) ?_
      refine Wl.val rfl rfl rfl (Gives.move rfl rfl) ?_
      refine Wl.guard rfl rfl rfl (fun h16 => ?_) (fun h16 => ?_)
      · (first | replace h16 := of_decide_eq_false h16 | replace h16 := nd_false h16 | skip)
        refine Wl.val rfl rfl rfl (Gives.fieldAt 2 rfl Tryd.underlying26 rfl (by kernel_rfl) rfl rfl) ?_
        refine Wl.val rfl rfl rfl (Gives.ldK rfl (by kernel_rfl) rfl hb1 rfl) ?_
        refine Wl.val rfl rfl rfl (Gives.gtr rfl rfl rfl) ?_
        refine Wl.val rfl rfl rfl (Gives.pickF rfl rfl rfl rfl) ?_
        refine Wl.nil ?_
        refine Wx.thenN (hK3 _ _ ?_)
        refine Wc.cond _ rfl (fun h20 => ?_) (fun h20 => ?_)
        · (first | replace h20 := of_decide_eq_true h20 | replace h20 := nd_true h20 | skip)
          refine Wc.seq (fun K4 hK4 => ?_)
          refine Wc.keep [] (.nil) ?_
          refine Wc.region ?_
          refine Wl.val rfl rfl rfl (Gives.assign rfl rfl) ?_
          refine Wl.nil ?_
          refine Wx.thenN (hK4 _ _ ?_)
          refine Wc.ret ?_
          refine Wx.thenR ?_
          refine Wx.ret [_] ⟨rfl, trivial⟩ ?_
          first | exact ⟨by rw [imgE_1 (by show ¬ (1 ≤ r ∧ r ≤ 4 ∧ 0 ≤ v ∧ v ≤ 1000000); omega)]; rfl, hE⟩ | exact ⟨by rw [imgE_43 (by show 1 ≤ r ∧ r ≤ 4 ∧ 0 ≤ v ∧ v ≤ 1000000; omega) (by simpa using h22)]; rfl, hE⟩ | exact ⟨by rw [imgE_4 (by show 1 ≤ r ∧ r ≤ 4 ∧ 0 ≤ v ∧ v ≤ 1000000; omega) (by simpa using h22) (by show 64 < pay.length; omega)]; rfl, hE⟩ | exact ⟨by rw [imgE_40 (by show 1 ≤ r ∧ r ≤ 4 ∧ 0 ≤ v ∧ v ≤ 1000000; omega) (by simpa using h22) (by show ¬ 64 < pay.length; omega) (by show r = 4; omega) (by show (linesS pay).length = 0; omega)]; rfl, hE⟩ | exact ⟨by rw [imgE_0 (by show 1 ≤ r ∧ r ≤ 4 ∧ 0 ≤ v ∧ v ≤ 1000000; omega) (by simpa using h22) (by show ¬ 64 < pay.length; omega) (fun q => by have q' : r = 4 := q; show (linesS pay).length ≠ 0; omega)]; rfl, hE⟩
        · (first | replace h20 := of_decide_eq_false h20 | replace h20 := nd_false h20 | skip)
          refine Wc.skip ?_
          refine Wx.thenN (hK2 _ _ ?_)
          refine Wc.seq (fun K5 hK5 => ?_)
          refine Wc.seq (fun K6 hK6 => ?_)
          refine Wc.keep [(1, _)] (.cons rfl (.nil)) ?_
          refine Wc.region ?_
          refine Wl.val rfl rfl rfl (Gives.fieldAt 1 rfl Tryd.underlying26 rfl (by kernel_rfl) rfl rfl) ?_
          refine Wl.val rfl rfl rfl (Gives.ldK rfl (by kernel_rfl) rfl hb1 rfl) ?_
          refine Wl.call rfl rfl rfl rfl Tryd.func50 rfl (by kernel_rfl) rfl (namedR _ nm) ?_
          rintro x1 w3 ⟨rfl, hx3⟩
          refine ⟨_, rfl, ?_⟩
          replace hb1 := hb1.ext hx3
          replace hE := hE.trans hx3
          refine Wl.val rfl rfl rfl (Gives.not rfl rfl) ?_
          refine Wl.nil ?_
          refine Wx.thenN (hK6 _ _ ?_)
          refine Wc.cond _ rfl (fun h22 => ?_) (fun h22 => ?_)
          · (first | replace h22 := of_decide_eq_true h22 | replace h22 := nd_true h22 | skip)
            refine Wc.seq (fun K7 hK7 => ?_)
            refine Wc.keep [] (.nil) ?_
            refine Wc.region ?_
            refine Wl.val rfl rfl rfl (Gives.assign rfl rfl) ?_
            refine Wl.nil ?_
            refine Wx.thenN (hK7 _ _ ?_)
            refine Wc.ret ?_
            refine Wx.thenR ?_
            refine Wx.ret [_] ⟨rfl, trivial⟩ ?_
            first | exact ⟨by rw [imgE_1 (by show ¬ (1 ≤ r ∧ r ≤ 4 ∧ 0 ≤ v ∧ v ≤ 1000000); omega)]; rfl, hE⟩ | exact ⟨by rw [imgE_43 (by show 1 ≤ r ∧ r ≤ 4 ∧ 0 ≤ v ∧ v ≤ 1000000; omega) (by simpa using h22)]; rfl, hE⟩ | exact ⟨by rw [imgE_4 (by show 1 ≤ r ∧ r ≤ 4 ∧ 0 ≤ v ∧ v ≤ 1000000; omega) (by simpa using h22) (by show 64 < pay.length; omega)]; rfl, hE⟩ | exact ⟨by rw [imgE_40 (by show 1 ≤ r ∧ r ≤ 4 ∧ 0 ≤ v ∧ v ≤ 1000000; omega) (by simpa using h22) (by show ¬ 64 < pay.length; omega) (by show r = 4; omega) (by show (linesS pay).length = 0; omega)]; rfl, hE⟩ | exact ⟨by rw [imgE_0 (by show 1 ≤ r ∧ r ≤ 4 ∧ 0 ≤ v ∧ v ≤ 1000000; omega) (by simpa using h22) (by show ¬ 64 < pay.length; omega) (fun q => by have q' : r = 4 := q; show (linesS pay).length ≠ 0; omega)]; rfl, hE⟩
          · (first | replace h22 := of_decide_eq_false h22 | replace h22 := nd_false h22 | skip)
            refine Wc.skip ?_
            refine Wx.thenN (hK5 _ _ ?_)
            refine Wc.seq (fun K8 hK8 => ?_)
            refine Wc.seq (fun K9 hK9 => ?_)
            refine Wc.keep [(1, _)] (.cons rfl (.nil)) ?_
            refine Wc.region ?_
            refine Wl.val rfl rfl rfl (Gives.fieldAt 3 rfl Tryd.underlying26 rfl (by kernel_rfl) rfl rfl) ?_
            refine Wl.val rfl rfl rfl (Gives.ldK rfl (by kernel_rfl) rfl hb1 rfl) ?_
            refine Wl.val rfl rfl rfl (Gives.lenS rfl Tryd.underlying22 rfl) ?_
            refine Wl.val rfl rfl rfl (Gives.gtr rfl rfl rfl) ?_
            refine Wl.nil ?_
            refine Wx.thenN (hK9 _ _ ?_)
            refine Wc.cond _ rfl (fun h28 => ?_) (fun h28 => ?_)
            · (first | replace h28 := of_decide_eq_true h28 | replace h28 := nd_true h28 | skip)
              refine Wc.seq (fun K10 hK10 => ?_)
              refine Wc.keep [] (.nil) ?_
              refine Wc.region ?_
              refine Wl.val rfl rfl rfl (Gives.assign rfl rfl) ?_
              refine Wl.nil ?_
              refine Wx.thenN (hK10 _ _ ?_)
              refine Wc.ret ?_
              refine Wx.thenR ?_
              refine Wx.ret [_] ⟨rfl, trivial⟩ ?_
              first | exact ⟨by rw [imgE_1 (by show ¬ (1 ≤ r ∧ r ≤ 4 ∧ 0 ≤ v ∧ v ≤ 1000000); omega)]; rfl, hE⟩ | exact ⟨by rw [imgE_43 (by show 1 ≤ r ∧ r ≤ 4 ∧ 0 ≤ v ∧ v ≤ 1000000; omega) (by simpa using h22)]; rfl, hE⟩ | exact ⟨by rw [imgE_4 (by show 1 ≤ r ∧ r ≤ 4 ∧ 0 ≤ v ∧ v ≤ 1000000; omega) (by simpa using h22) (by show 64 < pay.length; omega)]; rfl, hE⟩ | exact ⟨by rw [imgE_40 (by show 1 ≤ r ∧ r ≤ 4 ∧ 0 ≤ v ∧ v ≤ 1000000; omega) (by simpa using h22) (by show ¬ 64 < pay.length; omega) (by show r = 4; omega) (by show (linesS pay).length = 0; omega)]; rfl, hE⟩ | exact ⟨by rw [imgE_0 (by show 1 ≤ r ∧ r ≤ 4 ∧ 0 ≤ v ∧ v ≤ 1000000; omega) (by simpa using h22) (by show ¬ 64 < pay.length; omega) (fun q => by have q' : r = 4 := q; show (linesS pay).length ≠ 0; omega)]; rfl, hE⟩
            · (first | replace h28 := of_decide_eq_false h28 | replace h28 := nd_false h28 | skip)
              refine Wc.skip ?_
              refine Wx.thenN (hK8 _ _ ?_)
              refine Wc.seq (fun K11 hK11 => ?_)
              refine Wc.seq (fun K12 hK12 => ?_)
              refine Wc.keep [(1, _)] (.cons rfl (.nil)) ?_
              refine Wc.region ?_
              refine Wl.val rfl rfl rfl (Gives.fieldAt 0 rfl Tryd.underlying26 rfl (by kernel_rfl) rfl rfl) ?_
              refine Wl.val rfl rfl rfl (Gives.ldK rfl (by kernel_rfl) rfl hb1 rfl) ?_
              refine Wl.val rfl rfl rfl (Gives.eql rfl rfl rfl) ?_
              refine Wl.val rfl rfl rfl (Gives.move rfl rfl) ?_
              refine Wl.guard rfl rfl rfl (fun h32 => ?_) (fun h32 => ?_)
              · (first | replace h32 := of_decide_eq_true h32 | replace h32 := nd_true h32 | skip)
                refine Wl.val rfl rfl rfl (Gives.ldW rfl (by kernel_rfl) rfl hb1 (by kernel_rfl)) ?_
                refine Wl.call rfl rfl rfl rfl Tryd.func17 rfl (by kernel_rfl) rfl (linesR _ r v nm A n c pay (hp.ext hE) (by omega)) ?_
                rintro x2 w7 ⟨S, m, k, rfl, hL, hx7⟩
                refine ⟨_, rfl, ?_⟩
                have hLl := hL.len
                replace hb1 := hb1.ext hx7
                replace hE := hE.trans hx7
                refine Wl.val rfl rfl rfl (Gives.lenS rfl Tryd.underlying28 rfl) ?_
                refine Wl.val rfl rfl rfl (Gives.eql rfl rfl rfl) ?_
                refine Wl.val rfl rfl rfl (Gives.pickT rfl rfl rfl rfl) ?_
                refine Wl.nil ?_
                refine Wx.thenN (hK12 _ _ ?_)
                refine Wc.cond _ rfl (fun h37 => ?_) (fun h37 => ?_)
                · (first | replace h37 := of_decide_eq_true h37 | replace h37 := nd_true h37 | skip)
                  refine Wc.seq (fun K13 hK13 => ?_)
                  refine Wc.keep [] (.nil) ?_
                  refine Wc.region ?_
                  refine Wl.val rfl rfl rfl (Gives.assign rfl rfl) ?_
                  refine Wl.nil ?_
                  refine Wx.thenN (hK13 _ _ ?_)
                  refine Wc.ret ?_
                  refine Wx.thenR ?_
                  refine Wx.ret [_] ⟨rfl, trivial⟩ ?_
                  first | exact ⟨by rw [imgE_1 (by show ¬ (1 ≤ r ∧ r ≤ 4 ∧ 0 ≤ v ∧ v ≤ 1000000); omega)]; rfl, hE⟩ | exact ⟨by rw [imgE_43 (by show 1 ≤ r ∧ r ≤ 4 ∧ 0 ≤ v ∧ v ≤ 1000000; omega) (by simpa using h22)]; rfl, hE⟩ | exact ⟨by rw [imgE_4 (by show 1 ≤ r ∧ r ≤ 4 ∧ 0 ≤ v ∧ v ≤ 1000000; omega) (by simpa using h22) (by show 64 < pay.length; omega)]; rfl, hE⟩ | exact ⟨by rw [imgE_40 (by show 1 ≤ r ∧ r ≤ 4 ∧ 0 ≤ v ∧ v ≤ 1000000; omega) (by simpa using h22) (by show ¬ 64 < pay.length; omega) (by show r = 4; omega) (by show (linesS pay).length = 0; omega)]; rfl, hE⟩ | exact ⟨by rw [imgE_0 (by show 1 ≤ r ∧ r ≤ 4 ∧ 0 ≤ v ∧ v ≤ 1000000; omega) (by simpa using h22) (by show ¬ 64 < pay.length; omega) (fun q => by have q' : r = 4 := q; show (linesS pay).length ≠ 0; omega)]; rfl, hE⟩
                · (first | replace h37 := of_decide_eq_false h37 | replace h37 := nd_false h37 | skip)
                  refine Wc.skip ?_
                  refine Wx.thenN (hK11 _ _ ?_)
                  refine Wc.seq (fun K14 hK14 => ?_)
                  refine Wc.keep [] (.nil) ?_
                  refine Wc.region ?_
                  refine Wl.val rfl rfl rfl (Gives.assign rfl rfl) ?_
                  refine Wl.nil ?_
                  refine Wx.thenN (hK14 _ _ ?_)
                  refine Wc.ret ?_
                  refine Wx.ret [_] ⟨rfl, trivial⟩ ?_
                  first | exact ⟨by rw [imgE_1 (by show ¬ (1 ≤ r ∧ r ≤ 4 ∧ 0 ≤ v ∧ v ≤ 1000000); omega)]; rfl, hE⟩ | exact ⟨by rw [imgE_43 (by show 1 ≤ r ∧ r ≤ 4 ∧ 0 ≤ v ∧ v ≤ 1000000; omega) (by simpa using h22)]; rfl, hE⟩ | exact ⟨by rw [imgE_4 (by show 1 ≤ r ∧ r ≤ 4 ∧ 0 ≤ v ∧ v ≤ 1000000; omega) (by simpa using h22) (by show 64 < pay.length; omega)]; rfl, hE⟩ | exact ⟨by rw [imgE_40 (by show 1 ≤ r ∧ r ≤ 4 ∧ 0 ≤ v ∧ v ≤ 1000000; omega) (by simpa using h22) (by show ¬ 64 < pay.length; omega) (by show r = 4; omega) (by show (linesS pay).length = 0; omega)]; rfl, hE⟩ | exact ⟨by rw [imgE_0 (by show 1 ≤ r ∧ r ≤ 4 ∧ 0 ≤ v ∧ v ≤ 1000000; omega) (by simpa using h22) (by show ¬ 64 < pay.length; omega) (fun q => by have q' : r = 4 := q; show (linesS pay).length ≠ 0; omega)]; rfl, hE⟩
              · (first | replace h32 := of_decide_eq_false h32 | replace h32 := nd_false h32 | skip)
                refine Wl.pass rfl rfl rfl ?_
                refine Wl.pass rfl rfl rfl ?_
                refine Wl.pass rfl rfl rfl ?_
                refine Wl.pass rfl rfl rfl ?_
                refine Wl.val rfl rfl rfl (Gives.pickF rfl rfl rfl rfl) ?_
                refine Wl.nil ?_
                refine Wx.thenN (hK12 _ _ ?_)
                refine Wc.condF rfl rfl ?_
                refine Wc.skip ?_
                refine Wx.thenN (hK11 _ _ ?_)
                refine Wc.seq (fun K15 hK15 => ?_)
                refine Wc.keep [] (.nil) ?_
                refine Wc.region ?_
                refine Wl.val rfl rfl rfl (Gives.assign rfl rfl) ?_
                refine Wl.nil ?_
                refine Wx.thenN (hK15 _ _ ?_)
                refine Wc.ret ?_
                refine Wx.ret [_] ⟨rfl, trivial⟩ ?_
                first | exact ⟨by rw [imgE_1 (by show ¬ (1 ≤ r ∧ r ≤ 4 ∧ 0 ≤ v ∧ v ≤ 1000000); omega)]; rfl, hE⟩ | exact ⟨by rw [imgE_43 (by show 1 ≤ r ∧ r ≤ 4 ∧ 0 ≤ v ∧ v ≤ 1000000; omega) (by simpa using h22)]; rfl, hE⟩ | exact ⟨by rw [imgE_4 (by show 1 ≤ r ∧ r ≤ 4 ∧ 0 ≤ v ∧ v ≤ 1000000; omega) (by simpa using h22) (by show 64 < pay.length; omega)]; rfl, hE⟩ | exact ⟨by rw [imgE_40 (by show 1 ≤ r ∧ r ≤ 4 ∧ 0 ≤ v ∧ v ≤ 1000000; omega) (by simpa using h22) (by show ¬ 64 < pay.length; omega) (by show r = 4; omega) (by show (linesS pay).length = 0; omega)]; rfl, hE⟩ | exact ⟨by rw [imgE_0 (by show 1 ≤ r ∧ r ≤ 4 ∧ 0 ≤ v ∧ v ≤ 1000000; omega) (by simpa using h22) (by show ¬ 64 < pay.length; omega) (fun q => by have q' : r = 4 := q; show (linesS pay).length ≠ 0; omega)]; rfl, hE⟩
      · (first | replace h16 := of_decide_eq_true h16 | replace h16 := nd_true h16 | skip)
        refine Wl.pass rfl rfl rfl ?_
        refine Wl.pass rfl rfl rfl ?_
        refine Wl.pass rfl rfl rfl ?_
        refine Wl.val rfl rfl rfl (Gives.pickT rfl rfl rfl rfl) ?_
        refine Wl.nil ?_
        refine Wx.thenN (hK3 _ _ ?_)
        refine Wc.condT rfl rfl ?_
        refine Wc.seq (fun K16 hK16 => ?_)
        refine Wc.keep [] (.nil) ?_
        refine Wc.region ?_
        refine Wl.val rfl rfl rfl (Gives.assign rfl rfl) ?_
        refine Wl.nil ?_
        refine Wx.thenN (hK16 _ _ ?_)
        refine Wc.ret ?_
        refine Wx.thenR ?_
        refine Wx.ret [_] ⟨rfl, trivial⟩ ?_
        first | exact ⟨by rw [imgE_1 (by show ¬ (1 ≤ r ∧ r ≤ 4 ∧ 0 ≤ v ∧ v ≤ 1000000); omega)]; rfl, hE⟩ | exact ⟨by rw [imgE_43 (by show 1 ≤ r ∧ r ≤ 4 ∧ 0 ≤ v ∧ v ≤ 1000000; omega) (by simpa using h22)]; rfl, hE⟩ | exact ⟨by rw [imgE_4 (by show 1 ≤ r ∧ r ≤ 4 ∧ 0 ≤ v ∧ v ≤ 1000000; omega) (by simpa using h22) (by show 64 < pay.length; omega)]; rfl, hE⟩ | exact ⟨by rw [imgE_40 (by show 1 ≤ r ∧ r ≤ 4 ∧ 0 ≤ v ∧ v ≤ 1000000; omega) (by simpa using h22) (by show ¬ 64 < pay.length; omega) (by show r = 4; omega) (by show (linesS pay).length = 0; omega)]; rfl, hE⟩ | exact ⟨by rw [imgE_0 (by show 1 ≤ r ∧ r ≤ 4 ∧ 0 ≤ v ∧ v ≤ 1000000; omega) (by simpa using h22) (by show ¬ 64 < pay.length; omega) (fun q => by have q' : r = 4 := q; show (linesS pay).length ≠ 0; omega)]; rfl, hE⟩
    · (first | replace h11 := of_decide_eq_true h11 | replace h11 := nd_true h11 | skip)
      refine Wl.pass rfl rfl rfl ?_
      refine Wl.pass rfl rfl rfl ?_
      refine Wl.pass rfl rfl rfl ?_
      refine Wl.val rfl rfl rfl (Gives.pickT rfl rfl rfl rfl) ?_
      refine Wl.val rfl rfl rfl (Gives.move rfl rfl) ?_
      refine Wl.guardF rfl rfl rfl rfl ?_
      refine Wl.pass rfl rfl rfl ?_
      refine Wl.pass rfl rfl rfl ?_
      refine Wl.pass rfl rfl rfl ?_
      refine Wl.val rfl rfl rfl (Gives.pickT rfl rfl rfl rfl) ?_
      refine Wl.nil ?_
      refine Wx.thenN (hK3 _ _ ?_)
      refine Wc.condT rfl rfl ?_
      refine Wc.seq (fun K17 hK17 => ?_)
      refine Wc.keep [] (.nil) ?_
      refine Wc.region ?_
      refine Wl.val rfl rfl rfl (Gives.assign rfl rfl) ?_
      refine Wl.nil ?_
      refine Wx.thenN (hK17 _ _ ?_)
      refine Wc.ret ?_
      refine Wx.thenR ?_
      refine Wx.ret [_] ⟨rfl, trivial⟩ ?_
      first | exact ⟨by rw [imgE_1 (by show ¬ (1 ≤ r ∧ r ≤ 4 ∧ 0 ≤ v ∧ v ≤ 1000000); omega)]; rfl, hE⟩ | exact ⟨by rw [imgE_43 (by show 1 ≤ r ∧ r ≤ 4 ∧ 0 ≤ v ∧ v ≤ 1000000; omega) (by simpa using h22)]; rfl, hE⟩ | exact ⟨by rw [imgE_4 (by show 1 ≤ r ∧ r ≤ 4 ∧ 0 ≤ v ∧ v ≤ 1000000; omega) (by simpa using h22) (by show 64 < pay.length; omega)]; rfl, hE⟩ | exact ⟨by rw [imgE_40 (by show 1 ≤ r ∧ r ≤ 4 ∧ 0 ≤ v ∧ v ≤ 1000000; omega) (by simpa using h22) (by show ¬ 64 < pay.length; omega) (by show r = 4; omega) (by show (linesS pay).length = 0; omega)]; rfl, hE⟩ | exact ⟨by rw [imgE_0 (by show 1 ≤ r ∧ r ≤ 4 ∧ 0 ≤ v ∧ v ≤ 1000000; omega) (by simpa using h22) (by show ¬ 64 < pay.length; omega) (fun q => by have q' : r = 4 := q; show (linesS pay).length ≠ 0; omega)]; rfl, hE⟩
  · (first | replace h6 := of_decide_eq_true h6 | replace h6 := nd_true h6 | skip)
    refine Wl.pass rfl rfl rfl ?_
    refine Wl.pass rfl rfl rfl ?_
    refine Wl.pass rfl rfl rfl ?_
    refine Wl.val rfl rfl rfl (Gives.pickT rfl rfl rfl rfl) ?_
    refine Wl.val rfl rfl rfl (Gives.move rfl rfl) ?_
    refine Wl.guardF rfl rfl rfl rfl ?_
    refine Wl.pass rfl rfl rfl ?_
    refine Wl.pass rfl rfl rfl ?_
    refine Wl.pass rfl rfl rfl ?_
    refine Wl.val rfl rfl rfl (Gives.pickT rfl rfl rfl rfl) ?_
    refine Wl.val rfl rfl rfl (Gives.move rfl rfl) ?_
    refine Wl.guardF rfl rfl rfl rfl ?_
    refine Wl.pass rfl rfl rfl ?_
    refine Wl.pass rfl rfl rfl ?_
    refine Wl.pass rfl rfl rfl ?_
    refine Wl.val rfl rfl rfl (Gives.pickT rfl rfl rfl rfl) ?_
    refine Wl.nil ?_
    refine Wx.thenN (hK3 _ _ ?_)
    refine Wc.condT rfl rfl ?_
    refine Wc.seq (fun K18 hK18 => ?_)
    refine Wc.keep [] (.nil) ?_
    refine Wc.region ?_
    refine Wl.val rfl rfl rfl (Gives.assign rfl rfl) ?_
    refine Wl.nil ?_
    refine Wx.thenN (hK18 _ _ ?_)
    refine Wc.ret ?_
    refine Wx.thenR ?_
    refine Wx.ret [_] ⟨rfl, trivial⟩ ?_
    first | exact ⟨by rw [imgE_1 (by show ¬ (1 ≤ r ∧ r ≤ 4 ∧ 0 ≤ v ∧ v ≤ 1000000); omega)]; rfl, hE⟩ | exact ⟨by rw [imgE_43 (by show 1 ≤ r ∧ r ≤ 4 ∧ 0 ≤ v ∧ v ≤ 1000000; omega) (by simpa using h22)]; rfl, hE⟩ | exact ⟨by rw [imgE_4 (by show 1 ≤ r ∧ r ≤ 4 ∧ 0 ≤ v ∧ v ≤ 1000000; omega) (by simpa using h22) (by show 64 < pay.length; omega)]; rfl, hE⟩ | exact ⟨by rw [imgE_40 (by show 1 ≤ r ∧ r ≤ 4 ∧ 0 ≤ v ∧ v ≤ 1000000; omega) (by simpa using h22) (by show ¬ 64 < pay.length; omega) (by show r = 4; omega) (by show (linesS pay).length = 0; omega)]; rfl, hE⟩ | exact ⟨by rw [imgE_0 (by show 1 ≤ r ∧ r ≤ 4 ∧ 0 ≤ v ∧ v ≤ 1000000; omega) (by simpa using h22) (by show ¬ 64 < pay.length; omega) (fun q => by have q' : r = 4 := q; show (linesS pay).length ≠ 0; omega)]; rfl, hE⟩
theorem checkR {P : Nat → Prop} (w : World) (r v : Int) (nm : List UInt8) (A : Option Addr) (n c : Nat) (pay : List UInt8) (hp : BV w P A n c pay) (hn : n ≤ 1000000) :
    Calls Tryd.prog 24 #[.agg #[.int .i64 r, txt nm, .int .i64 v, .slice A n c]] w fun e w' => e = .returned (.int .i64 (imgE ⟨r, nm, v, pay⟩)) ∧ Ext w w' := checkR0 w r v nm A n c pay hp
theorem imgB_no {x : Im} (h : ¬ imgE x = 0) : imgB x = [] := by unfold imgB; rw [if_neg h]
theorem imgB_y {x : Im} (h : imgE x = 0) : imgB x = blobS (blobS (uintS (uintS [] 1 x.role) 4 x.ver) x.name) x.pay := by unfold imgB; rw [if_pos h]
theorem blob_len (l r : List UInt8) : (blobS l r).length ≤ l.length + 65543 := by
  unfold blobS
  have h1 := uintS_len l 2 (min r.length 65535 : Nat)
  rw [List.length_append, List.length_take]
  omega
set_option maxRecDepth 20000 in
set_option maxHeartbeats 1000000 in
theorem encP {P : Nat → Prop} (w : World) (r v : Int) (nm : List UInt8) (A : Option Addr) (n c : Nat) (pay : List UInt8) (hp : BV w P A n c pay) (hn : n ≤ 1000000) :
    Calls Tryd.prog 25 #[.agg #[.int .i64 r, txt nm, .int .i64 v, .slice A n c]] w fun e w' => ∃ S m k, e = .returned (.slice S m k) ∧ OB w' w.heap.size 5 S m k (imgB ⟨r, nm, v, pay⟩) ∧ Ext w w' := by
  have hpl := hp.len
  have hple := hp.le
  refine calls_enter Tryd.func25 rfl Tryd.ntmps25 rfl ?_
  have hE : Ext w w := Ext.refl w
  refine Wc.seq (fun K1 hK1 => ?_)
  refine Wc.keep [(0, _)] (.cons rfl (.nil)) ?_
  refine Wc.region ?_
  refine Wl.does rfl rfl rfl (Does.boxA rfl rfl) ?_
  rintro _ w0_0 ⟨b1, rfl, hs1, hb1, hx0_0⟩
  have hg1 : w.heap.size ≤ b1 := Nat.le_trans hE.size hs1
  replace hE := hE.trans hx0_0
  refine Wl.val rfl rfl rfl (Gives.assign rfl rfl) ?_
  refine Wl.nil ?_
  refine Wx.thenN (hK1 _ _ ?_)
  refine Wc.seq (fun K2 hK2 => ?_)
  refine Wc.seq (fun K3 hK3 => ?_)
  refine Wc.keep [(1, _)] (.cons rfl (.nil)) ?_
  refine Wc.region ?_
  refine Wl.val rfl rfl rfl (Gives.ldW rfl (by kernel_rfl) rfl hb1 (by kernel_rfl)) ?_
  refine Wl.call rfl rfl rfl rfl Tryd.func23 rfl (by kernel_rfl) rfl (checkP _ r v nm A n c pay (hp.ext hE)) ?_
  rintro x1 w3 ⟨rfl, hx3⟩
  refine ⟨_, rfl, ?_⟩
  replace hb1 := hb1.ext hx3
  replace hE := hE.trans hx3
  refine Wl.val rfl rfl rfl (Gives.neq rfl rfl rfl) ?_
  refine Wl.nil ?_
  refine Wx.thenN (hK3 _ _ ?_)
  refine Wc.cond _ rfl (fun h6 => ?_) (fun h6 => ?_)
  · (first | replace h6 := of_decide_eq_true h6 | replace h6 := nd_true h6 | skip)
    refine Wc.seq (fun K4 hK4 => ?_)
    refine Wc.keep [] (.nil) ?_
    refine Wc.region ?_
    refine Wl.val rfl rfl rfl (Gives.assign rfl rfl) ?_
    refine Wl.nil ?_
    refine Wx.thenN (hK4 _ _ ?_)
    refine Wc.ret ?_
    refine Wx.thenR ?_
    refine Wx.ret [_] ⟨rfl, trivial⟩ ?_
    exact ⟨none, 0, 0, rfl, by rw [imgB_no (by simpa using h6)]; exact OB.nil_ _ _ _, hE⟩
  · (first | replace h6 := of_decide_eq_false h6 | replace h6 := nd_false h6 | skip)
    refine Wc.skip ?_
    refine Wx.thenN (hK2 _ _ ?_)
    refine Wc.seq (fun K5 hK5 => ?_)
    refine Wc.keep [(1, _)] (.cons rfl (.nil)) ?_
    have hq : imgE ⟨r, nm, v, pay⟩ = 0 := h6
    obtain ⟨_, hnm, _, _⟩ := img_ok hq
    have hnl : nm.length ≤ 12 := (name_max hnm).2
    refine Wc.region ?_
    refine Wl.val rfl rfl rfl (Gives.fieldAt 0 rfl Tryd.underlying26 rfl (by kernel_rfl) rfl rfl) ?_
    refine Wl.val rfl rfl rfl (Gives.ldK rfl (by kernel_rfl) rfl hb1 rfl) ?_
    refine Wl.call rfl rfl rfl rfl Tryd.func51 rfl (by kernel_rfl) rfl (uint_calls _ none 0 0 [] (BV.nil_ _ (fun _ => True)) (by omega) 1 r) ?_
    rintro x2 w32 ⟨S1, m1, k1, rfl, hO1, hx32⟩
    refine ⟨_, rfl, ?_⟩
    have hm1 := hO1.len
    have hm1' := uintS_len [] 1 r
    replace hb1 := hb1.ext hx32
    replace hE := hE.trans hx32
    refine Wl.val rfl rfl rfl (Gives.assign rfl rfl) ?_
    refine Wl.nil ?_
    refine Wx.thenN (hK5 _ _ ?_)
    refine Wc.seq (fun K6 hK6 => ?_)
    refine Wc.keep [(1, _), (3, _)] (.cons rfl (.cons rfl (.nil))) ?_
    refine Wc.region ?_
    refine Wl.val rfl rfl rfl (Gives.move rfl rfl) ?_
    refine Wl.val rfl rfl rfl (Gives.fieldAt 2 rfl Tryd.underlying26 rfl (by kernel_rfl) rfl rfl) ?_
    refine Wl.val rfl rfl rfl (Gives.ldK rfl (by kernel_rfl) rfl hb1 rfl) ?_
    refine Wl.call rfl rfl rfl rfl Tryd.func51 rfl (by kernel_rfl) rfl (uint_calls _ S1 m1 k1 _ (hO1.bv (P := fun _ => True) fun _ _ => trivial) (by simp only [List.length_nil] at hm1'; omega) 4 v) ?_
    rintro x3 w43 ⟨S2, m2, k2, rfl, hO2, hx43⟩
    refine ⟨_, rfl, ?_⟩
    have hm2 := hO2.len
    have hm2' := uintS_len (uintS [] 1 r) 4 v
    replace hb1 := hb1.ext hx43
    replace hE := hE.trans hx43
    refine Wl.val rfl rfl rfl (Gives.assign rfl rfl) ?_
    refine Wl.nil ?_
    refine Wx.thenN (hK6 _ _ ?_)
    refine Wc.seq (fun K7 hK7 => ?_)
    refine Wc.keep [(1, _), (3, _)] (.cons rfl (.cons rfl (.nil))) ?_
    refine Wc.region ?_
    refine Wl.val rfl rfl rfl (Gives.move rfl rfl) ?_
    refine Wl.val rfl rfl rfl (Gives.fieldAt 1 rfl Tryd.underlying26 rfl (by kernel_rfl) rfl rfl) ?_
    refine Wl.val rfl rfl rfl (Gives.ldK rfl (by kernel_rfl) rfl hb1 rfl) ?_
    refine Wl.does rfl rfl rfl (Does.toBytes rfl Tryd.underlying9 Tryd.underlying22 Tryd.underlying5 rfl (by omega)) ?_
    rintro _ w53 ⟨g5, c5, rfl, hg5, hB5, hx53⟩
    replace hO2 := hO2.ext hx53
    replace hb1 := hb1.ext hx53
    replace hE := hE.trans hx53
    refine Wl.call rfl rfl rfl rfl Tryd.func52 rfl (by kernel_rfl) rfl (blob_calls _ S2 m2 k2 _ (hO2.bv (P := fun _ => True) fun _ _ => trivial) (by simp only [List.length_nil] at hm1'; omega) _ _ _ nm hB5 (by omega)) ?_
    rintro x4 w54 ⟨S3, m3, k3, rfl, hO3, hx54⟩
    refine ⟨_, rfl, ?_⟩
    have hm3 := hO3.len
    have hm3' := blob_len (uintS (uintS [] 1 r) 4 v) nm
    replace hb1 := hb1.ext hx54
    replace hE := hE.trans hx54
    refine Wl.val rfl rfl rfl (Gives.assign rfl rfl) ?_
    refine Wl.nil ?_
    refine Wx.thenN (hK7 _ _ ?_)
    refine Wc.seq (fun K8 hK8 => ?_)
    refine Wc.keep [(1, _), (3, _)] (.cons rfl (.cons rfl (.nil))) ?_
    refine Wc.region ?_
    refine Wl.val rfl rfl rfl (Gives.move rfl rfl) ?_
    refine Wl.val rfl rfl rfl (Gives.fieldAt 3 rfl Tryd.underlying26 rfl (by kernel_rfl) rfl rfl) ?_
    refine Wl.val rfl rfl rfl (Gives.ldK rfl (by kernel_rfl) rfl hb1 rfl) ?_
    refine Wl.call rfl rfl rfl rfl Tryd.func52 rfl (by kernel_rfl) rfl (blob_calls _ S3 m3 k3 _ (hO3.bv (P := fun _ => True) fun _ _ => trivial) (by simp only [List.length_nil] at hm1'; omega) A n c pay (hp.ext hE) (by omega)) ?_
    rintro x5 w63 ⟨S4, m4, k4, rfl, hO4, hx63⟩
    refine ⟨_, rfl, ?_⟩
    have hzE := hE.size
    replace hb1 := hb1.ext hx63
    replace hE := hE.trans hx63
    refine Wl.val rfl rfl rfl (Gives.assign rfl rfl) ?_
    refine Wl.nil ?_
    refine Wx.thenN (hK8 _ _ ?_)
    refine Wc.ret ?_
    refine Wx.ret [_] ⟨rfl, trivial⟩ ?_
    exact ⟨S4, m4, k4, rfl, by rw [imgB_y hq]; exact hO4.mono hzE, hE⟩
set_option maxRecDepth 20000 in
set_option maxHeartbeats 1000000 in
theorem encR {P : Nat → Prop} (w : World) (r v : Int) (nm : List UInt8) (A : Option Addr) (n c : Nat) (pay : List UInt8) (hp : BV w P A n c pay) (hn : n ≤ 1000000) :
    Calls Tryd.prog 28 #[.agg #[.int .i64 r, txt nm, .int .i64 v, .slice A n c]] w fun e w' => ∃ S m k, e = .returned (.slice S m k) ∧ OB w' w.heap.size 5 S m k (imgB ⟨r, nm, v, pay⟩) ∧ Ext w w' := by
  have hpl := hp.len
  have hple := hp.le
  refine calls_enter Tryd.func28 rfl Tryd.ntmps28 rfl ?_
  have hE : Ext w w := Ext.refl w
  refine Wc.seq (fun K1 hK1 => ?_)
  refine Wc.keep [(0, _)] (.cons rfl (.nil)) ?_
  refine Wc.region ?_
  refine Wl.does rfl rfl rfl (Does.boxA rfl rfl) ?_
  rintro _ w0_0 ⟨b1, rfl, hs1, hb1, hx0_0⟩
  have hg1 : w.heap.size ≤ b1 := Nat.le_trans hE.size hs1
  replace hE := hE.trans hx0_0
  refine Wl.val rfl rfl rfl (Gives.assign rfl rfl) ?_
  refine Wl.nil ?_
  refine Wx.thenN (hK1 _ _ ?_)
  refine Wc.seq (fun K2 hK2 => ?_)
  refine Wc.seq (fun K3 hK3 => ?_)
  refine Wc.keep [(1, _)] (.cons rfl (.nil)) ?_
  refine Wc.region ?_
  refine Wl.val rfl rfl rfl (Gives.ldW rfl (by kernel_rfl) rfl hb1 (by kernel_rfl)) ?_
  refine Wl.call rfl rfl rfl rfl Tryd.func24 rfl (by kernel_rfl) rfl (checkR _ r v nm A n c pay (hp.ext hE) hn) ?_
  rintro x1 w3 ⟨rfl, hx3⟩
  refine ⟨_, rfl, ?_⟩
  replace hb1 := hb1.ext hx3
  replace hE := hE.trans hx3
  refine Wl.val rfl rfl rfl (Gives.neq rfl rfl rfl) ?_
  refine Wl.nil ?_
  refine Wx.thenN (hK3 _ _ ?_)
  refine Wc.cond _ rfl (fun h6 => ?_) (fun h6 => ?_)
  · (first | replace h6 := of_decide_eq_true h6 | replace h6 := nd_true h6 | skip)
    refine Wc.seq (fun K4 hK4 => ?_)
    refine Wc.keep [] (.nil) ?_
    refine Wc.region ?_
    refine Wl.val rfl rfl rfl (Gives.assign rfl rfl) ?_
    refine Wl.nil ?_
    refine Wx.thenN (hK4 _ _ ?_)
    refine Wc.ret ?_
    refine Wx.thenR ?_
    refine Wx.ret [_] ⟨rfl, trivial⟩ ?_
    exact ⟨none, 0, 0, rfl, by rw [imgB_no (by simpa using h6)]; exact OB.nil_ _ _ _, hE⟩
  · (first | replace h6 := of_decide_eq_false h6 | replace h6 := nd_false h6 | skip)
    refine Wc.skip ?_
    refine Wx.thenN (hK2 _ _ ?_)
    refine Wc.seq (fun K5 hK5 => ?_)
    refine Wc.keep [(1, _)] (.cons rfl (.nil)) ?_
    have hq : imgE ⟨r, nm, v, pay⟩ = 0 := h6
    obtain ⟨_, hnm, _, _⟩ := img_ok hq
    have hnl : nm.length ≤ 12 := (name_max hnm).2
    refine Wc.region ?_
    refine Wl.val rfl rfl rfl (Gives.fieldAt 0 rfl Tryd.underlying26 rfl (by kernel_rfl) rfl rfl) ?_
    refine Wl.val rfl rfl rfl (Gives.ldK rfl (by kernel_rfl) rfl hb1 rfl) ?_
    refine Wl.call rfl rfl rfl rfl Tryd.func57 rfl (by kernel_rfl) rfl (uintR_calls _ none 0 0 [] (BV.nil_ _ (fun _ => True)) (by omega) 1 r) ?_
    rintro x2 w32 ⟨S1, m1, k1, rfl, hO1, hx32⟩
    refine ⟨_, rfl, ?_⟩
    have hm1 := hO1.len
    have hm1' := uintS_len [] 1 r
    replace hb1 := hb1.ext hx32
    replace hE := hE.trans hx32
    refine Wl.val rfl rfl rfl (Gives.assign rfl rfl) ?_
    refine Wl.nil ?_
    refine Wx.thenN (hK5 _ _ ?_)
    refine Wc.seq (fun K6 hK6 => ?_)
    refine Wc.keep [(1, _), (3, _)] (.cons rfl (.cons rfl (.nil))) ?_
    refine Wc.region ?_
    refine Wl.val rfl rfl rfl (Gives.move rfl rfl) ?_
    refine Wl.val rfl rfl rfl (Gives.fieldAt 2 rfl Tryd.underlying26 rfl (by kernel_rfl) rfl rfl) ?_
    refine Wl.val rfl rfl rfl (Gives.ldK rfl (by kernel_rfl) rfl hb1 rfl) ?_
    refine Wl.call rfl rfl rfl rfl Tryd.func57 rfl (by kernel_rfl) rfl (uintR_calls _ S1 m1 k1 _ (hO1.bv (P := fun _ => True) fun _ _ => trivial) (by simp only [List.length_nil] at hm1'; omega) 4 v) ?_
    rintro x3 w43 ⟨S2, m2, k2, rfl, hO2, hx43⟩
    refine ⟨_, rfl, ?_⟩
    have hm2 := hO2.len
    have hm2' := uintS_len (uintS [] 1 r) 4 v
    replace hb1 := hb1.ext hx43
    replace hE := hE.trans hx43
    refine Wl.val rfl rfl rfl (Gives.assign rfl rfl) ?_
    refine Wl.nil ?_
    refine Wx.thenN (hK6 _ _ ?_)
    refine Wc.seq (fun K7 hK7 => ?_)
    refine Wc.keep [(1, _), (3, _)] (.cons rfl (.cons rfl (.nil))) ?_
    refine Wc.region ?_
    refine Wl.val rfl rfl rfl (Gives.move rfl rfl) ?_
    refine Wl.val rfl rfl rfl (Gives.fieldAt 1 rfl Tryd.underlying26 rfl (by kernel_rfl) rfl rfl) ?_
    refine Wl.val rfl rfl rfl (Gives.ldK rfl (by kernel_rfl) rfl hb1 rfl) ?_
    refine Wl.does rfl rfl rfl (Does.toBytes rfl Tryd.underlying9 Tryd.underlying22 Tryd.underlying5 rfl (by omega)) ?_
    rintro _ w53 ⟨g5, c5, rfl, hg5, hB5, hx53⟩
    replace hO2 := hO2.ext hx53
    replace hb1 := hb1.ext hx53
    replace hE := hE.trans hx53
    refine Wl.call rfl rfl rfl rfl Tryd.func58 rfl (by kernel_rfl) rfl (blobR_calls _ S2 m2 k2 _ (hO2.bv (P := fun _ => True) fun _ _ => trivial) (by simp only [List.length_nil] at hm1'; omega) _ _ _ nm hB5 (by omega)) ?_
    rintro x4 w54 ⟨S3, m3, k3, rfl, hO3, hx54⟩
    refine ⟨_, rfl, ?_⟩
    have hm3 := hO3.len
    have hm3' := blob_len (uintS (uintS [] 1 r) 4 v) nm
    replace hb1 := hb1.ext hx54
    replace hE := hE.trans hx54
    refine Wl.val rfl rfl rfl (Gives.assign rfl rfl) ?_
    refine Wl.nil ?_
    refine Wx.thenN (hK7 _ _ ?_)
    refine Wc.seq (fun K8 hK8 => ?_)
    refine Wc.keep [(1, _), (3, _)] (.cons rfl (.cons rfl (.nil))) ?_
    refine Wc.region ?_
    refine Wl.val rfl rfl rfl (Gives.move rfl rfl) ?_
    refine Wl.val rfl rfl rfl (Gives.fieldAt 3 rfl Tryd.underlying26 rfl (by kernel_rfl) rfl rfl) ?_
    refine Wl.val rfl rfl rfl (Gives.ldK rfl (by kernel_rfl) rfl hb1 rfl) ?_
    refine Wl.call rfl rfl rfl rfl Tryd.func58 rfl (by kernel_rfl) rfl (blobR_calls _ S3 m3 k3 _ (hO3.bv (P := fun _ => True) fun _ _ => trivial) (by simp only [List.length_nil] at hm1'; omega) A n c pay (hp.ext hE) (by omega)) ?_
    rintro x5 w63 ⟨S4, m4, k4, rfl, hO4, hx63⟩
    refine ⟨_, rfl, ?_⟩
    have hzE := hE.size
    replace hb1 := hb1.ext hx63
    replace hE := hE.trans hx63
    refine Wl.val rfl rfl rfl (Gives.assign rfl rfl) ?_
    refine Wl.nil ?_
    refine Wx.thenN (hK8 _ _ ?_)
    refine Wc.ret ?_
    refine Wx.ret [_] ⟨rfl, trivial⟩ ?_
    exact ⟨S4, m4, k4, rfl, by rw [imgB_y hq]; exact hO4.mono hzE, hE⟩
set_option maxRecDepth 20000 in
theorem sameI {P P' : Nat → Prop} (w : World) (r v : Int) (nm : List UInt8) (A : Option Addr) (n c : Nat) (pay : List UInt8) (hp : BV w P A n c pay) (r2 v2 : Int) (nm2 : List UInt8) (B : Option Addr) (m d : Nat) (pay2 : List UInt8) (hp2 : BV w P' B m d pay2) :
    Calls Tryd.prog 29 #[.agg #[.int .i64 r, txt nm, .int .i64 v, .slice A n c], .agg #[.int .i64 r2, txt nm2, .int .i64 v2, .slice B m d]] w fun e w' => e = .returned (.bool (decide (r = r2 ∧ nm = nm2 ∧ v = v2 ∧ pay = pay2))) ∧ Ext w w' := by
  refine calls_enter Tryd.func29 rfl Tryd.ntmps29 rfl ?_
  have hE : Ext w w := Ext.refl w
  refine Wc.seq (fun K1 hK1 => ?_)
  refine Wc.keep [(0, _), (1, _)] (.cons rfl (.cons rfl (.nil))) ?_
  refine Wc.region ?_
  refine Wl.does rfl rfl rfl (Does.boxA rfl rfl) ?_
  rintro _ w0_0 ⟨b2, rfl, hs2, hb2, hx0_0⟩
  have hg2 : w.heap.size ≤ b2 := Nat.le_trans hE.size hs2
  replace hE := hE.trans hx0_0
  refine Wl.does rfl rfl rfl (Does.boxA rfl rfl) ?_
  rintro _ w0_1 ⟨b3, rfl, hs3, hb3, hx0_1⟩
  have hn2_3 : b2 ≠ b3 := hb2.ne hs3
  have hg3 : w.heap.size ≤ b3 := Nat.le_trans hE.size hs3
  replace hb2 := hb2.ext hx0_1
  replace hE := hE.trans hx0_1
  refine Wl.val rfl rfl rfl (Gives.assign rfl rfl) ?_
  refine Wl.nil ?_
  refine Wx.thenN (hK1 _ _ ?_)
  refine Wc.seq (fun K2 hK2 => ?_)
  refine Wc.keep [(2, _), (3, _)] (.cons rfl (.cons rfl (.nil))) ?_
  refine Wc.region ?_
  refine Wl.val rfl rfl rfl (Gives.fieldAt 0 rfl Tryd.underlying26 rfl (by kernel_rfl) rfl rfl) ?_
  refine Wl.val rfl rfl rfl (Gives.ldK rfl (by kernel_rfl) rfl hb2 rfl) ?_
  refine Wl.val rfl rfl rfl (Gives.fieldAt 0 rfl Tryd.underlying26 rfl (by kernel_rfl) rfl rfl) ?_
  refine Wl.val rfl rfl rfl (Gives.ldK rfl (by kernel_rfl) rfl hb3 rfl) ?_
  refine Wl.val rfl rfl rfl (Gives.eql rfl rfl rfl) ?_
  refine Wl.val rfl rfl rfl (Gives.move rfl rfl) ?_
  refine Wl.guard rfl rfl rfl (fun h10 => ?_) (fun h10 => ?_)
  · (first | replace h10 := of_decide_eq_true h10 | replace h10 := nd_true h10 | skip)
    refine Wl.val rfl rfl rfl (Gives.fieldAt 1 rfl Tryd.underlying26 rfl (by kernel_rfl) rfl rfl) ?_
    refine Wl.val rfl rfl rfl (Gives.ldK rfl (by kernel_rfl) rfl hb2 rfl) ?_
    refine Wl.val rfl rfl rfl (Gives.fieldAt 1 rfl Tryd.underlying26 rfl (by kernel_rfl) rfl rfl) ?_
    refine Wl.val rfl rfl rfl (Gives.ldK rfl (by kernel_rfl) rfl hb3 rfl) ?_
    refine Wl.val rfl rfl rfl (Gives.txtEql rfl rfl rfl) ?_
    refine Wl.val rfl rfl rfl (Gives.pickT rfl rfl rfl rfl) ?_
    refine Wl.val rfl rfl rfl (Gives.move rfl rfl) ?_
    refine Wl.guard rfl rfl rfl (fun h17 => ?_) (fun h17 => ?_)
    · (first | replace h17 := of_decide_eq_true h17 | replace h17 := nd_true h17 | skip)
      refine Wl.val rfl rfl rfl (Gives.fieldAt 2 rfl Tryd.underlying26 rfl (by kernel_rfl) rfl rfl) ?_
      refine Wl.val rfl rfl rfl (Gives.ldK rfl (by kernel_rfl) rfl hb2 rfl) ?_
      refine Wl.val rfl rfl rfl (Gives.fieldAt 2 rfl Tryd.underlying26 rfl (by kernel_rfl) rfl rfl) ?_
      refine Wl.val rfl rfl rfl (Gives.ldK rfl (by kernel_rfl) rfl hb3 rfl) ?_
      refine Wl.val rfl rfl rfl (Gives.eql rfl rfl rfl) ?_
      refine Wl.val rfl rfl rfl (Gives.pickT rfl rfl rfl rfl) ?_
      refine Wl.val rfl rfl rfl (Gives.move rfl rfl) ?_
      refine Wl.guard rfl rfl rfl (fun h24 => ?_) (fun h24 => ?_)
      · (first | replace h24 := of_decide_eq_true h24 | replace h24 := nd_true h24 | skip)
        refine Wl.val rfl rfl rfl (Gives.fieldAt 3 rfl Tryd.underlying26 rfl (by kernel_rfl) rfl rfl) ?_
        refine Wl.val rfl rfl rfl (Gives.ldK rfl (by kernel_rfl) rfl hb2 rfl) ?_
        refine Wl.val rfl rfl rfl (Gives.fieldAt 3 rfl Tryd.underlying26 rfl (by kernel_rfl) rfl rfl) ?_
        refine Wl.val rfl rfl rfl (Gives.ldK rfl (by kernel_rfl) rfl hb3 rfl) ?_
        refine Wl.call rfl rfl rfl rfl Tryd.func27 rfl (by kernel_rfl) rfl (same_calls _ _ _ _ _ _ _ _ _ (hp.ext hE) (hp2.ext hE)) ?_
        rintro x1 w1 ⟨rfl, hq1⟩
        refine ⟨_, rfl, ?_⟩
        replace hb2 := hb2.ext hq1.ext
        replace hb3 := hb3.ext hq1.ext
        replace hE := hE.trans hq1.ext
        refine Wl.val rfl rfl rfl (Gives.pickT rfl rfl rfl rfl) ?_
        refine Wl.val rfl rfl rfl (Gives.assign rfl rfl) ?_
        refine Wl.nil ?_
        refine Wx.thenN (hK2 _ _ ?_)
        refine Wc.ret ?_
        refine Wx.ret [_] ⟨rfl, trivial⟩ ?_
        refine ⟨?_, hE⟩
        simp_all [resV]
      · (first | replace h24 := of_decide_eq_false h24 | replace h24 := nd_false h24 | skip)
        refine Wl.pass rfl rfl rfl ?_
        refine Wl.pass rfl rfl rfl ?_
        refine Wl.pass rfl rfl rfl ?_
        refine Wl.pass rfl rfl rfl ?_
        refine Wl.pass rfl rfl rfl ?_
        refine Wl.val rfl rfl rfl (Gives.pickF rfl rfl rfl rfl) ?_
        refine Wl.val rfl rfl rfl (Gives.assign rfl rfl) ?_
        refine Wl.nil ?_
        refine Wx.thenN (hK2 _ _ ?_)
        refine Wc.ret ?_
        refine Wx.ret [_] ⟨rfl, trivial⟩ ?_
        refine ⟨?_, hE⟩
        simp_all [resV]
    · (first | replace h17 := of_decide_eq_false h17 | replace h17 := nd_false h17 | skip)
      refine Wl.pass rfl rfl rfl ?_
      refine Wl.pass rfl rfl rfl ?_
      refine Wl.pass rfl rfl rfl ?_
      refine Wl.pass rfl rfl rfl ?_
      refine Wl.pass rfl rfl rfl ?_
      refine Wl.val rfl rfl rfl (Gives.pickF rfl rfl rfl rfl) ?_
      refine Wl.val rfl rfl rfl (Gives.move rfl rfl) ?_
      refine Wl.guardF rfl rfl rfl rfl ?_
      refine Wl.pass rfl rfl rfl ?_
      refine Wl.pass rfl rfl rfl ?_
      refine Wl.pass rfl rfl rfl ?_
      refine Wl.pass rfl rfl rfl ?_
      refine Wl.pass rfl rfl rfl ?_
      refine Wl.val rfl rfl rfl (Gives.pickF rfl rfl rfl rfl) ?_
      refine Wl.val rfl rfl rfl (Gives.assign rfl rfl) ?_
      refine Wl.nil ?_
      refine Wx.thenN (hK2 _ _ ?_)
      refine Wc.ret ?_
      refine Wx.ret [_] ⟨rfl, trivial⟩ ?_
      refine ⟨?_, hE⟩
      simp_all [resV]
  · (first | replace h10 := of_decide_eq_false h10 | replace h10 := nd_false h10 | skip)
    refine Wl.pass rfl rfl rfl ?_
    refine Wl.pass rfl rfl rfl ?_
    refine Wl.pass rfl rfl rfl ?_
    refine Wl.pass rfl rfl rfl ?_
    refine Wl.pass rfl rfl rfl ?_
    refine Wl.val rfl rfl rfl (Gives.pickF rfl rfl rfl rfl) ?_
    refine Wl.val rfl rfl rfl (Gives.move rfl rfl) ?_
    refine Wl.guardF rfl rfl rfl rfl ?_
    refine Wl.pass rfl rfl rfl ?_
    refine Wl.pass rfl rfl rfl ?_
    refine Wl.pass rfl rfl rfl ?_
    refine Wl.pass rfl rfl rfl ?_
    refine Wl.pass rfl rfl rfl ?_
    refine Wl.val rfl rfl rfl (Gives.pickF rfl rfl rfl rfl) ?_
    refine Wl.val rfl rfl rfl (Gives.move rfl rfl) ?_
    refine Wl.guardF rfl rfl rfl rfl ?_
    refine Wl.pass rfl rfl rfl ?_
    refine Wl.pass rfl rfl rfl ?_
    refine Wl.pass rfl rfl rfl ?_
    refine Wl.pass rfl rfl rfl ?_
    refine Wl.pass rfl rfl rfl ?_
    refine Wl.val rfl rfl rfl (Gives.pickF rfl rfl rfl rfl) ?_
    refine Wl.val rfl rfl rfl (Gives.assign rfl rfl) ?_
    refine Wl.nil ?_
    refine Wx.thenN (hK2 _ _ ?_)
    refine Wc.ret ?_
    refine Wx.ret [_] ⟨rfl, trivial⟩ ?_
    refine ⟨?_, hE⟩
    simp_all [resV]
end Go.Proofs.YteppchoeiflnhaaDoor
/- Images: Decode, Register. -/
namespace Go.Proofs.YteppchoeiflnhaaDoor
set_option linter.all false
set_option maxRecDepth 20000
open Go.RowKit
def DecR (w : World) (x : Im) (er : Int) (e : Ending) (w' : World) : Prop := ∃ S m k, e = .returned (.tuple #[.agg #[.int .i64 x.role, txt x.name, .int .i64 x.ver, .slice S m k], .int .i64 er]) ∧ OB w' w.heap.size 5 S m k x.pay ∧ Ext w w'
theorem DecR.no {w w' : World} {l : List UInt8} (h : decOk l = false) (hE : Ext w w') : DecR w (decI l) (decE l) (.returned (resV [.agg #[.int .i64 0, .string ByteArray.empty, .int .i64 0, .slice none 0 0], .int .i64 30])) w' := by
  unfold decI decE
  rw [if_neg (by simp [h]), if_neg (by simp [h])]
  exact ⟨none, 0, 0, rfl, OB.nil_ _ _ _, hE⟩
theorem DecR.yes {w w' : World} {l : List UInt8} {S : Option Addr} {m k : Nat} (h : decOk l = true) (hO : OB w' w.heap.size 5 S m k (id4 l).2) (hE : Ext w w') : DecR w (decI l) (decE l) (.returned (resV [.agg #[.int .i64 (id1 l).2, txt (id3 l).2, .int .i64 (id2 l).2, .slice S m k], .int .i64 0])) w' := by
  unfold decI decE
  rw [if_pos h, if_pos h]
  exact ⟨S, m, k, rfl, hO, hE⟩
theorem dec_no {l : List UInt8} (h : ¬ (rdEnd (id4 l).1 = 0 ∧ imgE (imD l) = 0)) : decOk l = false := by
  unfold decOk
  rw [Bool.and_eq_false_iff, decide_eq_false_iff_not, decide_eq_false_iff_not]
  by_cases h1 : rdEnd (id4 l).1 = 0
  · right; exact fun h2 => h ⟨h1, h2⟩
  · left; exact h1
theorem dec_yes {l : List UInt8} (h1 : rdEnd (id4 l).1 = 0) (h2 : imgE (imD l) = 0) : decOk l = true := by
  unfold decOk
  rw [decide_eq_true h1, decide_eq_true h2]; rfl
theorem id3_le (l : List UInt8) : (id3 l).2.length ≤ 65535 ∨ (id3 l).2.length ≤ l.length := by
  unfold id3 rdBlob
  repeat' split
  all_goals simp only [List.length_nil, List.length_take, List.length_drop]
  all_goals omega
theorem rdBlob_le (r : Rd) (k : Int) : (rdBlob r k).2.length ≤ r.b.length := by
  unfold rdBlob
  repeat' split
  all_goals simp only [List.length_nil, List.length_take, List.length_drop]
  all_goals omega
theorem id1_b (l : List UInt8) : (id1 l).1.b = l := rdUint_b _ _
theorem id2_b (l : List UInt8) : (id2 l).1.b = l := (rdUint_b _ _).trans (id1_b l)
theorem id3_b (l : List UInt8) : (id3 l).1.b = l := (rdBlob_b _ _).trans (id2_b l)
theorem id4_le (l : List UInt8) : (id4 l).2.length ≤ l.length := by
  have := rdBlob_le (id3 l).1 64
  rw [id3_b] at this
  exact this
set_option maxRecDepth 20000 in
set_option maxHeartbeats 2000000 in
theorem decP {P : Nat → Prop} (w : World) (A : Option Addr) (n c : Nat) (l : List UInt8) (ha : BV w P A n c l) (hn : n ≤ 1000000) :
    Calls Tryd.prog 26 #[.slice A n c] w (DecR w (decI l) (decE l)) := by
  have hl := ha.len
  have hle4 := id4_le l
  refine calls_enter Tryd.func26 rfl Tryd.ntmps26 rfl ?_
  have hE : Ext w w := Ext.refl w
  refine Wc.seq (fun K1 hK1 => ?_)
  refine Wc.keep [(0, _)] (.cons rfl (.nil)) ?_
  refine Wc.region ?_
  refine Wl.does rfl rfl rfl (Does.alB (.agg #[(.int .i64 0), (.string ByteArray.empty), (.int .i64 0), (.slice none 0 0)]) rfl (by kernel_rfl) rfl) ?_
  rintro _ w0_0 ⟨b2, rfl, hs2, hb2, hx0_0⟩
  have hg2 : w.heap.size ≤ b2 := Nat.le_trans hE.size hs2
  replace hE := hE.trans hx0_0
  refine Wl.val rfl rfl rfl (Gives.assign rfl rfl) ?_
  refine Wl.nil ?_
  refine Wx.thenN (hK1 _ _ ?_)
  refine Wc.seq (fun K2 hK2 => ?_)
  refine Wc.keep [(0, _), (2, _)] (.cons rfl (.cons rfl (.nil))) ?_
  refine Wc.region ?_
  refine Wl.val rfl rfl rfl (Gives.move rfl rfl) ?_
  refine Wl.call rfl rfl rfl rfl Tryd.func53 rfl (by kernel_rfl) rfl ((newP_rd _ _ _ _ l (ha.ext hE) (by omega)).mono fun _ _ h => NewRd.x h) ?_
  rintro x1 w11 ⟨g, A', n', c', rfl, hg, hR, hx1⟩
  refine ⟨_, rfl, ?_⟩
  have hgg : w.heap.size ≤ g := Nat.le_trans hE.size hg
  have hn2g : b2 ≠ g := by { have := hb2.lt; omega }
  generalize hN : w11.heap.size = N at *
  have hgN : g < N := hR.lt
  replace hb2 := hb2.ext hx1
  replace hE := hE.trans hx1
  refine Wl.val rfl rfl rfl (Gives.assign rfl rfl) ?_
  refine Wl.nil ?_
  refine Wx.thenN (hK2 _ _ ?_)
  refine Wc.seq (fun K3 hK3 => ?_)
  refine Wc.keep [(2, _), (4, _)] (.cons rfl (.cons rfl (.nil))) ?_
  refine Wc.region ?_
  refine Wl.does rfl rfl rfl (Does.alB (.agg #[(.int .i64 0), (.string ByteArray.empty), (.int .i64 0), (.slice none 0 0)]) rfl (by kernel_rfl) rfl) ?_
  rintro _ w2_0 ⟨b5, rfl, hs5, hb5, hx2_0⟩
  have hn2_5 : b2 ≠ b5 := hb2.ne hs5
  have hg5 : w.heap.size ≤ b5 := Nat.le_trans hE.size hs5
  replace hb2 := hb2.ext hx2_0
  replace hE := hE.trans hx2_0
  replace hR := hR.ext hx2_0
  have hn5g : b5 ≠ g := by omega
  have hN5 : N ≤ b5 := by omega
  have hzw := hE.size
  refine Wl.nil ?_
  refine Wx.thenN (hK3 _ _ ?_)
  refine Wc.seq (fun K4 hK4 => ?_)
  refine Wc.keep [(2, _), (4, _), (5, _)] (.cons rfl (.cons rfl (.cons rfl (.nil)))) ?_
  refine Wc.region ?_
  refine Wl.val rfl rfl rfl (Gives.move rfl rfl) ?_
  refine Wl.call rfl rfl rfl rfl Tryd.func54 rfl (by kernel_rfl) rfl ((rUint_x _ g _ A' n' c' _ 1 hR).mono (R' := UintX 94 _ g N A' n' c' (id1 l)) fun _ _ h => h) ?_
  rintro x2 w31 ⟨rfl, hR1, hF1⟩
  refine ⟨_, rfl, ?_⟩
  replace hR1 : RDX 94 w31 g N A' n' c' (id1 l).1 := hR1
  replace hb2 := hb2.fr hF1 (by first | assumption | exact Ne.symm (by assumption))
  replace hb5 := hb5.fr hF1 (by first | assumption | exact Ne.symm (by assumption))
  replace hE := Ext.over hE hF1 hgg
  refine Wl.val rfl rfl rfl (Gives.fieldAt 0 rfl Tryd.underlying26 rfl (by kernel_rfl) rfl rfl) ?_
  refine Wl.acts rfl rfl (Does.stC rfl rfl rfl hb5 (by kernel_rfl) (Nat.le_of_ble_eq_true rfl) rfl) ?_
  rintro _ w3_3 ⟨hbn, hF3_3⟩
  replace hb2 := hb2.fr hF3_3 (by first | assumption | exact Ne.symm (by assumption))
  replace hE := Ext.over hE hF3_3 hg5
  replace hb5 := hbn
  clear hbn
  (try simp only [List.setIfInBounds_toArray, List.set_cons_zero, List.set_cons_succ, Nat.reduceAdd, Nat.zero_add] at hb5)
  replace hR1 := hR1.fr hF3_3 (fun q hq => by omega)
  refine Wl.nil ?_
  refine Wx.thenN (hK4 _ _ ?_)
  refine Wc.seq (fun K5 hK5 => ?_)
  refine Wc.keep [(2, _), (4, _), (5, _)] (.cons rfl (.cons rfl (.cons rfl (.nil)))) ?_
  refine Wc.region ?_
  refine Wl.val rfl rfl rfl (Gives.move rfl rfl) ?_
  refine Wl.call rfl rfl rfl rfl Tryd.func54 rfl (by kernel_rfl) rfl ((rUint_x _ g _ A' n' c' _ 4 hR1).mono (R' := UintX 94 _ g N A' n' c' (id2 l)) fun _ _ h => h) ?_
  rintro x3 w41 ⟨rfl, hR2, hF2⟩
  refine ⟨_, rfl, ?_⟩
  replace hR2 : RDX 94 w41 g N A' n' c' (id2 l).1 := hR2
  replace hb2 := hb2.fr hF2 (by first | assumption | exact Ne.symm (by assumption))
  replace hb5 := hb5.fr hF2 (by first | assumption | exact Ne.symm (by assumption))
  replace hE := Ext.over hE hF2 hgg
  refine Wl.val rfl rfl rfl (Gives.fieldAt 2 rfl Tryd.underlying26 rfl (by kernel_rfl) rfl rfl) ?_
  refine Wl.acts rfl rfl (Does.stC rfl rfl rfl hb5 (by kernel_rfl) (Nat.le_of_ble_eq_true rfl) rfl) ?_
  rintro _ w4_3 ⟨hbn, hF4_3⟩
  replace hb2 := hb2.fr hF4_3 (by first | assumption | exact Ne.symm (by assumption))
  replace hE := Ext.over hE hF4_3 hg5
  replace hb5 := hbn
  clear hbn
  (try simp only [List.setIfInBounds_toArray, List.set_cons_zero, List.set_cons_succ, Nat.reduceAdd, Nat.zero_add] at hb5)
  replace hR2 := hR2.fr hF4_3 (fun q hq => by omega)
  refine Wl.nil ?_
  refine Wx.thenN (hK5 _ _ ?_)
  refine Wc.seq (fun K6 hK6 => ?_)
  refine Wc.keep [(2, _), (4, _), (5, _)] (.cons rfl (.cons rfl (.cons rfl (.nil)))) ?_
  refine Wc.region ?_
  refine Wl.val rfl rfl rfl (Gives.move rfl rfl) ?_
  refine Wl.call rfl rfl rfl rfl Tryd.func55 rfl (by kernel_rfl) rfl (rBlob_x _ g _ A' n' c' _ 12 hR2) ?_
  rintro x4 w51 ⟨S3, m3, k3, rfl, hO3, hR3, hF3⟩
  refine ⟨_, rfl, ?_⟩
  replace hR3 : RDX 94 w51 g N A' n' c' (id3 l).1 := hR3
  replace hO3 : OB w51 _ 5 S3 m3 k3 (id3 l).2 := hO3
  replace hb2 := hb2.fr hF3 (by first | assumption | exact Ne.symm (by assumption))
  replace hb5 := hb5.fr hF3 (by first | assumption | exact Ne.symm (by assumption))
  replace hE := Ext.over hE hF3 hgg
  refine Wl.val rfl rfl rfl (Gives.toStr rfl Tryd.underlying22 Tryd.underlying5 Tryd.underlying9 rfl (hO3.bv (P := fun _ => True) fun _ _ => trivial)) ?_
  refine Wl.val rfl rfl rfl (Gives.fieldAt 1 rfl Tryd.underlying26 rfl (by kernel_rfl) rfl rfl) ?_
  refine Wl.acts rfl rfl (Does.stC rfl rfl rfl hb5 (by kernel_rfl) (Nat.le_of_ble_eq_true rfl) rfl) ?_
  rintro _ w5_4 ⟨hbn, hF5_4⟩
  replace hb2 := hb2.fr hF5_4 (by first | assumption | exact Ne.symm (by assumption))
  replace hE := Ext.over hE hF5_4 hg5
  replace hb5 := hbn
  clear hbn
  (try simp only [List.setIfInBounds_toArray, List.set_cons_zero, List.set_cons_succ, Nat.reduceAdd, Nat.zero_add] at hb5)
  replace hR3 := hR3.fr hF5_4 (fun q hq => by omega)
  have hz54 := hb5.lt
  have hzE5 := hE.size
  have hz542 := hb2.lt
  refine Wl.nil ?_
  refine Wx.thenN (hK6 _ _ ?_)
  refine Wc.seq (fun K7 hK7 => ?_)
  refine Wc.keep [(2, _), (4, _), (5, _)] (.cons rfl (.cons rfl (.cons rfl (.nil)))) ?_
  refine Wc.region ?_
  refine Wl.val rfl rfl rfl (Gives.move rfl rfl) ?_
  refine Wl.call rfl rfl rfl rfl Tryd.func55 rfl (by kernel_rfl) rfl (rBlob_x _ g _ A' n' c' _ 64 hR3) ?_
  rintro x5 w61 ⟨S4, m4, k4, rfl, hO4, hR4, hF4⟩
  refine ⟨_, rfl, ?_⟩
  replace hR4 : RDX 94 w61 g N A' n' c' (id4 l).1 := hR4
  replace hO4 : OB w61 w5_4.heap.size 5 S4 m4 k4 (id4 l).2 := hO4
  have hm4 := hO4.len
  replace hb2 := hb2.fr hF4 (by first | assumption | exact Ne.symm (by assumption))
  replace hb5 := hb5.fr hF4 (by first | assumption | exact Ne.symm (by assumption))
  replace hE := Ext.over hE hF4 hgg
  refine Wl.val rfl rfl rfl (Gives.fieldAt 3 rfl Tryd.underlying26 rfl (by kernel_rfl) rfl rfl) ?_
  refine Wl.acts rfl rfl (Does.stC rfl rfl rfl hb5 (by kernel_rfl) (Nat.le_of_ble_eq_true rfl) rfl) ?_
  rintro _ w6_3 ⟨hbn, hF6_3⟩
  replace hb2 := hb2.fr hF6_3 (by first | assumption | exact Ne.symm (by assumption))
  replace hE := Ext.over hE hF6_3 hg5
  replace hb5 := hbn
  clear hbn
  (try simp only [List.setIfInBounds_toArray, List.set_cons_zero, List.set_cons_succ, Nat.reduceAdd, Nat.zero_add] at hb5)
  replace hR4 := hR4.fr hF6_3 (fun q hq => by omega)
  replace hO4 : OB w6_3 w5_4.heap.size 5 S4 m4 k4 (id4 l).2 := own_fr hO4 hF6_3 (fun q hq => by omega)
  refine Wl.nil ?_
  refine Wx.thenN (hK7 _ _ ?_)
  refine Wc.seq (fun K8 hK8 => ?_)
  refine Wc.seq (fun K9 hK9 => ?_)
  refine Wc.keep [(2, _), (4, _), (5, _)] (.cons rfl (.cons rfl (.cons rfl (.nil)))) ?_
  refine Wc.region ?_
  refine Wl.val rfl rfl rfl (Gives.move rfl rfl) ?_
  refine Wl.call rfl rfl rfl rfl Tryd.func56 rfl (by kernel_rfl) rfl (rEnd_x _ g _ A' n' c' _ hR4) ?_
  rintro x6 w71 ⟨rfl, hq7⟩
  refine ⟨_, rfl, ?_⟩
  replace hO4 := hO4.ext hq7.ext
  replace hb2 := hb2.ext hq7.ext
  replace hb5 := hb5.ext hq7.ext
  replace hE := hE.trans hq7.ext
  refine Wl.val rfl rfl rfl (Gives.neq rfl rfl rfl) ?_
  refine Wl.val rfl rfl rfl (Gives.move rfl rfl) ?_
  refine Wl.guard rfl rfl rfl (fun h24 => ?_) (fun h24 => ?_)
  · (first | replace h24 := of_decide_eq_false h24 | replace h24 := nd_false h24 | skip)
    refine Wl.val rfl rfl rfl (Gives.ldW rfl (by kernel_rfl) rfl hb5 (by kernel_rfl)) ?_
    refine Wl.call rfl rfl rfl rfl Tryd.func23 rfl (by kernel_rfl) rfl (checkP _ _ _ _ _ _ _ _ (hO4.bv (P := fun _ => True) fun _ _ => trivial)) ?_
    rintro x7 w75 ⟨rfl, hx75⟩
    refine ⟨_, rfl, ?_⟩
    replace hO4 := hO4.ext hx75
    replace hb2 := hb2.ext hx75
    replace hb5 := hb5.ext hx75
    replace hE := hE.trans hx75
    refine Wl.val rfl rfl rfl (Gives.neq rfl rfl rfl) ?_
    refine Wl.val rfl rfl rfl (Gives.pickF rfl rfl rfl rfl) ?_
    refine Wl.nil ?_
    refine Wx.thenN (hK9 _ _ ?_)
    refine Wc.cond _ rfl (fun h28 => ?_) (fun h28 => ?_)
    · (first | replace h28 := of_decide_eq_true h28 | replace h28 := nd_true h28 | skip)
      refine Wc.seq (fun K10 hK10 => ?_)
      refine Wc.keep [(2, _)] (.cons rfl (.nil)) ?_
      refine Wc.region ?_
      refine Wl.val rfl rfl rfl (Gives.buildS (pl := [(0, 1), (1, 1), (2, 1), (3, 1)]) (zv := (.agg #[(.int .i64 0), (.string ByteArray.empty), (.int .i64 0), (.slice none 0 0)])) rfl Tryd.underlying26 (by kernel_rfl) (by kernel_rfl) rfl rfl) ?_
      refine Wl.acts rfl rfl (Does.stL 4 rfl rfl rfl hb2 (by kernel_rfl) rfl rfl rfl) ?_
      rintro _ w8_1 ⟨hbn, hF8_1⟩
      replace hb5 := hb5.fr hF8_1 (by first | assumption | exact Ne.symm (by assumption))
      replace hE := Ext.over hE hF8_1 hg2
      replace hb2 := hbn
      clear hbn
      refine Wl.val rfl rfl rfl (Gives.assign rfl rfl) ?_
      refine Wl.nil ?_
      refine Wx.thenN (hK10 _ _ ?_)
      refine Wc.ret ?_
      refine Wx.thenR ?_
      refine Wx.ret [_, _] ⟨⟨_, rfl, res_blk hb2 Tryd.underlying26 rfl (by kernel_rfl)⟩, ⟨rfl, trivial⟩⟩ ?_
      exact DecR.no (dec_no fun h => h28 h.2) hE
    · (first | replace h28 := of_decide_eq_false h28 | replace h28 := nd_false h28 | skip)
      refine Wc.skip ?_
      refine Wx.thenN (hK8 _ _ ?_)
      refine Wc.seq (fun K11 hK11 => ?_)
      refine Wc.keep [(2, _), (5, _)] (.cons rfl (.cons rfl (.nil))) ?_
      refine Wc.region ?_
      refine Wl.val rfl rfl rfl (Gives.ldW rfl (by kernel_rfl) rfl hb5 (by kernel_rfl)) ?_
      refine Wl.acts rfl rfl (Does.stL 4 rfl rfl rfl hb2 (by kernel_rfl) rfl rfl rfl) ?_
      rintro _ w9_1 ⟨hbn, hF9_1⟩
      replace hb5 := hb5.fr hF9_1 (by first | assumption | exact Ne.symm (by assumption))
      replace hE := Ext.over hE hF9_1 hg2
      replace hb2 := hbn
      clear hbn
      replace hO4 : OB w9_1 w5_4.heap.size 5 S4 m4 k4 (id4 l).2 := own_fr hO4 hF9_1 (fun q hq => by omega)
      refine Wl.val rfl rfl rfl (Gives.assign rfl rfl) ?_
      refine Wl.nil ?_
      refine Wx.thenN (hK11 _ _ ?_)
      refine Wc.ret ?_
      refine Wx.ret [_, _] ⟨⟨_, rfl, res_blk hb2 Tryd.underlying26 rfl (by kernel_rfl)⟩, ⟨rfl, trivial⟩⟩ ?_
      exact DecR.yes (dec_yes (by omega) h28) (hO4.mono (by omega)) hE
  · (first | replace h24 := of_decide_eq_true h24 | replace h24 := nd_true h24 | skip)
    refine Wl.pass rfl rfl rfl ?_
    refine Wl.pass rfl rfl rfl ?_
    refine Wl.pass rfl rfl rfl ?_
    refine Wl.val rfl rfl rfl (Gives.pickT rfl rfl rfl rfl) ?_
    refine Wl.nil ?_
    refine Wx.thenN (hK9 _ _ ?_)
    refine Wc.condT rfl rfl ?_
    refine Wc.seq (fun K12 hK12 => ?_)
    refine Wc.keep [(2, _)] (.cons rfl (.nil)) ?_
    refine Wc.region ?_
    refine Wl.val rfl rfl rfl (Gives.buildS (pl := [(0, 1), (1, 1), (2, 1), (3, 1)]) (zv := (.agg #[(.int .i64 0), (.string ByteArray.empty), (.int .i64 0), (.slice none 0 0)])) rfl Tryd.underlying26 (by kernel_rfl) (by kernel_rfl) rfl rfl) ?_
    refine Wl.acts rfl rfl (Does.stL 4 rfl rfl rfl hb2 (by kernel_rfl) rfl rfl rfl) ?_
    rintro _ w8_1 ⟨hbn, hF8_1⟩
    replace hb5 := hb5.fr hF8_1 (by first | assumption | exact Ne.symm (by assumption))
    replace hE := Ext.over hE hF8_1 hg2
    replace hb2 := hbn
    clear hbn
    refine Wl.val rfl rfl rfl (Gives.assign rfl rfl) ?_
    refine Wl.nil ?_
    refine Wx.thenN (hK12 _ _ ?_)
    refine Wc.ret ?_
    refine Wx.thenR ?_
    refine Wx.ret [_, _] ⟨⟨_, rfl, res_blk hb2 Tryd.underlying26 rfl (by kernel_rfl)⟩, ⟨rfl, trivial⟩⟩ ?_
    exact DecR.no (dec_no fun h => h24 h.1) hE
set_option maxRecDepth 20000 in
set_option maxHeartbeats 2000000 in
theorem decR {P : Nat → Prop} (w : World) (A : Option Addr) (n c : Nat) (l : List UInt8) (ha : BV w P A n c l) (hn : n ≤ 1000000) :
    Calls Tryd.prog 30 #[.slice A n c] w (DecR w (decI l) (decE l)) := by
  have hl := ha.len
  have hle4 := id4_le l
  refine calls_enter Tryd.func30 rfl Tryd.ntmps30 rfl ?_
  have hE : Ext w w := Ext.refl w
  refine Wc.seq (fun K1 hK1 => ?_)
  refine Wc.keep [(0, _)] (.cons rfl (.nil)) ?_
  refine Wc.region ?_
  refine Wl.does rfl rfl rfl (Does.alB (.agg #[(.int .i64 0), (.string ByteArray.empty), (.int .i64 0), (.slice none 0 0)]) rfl (by kernel_rfl) rfl) ?_
  rintro _ w0_0 ⟨b2, rfl, hs2, hb2, hx0_0⟩
  have hg2 : w.heap.size ≤ b2 := Nat.le_trans hE.size hs2
  replace hE := hE.trans hx0_0
  refine Wl.val rfl rfl rfl (Gives.assign rfl rfl) ?_
  refine Wl.nil ?_
  refine Wx.thenN (hK1 _ _ ?_)
  refine Wc.seq (fun K2 hK2 => ?_)
  refine Wc.keep [(0, _), (2, _)] (.cons rfl (.cons rfl (.nil))) ?_
  refine Wc.region ?_
  refine Wl.val rfl rfl rfl (Gives.move rfl rfl) ?_
  refine Wl.call rfl rfl rfl rfl Tryd.func59 rfl (by kernel_rfl) rfl ((newR_rd _ _ _ _ l (ha.ext hE) (by omega)).mono fun _ _ h => NewRd.x h) ?_
  rintro x1 w11 ⟨g, A', n', c', rfl, hg, hR, hx1⟩
  refine ⟨_, rfl, ?_⟩
  have hgg : w.heap.size ≤ g := Nat.le_trans hE.size hg
  have hn2g : b2 ≠ g := by { have := hb2.lt; omega }
  generalize hN : w11.heap.size = N at *
  have hgN : g < N := hR.lt
  replace hb2 := hb2.ext hx1
  replace hE := hE.trans hx1
  refine Wl.val rfl rfl rfl (Gives.assign rfl rfl) ?_
  refine Wl.nil ?_
  refine Wx.thenN (hK2 _ _ ?_)
  refine Wc.seq (fun K3 hK3 => ?_)
  refine Wc.keep [(2, _), (4, _)] (.cons rfl (.cons rfl (.nil))) ?_
  refine Wc.region ?_
  refine Wl.does rfl rfl rfl (Does.alB (.agg #[(.int .i64 0), (.string ByteArray.empty), (.int .i64 0), (.slice none 0 0)]) rfl (by kernel_rfl) rfl) ?_
  rintro _ w2_0 ⟨b5, rfl, hs5, hb5, hx2_0⟩
  have hn2_5 : b2 ≠ b5 := hb2.ne hs5
  have hg5 : w.heap.size ≤ b5 := Nat.le_trans hE.size hs5
  replace hb2 := hb2.ext hx2_0
  replace hE := hE.trans hx2_0
  replace hR := hR.ext hx2_0
  have hn5g : b5 ≠ g := by omega
  have hN5 : N ≤ b5 := by omega
  have hzw := hE.size
  refine Wl.nil ?_
  refine Wx.thenN (hK3 _ _ ?_)
  refine Wc.seq (fun K4 hK4 => ?_)
  refine Wc.keep [(2, _), (4, _), (5, _)] (.cons rfl (.cons rfl (.cons rfl (.nil)))) ?_
  refine Wc.region ?_
  refine Wl.val rfl rfl rfl (Gives.move rfl rfl) ?_
  refine Wl.call rfl rfl rfl rfl Tryd.func60 rfl (by kernel_rfl) rfl ((sUint_x _ g _ A' n' c' _ 1 hR).mono (R' := UintX 100 _ g N A' n' c' (id1 l)) fun _ _ h => h) ?_
  rintro x2 w31 ⟨rfl, hR1, hF1⟩
  refine ⟨_, rfl, ?_⟩
  replace hR1 : RDX 100 w31 g N A' n' c' (id1 l).1 := hR1
  replace hb2 := hb2.fr hF1 (by first | assumption | exact Ne.symm (by assumption))
  replace hb5 := hb5.fr hF1 (by first | assumption | exact Ne.symm (by assumption))
  replace hE := Ext.over hE hF1 hgg
  refine Wl.val rfl rfl rfl (Gives.fieldAt 0 rfl Tryd.underlying26 rfl (by kernel_rfl) rfl rfl) ?_
  refine Wl.acts rfl rfl (Does.stC rfl rfl rfl hb5 (by kernel_rfl) (Nat.le_of_ble_eq_true rfl) rfl) ?_
  rintro _ w3_3 ⟨hbn, hF3_3⟩
  replace hb2 := hb2.fr hF3_3 (by first | assumption | exact Ne.symm (by assumption))
  replace hE := Ext.over hE hF3_3 hg5
  replace hb5 := hbn
  clear hbn
  (try simp only [List.setIfInBounds_toArray, List.set_cons_zero, List.set_cons_succ, Nat.reduceAdd, Nat.zero_add] at hb5)
  replace hR1 := hR1.fr hF3_3 (fun q hq => by omega)
  refine Wl.nil ?_
  refine Wx.thenN (hK4 _ _ ?_)
  refine Wc.seq (fun K5 hK5 => ?_)
  refine Wc.keep [(2, _), (4, _), (5, _)] (.cons rfl (.cons rfl (.cons rfl (.nil)))) ?_
  refine Wc.region ?_
  refine Wl.val rfl rfl rfl (Gives.move rfl rfl) ?_
  refine Wl.call rfl rfl rfl rfl Tryd.func60 rfl (by kernel_rfl) rfl ((sUint_x _ g _ A' n' c' _ 4 hR1).mono (R' := UintX 100 _ g N A' n' c' (id2 l)) fun _ _ h => h) ?_
  rintro x3 w41 ⟨rfl, hR2, hF2⟩
  refine ⟨_, rfl, ?_⟩
  replace hR2 : RDX 100 w41 g N A' n' c' (id2 l).1 := hR2
  replace hb2 := hb2.fr hF2 (by first | assumption | exact Ne.symm (by assumption))
  replace hb5 := hb5.fr hF2 (by first | assumption | exact Ne.symm (by assumption))
  replace hE := Ext.over hE hF2 hgg
  refine Wl.val rfl rfl rfl (Gives.fieldAt 2 rfl Tryd.underlying26 rfl (by kernel_rfl) rfl rfl) ?_
  refine Wl.acts rfl rfl (Does.stC rfl rfl rfl hb5 (by kernel_rfl) (Nat.le_of_ble_eq_true rfl) rfl) ?_
  rintro _ w4_3 ⟨hbn, hF4_3⟩
  replace hb2 := hb2.fr hF4_3 (by first | assumption | exact Ne.symm (by assumption))
  replace hE := Ext.over hE hF4_3 hg5
  replace hb5 := hbn
  clear hbn
  (try simp only [List.setIfInBounds_toArray, List.set_cons_zero, List.set_cons_succ, Nat.reduceAdd, Nat.zero_add] at hb5)
  replace hR2 := hR2.fr hF4_3 (fun q hq => by omega)
  refine Wl.nil ?_
  refine Wx.thenN (hK5 _ _ ?_)
  refine Wc.seq (fun K6 hK6 => ?_)
  refine Wc.keep [(2, _), (4, _), (5, _)] (.cons rfl (.cons rfl (.cons rfl (.nil)))) ?_
  refine Wc.region ?_
  refine Wl.val rfl rfl rfl (Gives.move rfl rfl) ?_
  refine Wl.call rfl rfl rfl rfl Tryd.func61 rfl (by kernel_rfl) rfl (sBlob_x _ g _ A' n' c' _ 12 hR2) ?_
  rintro x4 w51 ⟨S3, m3, k3, rfl, hO3, hR3, hF3⟩
  refine ⟨_, rfl, ?_⟩
  replace hR3 : RDX 100 w51 g N A' n' c' (id3 l).1 := hR3
  replace hO3 : OB w51 _ 5 S3 m3 k3 (id3 l).2 := hO3
  replace hb2 := hb2.fr hF3 (by first | assumption | exact Ne.symm (by assumption))
  replace hb5 := hb5.fr hF3 (by first | assumption | exact Ne.symm (by assumption))
  replace hE := Ext.over hE hF3 hgg
  refine Wl.val rfl rfl rfl (Gives.toStr rfl Tryd.underlying22 Tryd.underlying5 Tryd.underlying9 rfl (hO3.bv (P := fun _ => True) fun _ _ => trivial)) ?_
  refine Wl.val rfl rfl rfl (Gives.fieldAt 1 rfl Tryd.underlying26 rfl (by kernel_rfl) rfl rfl) ?_
  refine Wl.acts rfl rfl (Does.stC rfl rfl rfl hb5 (by kernel_rfl) (Nat.le_of_ble_eq_true rfl) rfl) ?_
  rintro _ w5_4 ⟨hbn, hF5_4⟩
  replace hb2 := hb2.fr hF5_4 (by first | assumption | exact Ne.symm (by assumption))
  replace hE := Ext.over hE hF5_4 hg5
  replace hb5 := hbn
  clear hbn
  (try simp only [List.setIfInBounds_toArray, List.set_cons_zero, List.set_cons_succ, Nat.reduceAdd, Nat.zero_add] at hb5)
  replace hR3 := hR3.fr hF5_4 (fun q hq => by omega)
  have hz54 := hb5.lt
  have hzE5 := hE.size
  have hz542 := hb2.lt
  refine Wl.nil ?_
  refine Wx.thenN (hK6 _ _ ?_)
  refine Wc.seq (fun K7 hK7 => ?_)
  refine Wc.keep [(2, _), (4, _), (5, _)] (.cons rfl (.cons rfl (.cons rfl (.nil)))) ?_
  refine Wc.region ?_
  refine Wl.val rfl rfl rfl (Gives.move rfl rfl) ?_
  refine Wl.call rfl rfl rfl rfl Tryd.func61 rfl (by kernel_rfl) rfl (sBlob_x _ g _ A' n' c' _ 64 hR3) ?_
  rintro x5 w61 ⟨S4, m4, k4, rfl, hO4, hR4, hF4⟩
  refine ⟨_, rfl, ?_⟩
  replace hR4 : RDX 100 w61 g N A' n' c' (id4 l).1 := hR4
  replace hO4 : OB w61 w5_4.heap.size 5 S4 m4 k4 (id4 l).2 := hO4
  have hm4 := hO4.len
  replace hb2 := hb2.fr hF4 (by first | assumption | exact Ne.symm (by assumption))
  replace hb5 := hb5.fr hF4 (by first | assumption | exact Ne.symm (by assumption))
  replace hE := Ext.over hE hF4 hgg
  refine Wl.val rfl rfl rfl (Gives.fieldAt 3 rfl Tryd.underlying26 rfl (by kernel_rfl) rfl rfl) ?_
  refine Wl.acts rfl rfl (Does.stC rfl rfl rfl hb5 (by kernel_rfl) (Nat.le_of_ble_eq_true rfl) rfl) ?_
  rintro _ w6_3 ⟨hbn, hF6_3⟩
  replace hb2 := hb2.fr hF6_3 (by first | assumption | exact Ne.symm (by assumption))
  replace hE := Ext.over hE hF6_3 hg5
  replace hb5 := hbn
  clear hbn
  (try simp only [List.setIfInBounds_toArray, List.set_cons_zero, List.set_cons_succ, Nat.reduceAdd, Nat.zero_add] at hb5)
  replace hR4 := hR4.fr hF6_3 (fun q hq => by omega)
  replace hO4 : OB w6_3 w5_4.heap.size 5 S4 m4 k4 (id4 l).2 := own_fr hO4 hF6_3 (fun q hq => by omega)
  refine Wl.nil ?_
  refine Wx.thenN (hK7 _ _ ?_)
  refine Wc.seq (fun K8 hK8 => ?_)
  refine Wc.seq (fun K9 hK9 => ?_)
  refine Wc.keep [(2, _), (4, _), (5, _)] (.cons rfl (.cons rfl (.cons rfl (.nil)))) ?_
  refine Wc.region ?_
  refine Wl.val rfl rfl rfl (Gives.move rfl rfl) ?_
  refine Wl.call rfl rfl rfl rfl Tryd.func62 rfl (by kernel_rfl) rfl (sEnd_x _ g _ A' n' c' _ hR4) ?_
  rintro x6 w71 ⟨rfl, hq7⟩
  refine ⟨_, rfl, ?_⟩
  replace hO4 := hO4.ext hq7.ext
  replace hb2 := hb2.ext hq7.ext
  replace hb5 := hb5.ext hq7.ext
  replace hE := hE.trans hq7.ext
  refine Wl.val rfl rfl rfl (Gives.neq rfl rfl rfl) ?_
  refine Wl.val rfl rfl rfl (Gives.move rfl rfl) ?_
  refine Wl.guard rfl rfl rfl (fun h24 => ?_) (fun h24 => ?_)
  · (first | replace h24 := of_decide_eq_false h24 | replace h24 := nd_false h24 | skip)
    refine Wl.val rfl rfl rfl (Gives.ldW rfl (by kernel_rfl) rfl hb5 (by kernel_rfl)) ?_
    refine Wl.call rfl rfl rfl rfl Tryd.func24 rfl (by kernel_rfl) rfl (checkR _ _ _ _ _ _ _ _ (hO4.bv (P := fun _ => True) fun _ _ => trivial) (by omega)) ?_
    rintro x7 w75 ⟨rfl, hx75⟩
    refine ⟨_, rfl, ?_⟩
    replace hO4 := hO4.ext hx75
    replace hb2 := hb2.ext hx75
    replace hb5 := hb5.ext hx75
    replace hE := hE.trans hx75
    refine Wl.val rfl rfl rfl (Gives.neq rfl rfl rfl) ?_
    refine Wl.val rfl rfl rfl (Gives.pickF rfl rfl rfl rfl) ?_
    refine Wl.nil ?_
    refine Wx.thenN (hK9 _ _ ?_)
    refine Wc.cond _ rfl (fun h28 => ?_) (fun h28 => ?_)
    · (first | replace h28 := of_decide_eq_true h28 | replace h28 := nd_true h28 | skip)
      refine Wc.seq (fun K10 hK10 => ?_)
      refine Wc.keep [(2, _)] (.cons rfl (.nil)) ?_
      refine Wc.region ?_
      refine Wl.val rfl rfl rfl (Gives.buildS (pl := [(0, 1), (1, 1), (2, 1), (3, 1)]) (zv := (.agg #[(.int .i64 0), (.string ByteArray.empty), (.int .i64 0), (.slice none 0 0)])) rfl Tryd.underlying26 (by kernel_rfl) (by kernel_rfl) rfl rfl) ?_
      refine Wl.acts rfl rfl (Does.stL 4 rfl rfl rfl hb2 (by kernel_rfl) rfl rfl rfl) ?_
      rintro _ w8_1 ⟨hbn, hF8_1⟩
      replace hb5 := hb5.fr hF8_1 (by first | assumption | exact Ne.symm (by assumption))
      replace hE := Ext.over hE hF8_1 hg2
      replace hb2 := hbn
      clear hbn
      refine Wl.val rfl rfl rfl (Gives.assign rfl rfl) ?_
      refine Wl.nil ?_
      refine Wx.thenN (hK10 _ _ ?_)
      refine Wc.ret ?_
      refine Wx.thenR ?_
      refine Wx.ret [_, _] ⟨⟨_, rfl, res_blk hb2 Tryd.underlying26 rfl (by kernel_rfl)⟩, ⟨rfl, trivial⟩⟩ ?_
      exact DecR.no (dec_no fun h => h28 h.2) hE
    · (first | replace h28 := of_decide_eq_false h28 | replace h28 := nd_false h28 | skip)
      refine Wc.skip ?_
      refine Wx.thenN (hK8 _ _ ?_)
      refine Wc.seq (fun K11 hK11 => ?_)
      refine Wc.keep [(2, _), (5, _)] (.cons rfl (.cons rfl (.nil))) ?_
      refine Wc.region ?_
      refine Wl.val rfl rfl rfl (Gives.ldW rfl (by kernel_rfl) rfl hb5 (by kernel_rfl)) ?_
      refine Wl.acts rfl rfl (Does.stL 4 rfl rfl rfl hb2 (by kernel_rfl) rfl rfl rfl) ?_
      rintro _ w9_1 ⟨hbn, hF9_1⟩
      replace hb5 := hb5.fr hF9_1 (by first | assumption | exact Ne.symm (by assumption))
      replace hE := Ext.over hE hF9_1 hg2
      replace hb2 := hbn
      clear hbn
      replace hO4 : OB w9_1 w5_4.heap.size 5 S4 m4 k4 (id4 l).2 := own_fr hO4 hF9_1 (fun q hq => by omega)
      refine Wl.val rfl rfl rfl (Gives.assign rfl rfl) ?_
      refine Wl.nil ?_
      refine Wx.thenN (hK11 _ _ ?_)
      refine Wc.ret ?_
      refine Wx.ret [_, _] ⟨⟨_, rfl, res_blk hb2 Tryd.underlying26 rfl (by kernel_rfl)⟩, ⟨rfl, trivial⟩⟩ ?_
      exact DecR.yes (dec_yes (by omega) h28) (hO4.mono (by omega)) hE
  · (first | replace h24 := of_decide_eq_true h24 | replace h24 := nd_true h24 | skip)
    refine Wl.pass rfl rfl rfl ?_
    refine Wl.pass rfl rfl rfl ?_
    refine Wl.pass rfl rfl rfl ?_
    refine Wl.val rfl rfl rfl (Gives.pickT rfl rfl rfl rfl) ?_
    refine Wl.nil ?_
    refine Wx.thenN (hK9 _ _ ?_)
    refine Wc.condT rfl rfl ?_
    refine Wc.seq (fun K12 hK12 => ?_)
    refine Wc.keep [(2, _)] (.cons rfl (.nil)) ?_
    refine Wc.region ?_
    refine Wl.val rfl rfl rfl (Gives.buildS (pl := [(0, 1), (1, 1), (2, 1), (3, 1)]) (zv := (.agg #[(.int .i64 0), (.string ByteArray.empty), (.int .i64 0), (.slice none 0 0)])) rfl Tryd.underlying26 (by kernel_rfl) (by kernel_rfl) rfl rfl) ?_
    refine Wl.acts rfl rfl (Does.stL 4 rfl rfl rfl hb2 (by kernel_rfl) rfl rfl rfl) ?_
    rintro _ w8_1 ⟨hbn, hF8_1⟩
    replace hb5 := hb5.fr hF8_1 (by first | assumption | exact Ne.symm (by assumption))
    replace hE := Ext.over hE hF8_1 hg2
    replace hb2 := hbn
    clear hbn
    refine Wl.val rfl rfl rfl (Gives.assign rfl rfl) ?_
    refine Wl.nil ?_
    refine Wx.thenN (hK12 _ _ ?_)
    refine Wc.ret ?_
    refine Wx.thenR ?_
    refine Wx.ret [_, _] ⟨⟨_, rfl, res_blk hb2 Tryd.underlying26 rfl (by kernel_rfl)⟩, ⟨rfl, trivial⟩⟩ ?_
    exact DecR.no (dec_no fun h => h24 h.1) hE
/-! registers -/
def measV : List Value := [.int .i64 (-1), .int .i64 0, .int .i64 4, .int .i64 8, .int .i64 9]
def TabM (w : World) : Prop := GV w 0 measV
theorem TabM.ext {w w' : World} (h : TabM w) (e : Ext w w') : TabM w' := GV.ext h e
theorem meas_at {k : Nat} (h : k < 5) : measV[k]? = some (.int .i64 (regS k)) := by
  match k, h with
  | 0, _ => rfl
  | 1, _ => rfl
  | 2, _ => rfl
  | 3, _ => rfl
  | 4, _ => rfl
theorem reg_no {r : Int} (h : r < 0 ∨ 5 ≤ r) : regS r = -1 := by
  unfold regS
  rw [if_neg (by omega), if_neg (by omega), if_neg (by omega), if_neg (by omega)]
theorem regP (w : World) (hM : TabM w) (r : Int) : Calls Tryd.prog 33 #[.int .i64 r] w fun e w' => e = .returned (.int .i64 (regS r)) ∧ w = w' := by
  refine calls_enter Tryd.func33 rfl Tryd.ntmps33 rfl ?_
  refine Wc.seq (fun K1 hK1 => ?_)
  refine Wc.keep [(0, _)] (.cons rfl (.nil)) ?_
  refine Wc.region ?_
  refine Wl.val rfl rfl rfl (Gives.assign rfl rfl) ?_
  refine Wl.nil ?_
  refine Wx.thenN (hK1 _ _ ?_)
  refine Wc.seq (fun K2 hK2 => ?_)
  refine Wc.seq (fun K3 hK3 => ?_)
  refine Wc.keep [(0, _)] (.cons rfl (.nil)) ?_
  refine Wc.region ?_
  refine Wl.val rfl rfl rfl (Gives.move rfl rfl) ?_
  refine Wl.val rfl rfl rfl (Gives.lss rfl rfl rfl) ?_
  refine Wl.val rfl rfl rfl (Gives.move rfl rfl) ?_
  refine Wl.guard rfl rfl rfl (fun h5 => ?_) (fun h5 => ?_)
  · (first | replace h5 := of_decide_eq_false h5 | replace h5 := nd_false h5 | skip)
    refine Wl.val rfl rfl rfl (Gives.move rfl rfl) ?_
    refine Wl.val rfl rfl rfl (Gives.geq rfl rfl rfl) ?_
    refine Wl.val rfl rfl rfl (Gives.pickF rfl rfl rfl rfl) ?_
    refine Wl.nil ?_
    refine Wx.thenN (hK3 _ _ ?_)
    refine Wc.cond _ rfl (fun h8 => ?_) (fun h8 => ?_)
    · (first | replace h8 := of_decide_eq_true h8 | replace h8 := nd_true h8 | skip)
      refine Wc.seq (fun K4 hK4 => ?_)
      refine Wc.keep [] (.nil) ?_
      refine Wc.region ?_
      refine Wl.val rfl rfl rfl (Gives.assign rfl rfl) ?_
      refine Wl.nil ?_
      refine Wx.thenN (hK4 _ _ ?_)
      refine Wc.ret ?_
      refine Wx.thenR ?_
      refine Wx.ret [_] ⟨rfl, trivial⟩ ?_
      first | exact ⟨by rw [reg_no (by omega)]; rfl, rfl⟩ | exact ⟨rfl, rfl⟩
    · (first | replace h8 := of_decide_eq_false h8 | replace h8 := nd_false h8 | skip)
      refine Wc.skip ?_
      refine Wx.thenN (hK2 _ _ ?_)
      refine Wc.seq (fun K5 hK5 => ?_)
      refine Wc.keep [(0, _)] (.cons rfl (.nil)) ?_
      obtain ⟨k, rfl⟩ := Int.eq_ofNat_of_zero_le (show 0 ≤ r by omega)
      refine Wc.region ?_
      refine Wl.val rfl rfl rfl (Gives.move rfl rfl) ?_
      refine Wl.val rfl rfl rfl (Gives.ixA (i := k) rfl Tryd.underlying79 (by kernel_rfl) rfl rfl (by omega) (by omega)) ?_
      refine Wl.val rfl rfl rfl (Gives.ldC rfl (by kernel_rfl) rfl (GV.cell0 hM (meas_at (k := k) (by omega)))) ?_
      refine Wl.val rfl rfl rfl (Gives.assign rfl rfl) ?_
      refine Wl.nil ?_
      refine Wx.thenN (hK5 _ _ ?_)
      refine Wc.ret ?_
      refine Wx.ret [_] ⟨rfl, trivial⟩ ?_
      first | exact ⟨by rw [reg_no (by omega)]; rfl, rfl⟩ | exact ⟨rfl, rfl⟩
  · (first | replace h5 := of_decide_eq_true h5 | replace h5 := nd_true h5 | skip)
    refine Wl.pass rfl rfl rfl ?_
    refine Wl.pass rfl rfl rfl ?_
    refine Wl.val rfl rfl rfl (Gives.pickT rfl rfl rfl rfl) ?_
    refine Wl.nil ?_
    refine Wx.thenN (hK3 _ _ ?_)
    refine Wc.condT rfl rfl ?_
    refine Wc.seq (fun K6 hK6 => ?_)
    refine Wc.keep [] (.nil) ?_
    refine Wc.region ?_
    refine Wl.val rfl rfl rfl (Gives.assign rfl rfl) ?_
    refine Wl.nil ?_
    refine Wx.thenN (hK6 _ _ ?_)
    refine Wc.ret ?_
    refine Wx.thenR ?_
    refine Wx.ret [_] ⟨rfl, trivial⟩ ?_
    first | exact ⟨by rw [reg_no (by omega)]; rfl, rfl⟩ | exact ⟨rfl, rfl⟩
theorem regR (w : World) (r : Int) : Calls Tryd.prog 34 #[.int .i64 r] w fun e w' => e = .returned (.int .i64 (regS r)) ∧ w = w' := by
  refine calls_enter Tryd.func34 rfl Tryd.ntmps34 rfl ?_
  refine Wc.seq (fun K1 hK1 => ?_)
  refine Wc.keep [(0, _)] (.cons rfl (.nil)) ?_
  refine Wc.region ?_
  refine Wl.val rfl rfl rfl (Gives.assign rfl rfl) ?_
  refine Wl.nil ?_
  refine Wx.thenN (hK1 _ _ ?_)
  refine Wc.seq (fun K2 hK2 => ?_)
  refine Wc.seq (fun K3 hK3 => ?_)
  refine Wc.keep [(0, _)] (.cons rfl (.nil)) ?_
  refine Wc.region ?_
  refine Wl.val rfl rfl rfl (Gives.move rfl rfl) ?_
  refine Wl.nil ?_
  refine Wx.thenN (hK3 _ _ ?_)
  refine Wc.block ?_
  refine Wc.seq (fun K4 hK4 => ?_)
  refine Wc.keep [(3, _)] (.cons rfl (.nil)) ?_
  refine Wc.region ?_
  refine Wl.val rfl rfl rfl (Gives.eql rfl rfl rfl) ?_
  refine Wl.val rfl rfl rfl (Gives.assign rfl rfl) ?_
  refine Wl.nil ?_
  refine Wx.thenN (hK4 _ _ ?_)
  refine Wc.cond _ rfl (fun h4 => ?_) (fun h4 => ?_)
  · (first | replace h4 := of_decide_eq_true h4 | replace h4 := nd_true h4 | skip)
    refine Wc.seq (fun K5 hK5 => ?_)
    refine Wc.keep [] (.nil) ?_
    refine Wc.region ?_
    refine Wl.val rfl rfl rfl (Gives.assign rfl rfl) ?_
    refine Wl.nil ?_
    refine Wx.thenN (hK5 _ _ ?_)
    refine Wc.ret ?_
    refine Wx.blockR ?_
    refine Wx.thenR ?_
    refine Wx.ret [_] ⟨rfl, trivial⟩ ?_
    refine ⟨?_, rfl⟩
    have : regS r = _ := rfl
    simp_all [regS, resV]
  · (first | replace h4 := of_decide_eq_false h4 | replace h4 := nd_false h4 | skip)
    refine Wc.seq (fun K6 hK6 => ?_)
    refine Wc.keep [(3, _)] (.cons rfl (.nil)) ?_
    refine Wc.region ?_
    refine Wl.val rfl rfl rfl (Gives.eql rfl rfl rfl) ?_
    refine Wl.val rfl rfl rfl (Gives.assign rfl rfl) ?_
    refine Wl.nil ?_
    refine Wx.thenN (hK6 _ _ ?_)
    refine Wc.cond _ rfl (fun h6 => ?_) (fun h6 => ?_)
    · (first | replace h6 := of_decide_eq_true h6 | replace h6 := nd_true h6 | skip)
      refine Wc.seq (fun K7 hK7 => ?_)
      refine Wc.keep [] (.nil) ?_
      refine Wc.region ?_
      refine Wl.val rfl rfl rfl (Gives.assign rfl rfl) ?_
      refine Wl.nil ?_
      refine Wx.thenN (hK7 _ _ ?_)
      refine Wc.ret ?_
      refine Wx.blockR ?_
      refine Wx.thenR ?_
      refine Wx.ret [_] ⟨rfl, trivial⟩ ?_
      refine ⟨?_, rfl⟩
      have : regS r = _ := rfl
      simp_all [regS, resV]
    · (first | replace h6 := of_decide_eq_false h6 | replace h6 := nd_false h6 | skip)
      refine Wc.seq (fun K8 hK8 => ?_)
      refine Wc.keep [(3, _)] (.cons rfl (.nil)) ?_
      refine Wc.region ?_
      refine Wl.val rfl rfl rfl (Gives.eql rfl rfl rfl) ?_
      refine Wl.val rfl rfl rfl (Gives.assign rfl rfl) ?_
      refine Wl.nil ?_
      refine Wx.thenN (hK8 _ _ ?_)
      refine Wc.cond _ rfl (fun h8 => ?_) (fun h8 => ?_)
      · (first | replace h8 := of_decide_eq_true h8 | replace h8 := nd_true h8 | skip)
        refine Wc.seq (fun K9 hK9 => ?_)
        refine Wc.keep [] (.nil) ?_
        refine Wc.region ?_
        refine Wl.val rfl rfl rfl (Gives.assign rfl rfl) ?_
        refine Wl.nil ?_
        refine Wx.thenN (hK9 _ _ ?_)
        refine Wc.ret ?_
        refine Wx.blockR ?_
        refine Wx.thenR ?_
        refine Wx.ret [_] ⟨rfl, trivial⟩ ?_
        refine ⟨?_, rfl⟩
        have : regS r = _ := rfl
        simp_all [regS, resV]
      · (first | replace h8 := of_decide_eq_false h8 | replace h8 := nd_false h8 | skip)
        refine Wc.seq (fun K10 hK10 => ?_)
        refine Wc.keep [(3, _)] (.cons rfl (.nil)) ?_
        refine Wc.region ?_
        refine Wl.val rfl rfl rfl (Gives.eql rfl rfl rfl) ?_
        refine Wl.val rfl rfl rfl (Gives.assign rfl rfl) ?_
        refine Wl.nil ?_
        refine Wx.thenN (hK10 _ _ ?_)
        refine Wc.cond _ rfl (fun h10 => ?_) (fun h10 => ?_)
        · (first | replace h10 := of_decide_eq_true h10 | replace h10 := nd_true h10 | skip)
          refine Wc.seq (fun K11 hK11 => ?_)
          refine Wc.keep [] (.nil) ?_
          refine Wc.region ?_
          refine Wl.val rfl rfl rfl (Gives.assign rfl rfl) ?_
          refine Wl.nil ?_
          refine Wx.thenN (hK11 _ _ ?_)
          refine Wc.ret ?_
          refine Wx.blockR ?_
          refine Wx.thenR ?_
          refine Wx.ret [_] ⟨rfl, trivial⟩ ?_
          refine ⟨?_, rfl⟩
          have : regS r = _ := rfl
          simp_all [regS, resV]
        · (first | replace h10 := of_decide_eq_false h10 | replace h10 := nd_false h10 | skip)
          refine Wc.skip ?_
          refine Wx.blockN ?_
          refine Wx.thenN (hK2 _ _ ?_)
          refine Wc.seq (fun K12 hK12 => ?_)
          refine Wc.keep [] (.nil) ?_
          refine Wc.region ?_
          refine Wl.val rfl rfl rfl (Gives.assign rfl rfl) ?_
          refine Wl.nil ?_
          refine Wx.thenN (hK12 _ _ ?_)
          refine Wc.ret ?_
          refine Wx.ret [_] ⟨rfl, trivial⟩ ?_
          refine ⟨?_, rfl⟩
          have : regS r = _ := rfl
          simp_all [regS, resV]
end Go.Proofs.YteppchoeiflnhaaDoor
