/- Responses: reading, the reference. -/
import Derived.Test.YtaekpiejdgahfaaDoorCmdR3
namespace Go.Proofs.YtaekpiejdgahfaaDoor
set_option linter.all false
open Go.RowKit
theorem blob_step {r : Rd} {i : Nat} {n : Int} (hn : (rdUint r 1).2 = n) (h : (blobU (rdUint r 1).1 1024 i).1.e ≠ 0) (hi : i ≤ n.toNat) : (listU r).1 = (blobU (rdUint r 1).1 1024 i).1 := by
  unfold listU
  rw [hn]
  exact blobU_stop _ hi h
theorem listU_e {r : Rd} (h : (listU r).1.e = 0) : r.e = 0 := by
  rcases Decidable.em (r.e = 0) with h0 | h0
  · exact h0
  · rw [listU_stuck h0] at h; exact h
set_option maxHeartbeats 4000000 in
set_option maxRecDepth 10000 in
theorem decRespR_calls {P : Nat → Prop} (w : World) (A : Option Addr) (n c : Nat) (l : List UInt8) (ha : BV w P A n c l) (hn : n ≤ 1000000) :
    Calls Tryd.prog 27 #[.slice A n c] w (RspR w (rspQ l) (rspE l)) := by
  have hl := ha.len
  refine calls_enter Tryd.func27 rfl Tryd.ntmps27 rfl ?_
  have hE : Ext w w := Ext.refl w
  refine Wc.seq (fun K1 hK1 => ?_)
  refine Wc.keep [(0, _)] (.cons rfl (.nil)) ?_
  refine Wc.region ?_
  refine Wl.does rfl rfl rfl (Does.alB (.agg #[(.int .i64 0), (.slice none 0 0), (.slice none 0 0), (.slice none 0 0)]) rfl (by kernel_rfl) rfl) ?_
  rintro _ w0_0 ⟨b2, rfl, hs2, hb2, hx0_0⟩
  have hg2 : w.heap.size ≤ b2 := Nat.le_trans hE.size hs2
  replace hE := hE.trans hx0_0
  refine Wl.val rfl rfl rfl (Gives.assign rfl rfl) ?_
  refine Wl.nil ?_
  refine Wx.thenN (hK1 _ _ ?_)
  refine Wc.seq (fun K2 hK2 => ?_)
  refine Wc.keep [(0, _), (2, _)] (.cons rfl (.cons rfl (.nil))) ?_
  refine Wc.region ?_
  refine Wl.val rfl rfl rfl (Gives.move rfl rfl) ?_
  refine Wl.call rfl rfl rfl rfl Tryd.func47 rfl (by kernel_rfl) rfl ((newR_rd _ _ _ _ l (ha.ext hE) (by omega)).mono fun _ _ h => NewRd.x h) ?_
  rintro x3 w13 ⟨g, A', n', c', rfl, hg, hR, hx3⟩
  refine ⟨_, rfl, ?_⟩
  have hgg : w.heap.size ≤ g := Nat.le_trans hE.size hg
  have hn2g : b2 ≠ g := hb2.ne hg
  have h2g : b2 < g := Nat.lt_of_lt_of_le hb2.lt hg
  replace hb2 := hb2.ext hx3
  replace hE := hE.trans hx3
  generalize hNr : w13.heap.size = N0 at hR
  refine Wl.val rfl rfl rfl (Gives.assign rfl rfl) ?_
  refine Wl.nil ?_
  refine Wx.thenN (hK2 _ _ ?_)
  refine Wc.seq (fun K3 hK3 => ?_)
  refine Wc.keep [(2, _), (4, _)] (.cons rfl (.cons rfl (.nil))) ?_
  refine Wc.region ?_
  refine Wl.val rfl rfl rfl (Gives.move rfl rfl) ?_
  refine Wl.call rfl rfl rfl rfl Tryd.func49 rfl (by kernel_rfl) rfl (sUint_x _ g N0 A' n' c' _ 1 hR) ?_
  rintro x4 w21 ⟨rfl, hR1, hF1⟩
  refine ⟨_, rfl, ?_⟩
  change RDX _ _ _ _ _ _ _ (rs1 l).1 at hR1
  replace hb2 := hb2.fr hF1 (by first | assumption | exact Ne.symm (by assumption))
  replace hE := Ext.over hE hF1 hgg
  have hcd : (rdUint ⟨l, 0, 0⟩ 1).2 = (rs1 l).2 := rfl
  rw [hcd]
  generalize he0 : (rs1 l).2 = e0 at *
  have hN0 : N0 ≤ w21.heap.size := by have := hF1.size; omega
  refine Wl.val rfl rfl rfl (Gives.buildS (pl := [(0, 1), (1, 1), (2, 1), (3, 1)]) (zv := (.agg #[(.int .i64 0), (.slice none 0 0), (.slice none 0 0), (.slice none 0 0)])) rfl Tryd.underlying54 (by kernel_rfl) (by kernel_rfl) rfl rfl) ?_
  refine Wl.does rfl rfl rfl (Does.alB (.agg #[(.int .i64 0), (.slice none 0 0), (.slice none 0 0), (.slice none 0 0)]) rfl (by kernel_rfl) rfl) ?_
  rintro _ w2_3 ⟨b5, rfl, hs5, hb5, hx2_3⟩
  have hn2_5 : b2 ≠ b5 := hb2.ne hs5
  have hg5 : w.heap.size ≤ b5 := Nat.le_trans hE.size hs5
  replace hb2 := hb2.ext hx2_3
  replace hE := hE.trans hx2_3
  refine Wl.acts rfl rfl (Does.stL 4 rfl rfl rfl hb5 (by kernel_rfl) rfl rfl rfl) ?_
  rintro _ w2_4 ⟨hbn, hF2_4⟩
  replace hb2 := hb2.fr hF2_4 (by first | assumption | exact Ne.symm (by assumption))
  replace hE := Ext.over hE hF2_4 hg5
  replace hb5 := hbn
  clear hbn
  have hR2 := ((hR1.ext hx2_3).fr hF2_4 (fun k hk => by omega)).up (show N0 ≤ b5 by omega)
  have hgN : g < b5 := hR2.lt
  have hn5g : b5 ≠ g := by omega
  refine Wl.nil ?_
  refine Wx.thenN (hK3 _ _ ?_)
  refine Wc.joinC (ι := Rsp × RB) [(2, _), (4, _), (5, _)] (fun _ => []) (fun | (X, rb), wr => RDX 84 wr g b5 A' n' c' (rsF l) ∧ RspV wr (fun k => b5 < k ∧ k < wr.heap.size) X rb ∧ ((rsF l).e = 0 → X = rsX l) ∧ Blk wr b5 54 #[.int .i64 X.err, .slice rb.iA rb.iN rb.ic, .slice rb.bA rb.bn rb.bc, .slice rb.nA rb.nn rb.nc] ∧ Blk wr b2 54 #[.int .i64 0, .slice none 0 0, .slice none 0 0, .slice none 0 0] ∧ Ext w wr) ?_ ?_ (.cons rfl (.cons rfl (.cons rfl (.nil))))
  · intro K4 hJ4
    refine Wc.seq (fun K5 hK5 => ?_)
    refine Wc.keep [(2, _), (4, _), (5, _)] (.cons rfl (.cons rfl (.cons rfl (.nil)))) ?_
    refine Wc.region ?_
    refine Wl.val rfl rfl rfl (Gives.move rfl rfl) ?_
    refine Wl.val rfl rfl rfl (Gives.nilCheck rfl rfl) ?_
    refine Wl.val rfl rfl rfl (Gives.fieldAt 2 rfl Tryd.underlying84 rfl (by kernel_rfl) rfl rfl) ?_
    refine Wl.val rfl rfl rfl (Gives.ldC rfl (by kernel_rfl) rfl ((hR2.rd.1.cell _).trans rfl)) ?_
    refine Wl.val rfl rfl rfl (Gives.eql rfl rfl rfl) ?_
    refine Wl.val rfl rfl rfl (Gives.move rfl rfl) ?_
    refine Wl.guard rfl rfl rfl (fun h21 => ?_) (fun h21 => ?_)
    · (first | replace h21 := of_decide_eq_true h21 | replace h21 := nd_true h21 | skip)
      refine Wl.val rfl rfl rfl (Gives.fieldAt 0 rfl Tryd.underlying54 rfl (by kernel_rfl) rfl rfl) ?_
      refine Wl.val rfl rfl rfl (Gives.ldK rfl (by kernel_rfl) rfl hb5 rfl) ?_
      refine Wl.val rfl rfl rfl (Gives.eql rfl rfl rfl) ?_
      refine Wl.val rfl rfl rfl (Gives.pickT rfl rfl rfl rfl) ?_
      refine Wl.nil ?_
      refine Wx.thenN (hK5 _ _ ?_)
      refine Wc.cond _ rfl (fun h25 => ?_) (fun h25 => ?_)
      · (first | replace h25 := of_decide_eq_true h25 | replace h25 := nd_true h25 | skip)
        refine Wc.seq (fun K6 hK6 => ?_)
        refine Wc.keep [(2, _), (4, _), (5, _)] (.cons rfl (.cons rfl (.cons rfl (.nil)))) ?_
        obtain rfl : e0 = 0 := h25
        refine Wc.region ?_
        refine Wl.val rfl rfl rfl (Gives.move rfl rfl) ?_
        refine Wl.call rfl rfl rfl rfl Tryd.func49 rfl (by kernel_rfl) rfl (sUint_x _ g b5 A' n' c' _ 1 hR2) ?_
        rintro x5 w41 ⟨rfl, hR3, hF2⟩
        refine ⟨_, rfl, ?_⟩
        change RDX _ _ _ _ _ _ _ (rs2 l).1 at hR3
        have hn0 := rdUint_lo (rs1 l).1 1
        have hn255 := rdUint1_hi (rs1 l).1
        change 0 ≤ (rs2 l).2 at hn0
        change (rs2 l).2 ≤ 255 at hn255
        have hcd2 : (rdUint (rs1 l).1 1).2 = (rs2 l).2 := rfl
        rw [hcd2]
        generalize hcnt : (rs2 l).2 = ni at *
        replace hb2 := hb2.fr hF2 (by first | assumption | exact Ne.symm (by assumption))
        replace hb5 := hb5.fr hF2 (by first | assumption | exact Ne.symm (by assumption))
        replace hE := Ext.over hE hF2 hgg
        refine Wl.val rfl rfl rfl (Gives.assign rfl rfl) ?_
        refine Wl.nil ?_
        refine Wx.thenN (hK6 _ _ ?_)
        refine Wc.joinC (ι := (Nat × Option Addr × Nat) × List Int) [(2, _), (4, _), (5, _)] (fun _ => []) (fun | ((i, B, c1), xs), wr => RDX 84 wr g b5 A' n' c' (rs3 l).1 ∧ IV wr (fun k => b5 < k ∧ k < wr.heap.size) B i c1 xs ∧ ((rs3 l).1.e = 0 → xs = (rs3 l).2) ∧ Blk wr b5 54 #[.int .i64 0, .slice B i c1, .slice none 0 0, .slice none 0 0] ∧ Blk wr b2 54 #[.int .i64 0, .slice none 0 0, .slice none 0 0, .slice none 0 0] ∧ Ext w wr) ?_ ?_ (.cons rfl (.cons rfl (.cons rfl (.nil))))
        · intro K7 hJ7
          refine Wc.seq (fun K8 hK8 => ?_)
          refine Wc.keep [(2, _), (4, _), (5, _), (6, _)] (.cons rfl (.cons rfl (.cons rfl (.cons rfl (.nil))))) ?_
          refine Wc.region ?_
          refine Wl.val rfl rfl rfl (Gives.assign rfl rfl) ?_
          refine Wl.nil ?_
          refine Wx.thenN (hK8 _ _ ?_)
          refine Wc.block ?_
          refine Wc.keep [(2, _), (4, _), (5, _), (6, _), (7, _)] (.cons rfl (.cons rfl (.cons rfl (.cons rfl (.cons rfl (.nil)))))) ?_
          refine Wc.loopC (ι := Nat × Option Addr × Nat) [(2, _), (4, _), (5, _), (6, _)] (fun | (i, _, _) => [(7, .int .i64 (i : Int))]) (fun | (i, B, c1), wr => i ≤ ni.toNat ∧ RDX 84 wr g b5 A' n' c' (numU (rs2 l).1 i).1 ∧ OI wr (b5 + 1) B i c1 (numU (rs2 l).1 i).2 ∧ Blk wr b5 54 #[.int .i64 0, .slice B i c1, .slice none 0 0, .slice none 0 0] ∧ Blk wr b2 54 #[.int .i64 0, .slice none 0 0, .slice none 0 0, .slice none 0 0] ∧ Ext w wr) (fun | (i, _, _) => ni.toNat - i) ((0, none, 0)) (.cons (by first | exact rfl | exact look_int rfl (by omega) | exact look_slice rfl (by omega)) (.cons rfl (.cons rfl (.cons rfl (.cons rfl (.nil)))))) (⟨Nat.zero_le _, hR3, OI.nil_ _ _, hb5, hb2, hE⟩) ?_
          intro ⟨i, B, c1⟩ wr1 hJ KL1 hKL1
          clear hb5 hb2 hE hR2
          obtain ⟨hi, hR, hI, hb5, hb2, hE⟩ := hJ
          refine Wc.seq (fun K9 hK9 => ?_)
          refine Wc.seq (fun K10 hK10 => ?_)
          refine Wc.keep [(2, _), (4, _), (5, _), (6, _), (7, _)] (.cons rfl (.cons rfl (.cons rfl (.cons rfl (.cons rfl (.nil)))))) ?_
          refine Wc.region ?_
          refine Wl.val rfl rfl rfl (Gives.move rfl rfl) ?_
          refine Wl.val rfl rfl rfl (Gives.move rfl rfl) ?_
          refine Wl.val rfl rfl rfl (Gives.lss rfl rfl rfl) ?_
          refine Wl.val rfl rfl rfl (Gives.move rfl rfl) ?_
          refine Wl.guard rfl rfl rfl (fun h31 => ?_) (fun h31 => ?_)
          · (first | replace h31 := of_decide_eq_true h31 | replace h31 := nd_true h31 | skip)
            refine Wl.val rfl rfl rfl (Gives.move rfl rfl) ?_
            refine Wl.val rfl rfl rfl (Gives.nilCheck rfl rfl) ?_
            refine Wl.val rfl rfl rfl (Gives.fieldAt 2 rfl Tryd.underlying84 rfl (by kernel_rfl) rfl rfl) ?_
            refine Wl.val rfl rfl rfl (Gives.ldC rfl (by kernel_rfl) rfl ((hR.rd.1.cell _).trans rfl)) ?_
            refine Wl.val rfl rfl rfl (Gives.eql rfl rfl rfl) ?_
            refine Wl.val rfl rfl rfl (Gives.pickT rfl rfl rfl rfl) ?_
            refine Wl.nil ?_
            refine Wx.thenN (hK10 _ _ ?_)
            refine Wc.cond _ rfl (fun h37 => ?_) (fun h37 => ?_)
            · (first | replace h37 := of_decide_eq_true h37 | replace h37 := nd_true h37 | skip)
              refine Wc.skip ?_
              refine Wx.thenN (hK9 _ _ ?_)
              refine Wc.seq (fun K11 hK11 => ?_)
              refine Wc.block ?_
              refine Wc.keep [(2, _), (4, _), (5, _), (6, _), (7, _)] (.cons rfl (.cons rfl (.cons rfl (.cons rfl (.cons rfl (.nil)))))) ?_
              refine Wc.regionB (fun q => [1, 3].contains q) [g] (.read 0 (.read 1 (.read 2 (.call false 3 (.call false 4 .tail .none) .none)))) 5 (by kernel_rfl) (by kernel_rfl) (by kernel_rfl) ?_
              intro w8 hR8
              replace hb2 := hb2.ext hR8.ext
              replace hb5 := hb5.ext hR8.ext
              replace hE := hE.trans hR8.ext
              have hO8_2 : Old w8.heap.size [g] b2 := ⟨hb2.lt, ⟨by first | assumption | exact Ne.symm (by assumption), trivial⟩⟩
              have hO8_5 : Old w8.heap.size [g] b5 := ⟨hb5.lt, ⟨by first | assumption | exact Ne.symm (by assumption), trivial⟩⟩
              have hX := Ext.refl w8
              replace hR := hR.ext hR8.ext
              replace hI := hI.ext hR8.ext
              refine RunE.read rfl rfl rfl rfl (fun wS _ => (Gives.fieldAt 1 rfl Tryd.underlying54 rfl (by kernel_rfl) rfl rfl)) ?_
              refine RunE.readM rfl rfl rfl rfl rfl (fun wS hS => (Gives.ldK rfl (by kernel_rfl) rfl ((hb5.ext hX).fr hS hO8_5) rfl)) ?_
              refine RunE.read rfl rfl rfl rfl (fun wS _ => (Gives.move rfl rfl)) ?_
              refine RunE.turnC rfl rfl rfl rfl rfl Tryd.func49 rfl (by kernel_rfl) rfl (sUint_x _ g b5 A' n' c' _ 8 hR) ?_ RunE.none
              rintro x1 w111 ⟨rfl, hR1, hF1⟩
              refine ⟨_, rfl, ?_⟩
              refine ⟨hF1.mono (fun k h => h.2.1), ?_⟩
              replace hb2 := (hb2.ext hX).fr hF1 (by first | assumption | exact Ne.symm (by assumption))
              replace hb5 := (hb5.ext hX).fr hF1 (by first | assumption | exact Ne.symm (by assumption))
              replace hE := Ext.over (hE.trans hX) hF1 hgg
              replace hX := Ext.refl w111
              have hI1 := hI.fr hF1 (fun k hk => by omega)
              refine RunE.turn rfl rfl rfl rfl (Does.lit rfl Tryd.underlying29 infoI2 rfl rfl rfl rfl rfl) ?_ RunE.none
              rintro _ w112 ⟨g112, rfl, hs112, hk112, hx112⟩
              refine ⟨hx112.fr, ?_⟩
              replace hX := hX.trans hx112
              refine RunE.tail rfl ?_
              replace hb2 := hb2.ext hX
              replace hb5 := hb5.ext hX
              replace hE := hE.trans hX
              refine Wl.does rfl rfl rfl (Does.appI rfl rfl rfl (hI1.ext hx112) hk112 (by omega) hb5.lt) ?_
              rintro _ w113 ⟨B', c2, rfl, hI2, hB113⟩
              replace hb2 := Blk.bel hb2 hB113 (by omega)
              replace hb5 := Blk.bel hb5 hB113 (by omega)
              replace hE := Ext.step hE hB113 (by omega)
              have hR2 := (hR1.ext hx112).fr (below_fr hB113) (fun k hk => by omega)
              refine Wl.val rfl rfl rfl (Gives.fieldAt 1 rfl Tryd.underlying54 rfl (by kernel_rfl) rfl rfl) ?_
              refine Wl.acts rfl rfl (Does.stC rfl rfl rfl hb5 (by kernel_rfl) (Nat.le_of_ble_eq_true rfl) rfl) ?_
              rintro _ w8_7 ⟨hbn, hF8_7⟩
              replace hb2 := hb2.fr hF8_7 (by first | assumption | exact Ne.symm (by assumption))
              replace hE := Ext.over hE hF8_7 hg5
              replace hb5 := hbn
              clear hbn
              (try simp only [List.setIfInBounds_toArray, List.set_cons_zero, List.set_cons_succ, Nat.reduceAdd, Nat.zero_add] at hb5)
              replace hR2 := hR2.fr hF8_7 (fun k hk => by omega)
              replace hI2 := hI2.fr hF8_7 (fun k hk => by omega)
              refine Wl.nil ?_
              refine Wx.blockN ?_
              refine Wx.thenN (hK11 _ _ ?_)
              refine Wc.keep [(2, _), (4, _), (5, _), (6, _), (7, _)] (.cons rfl (.cons rfl (.cons rfl (.cons rfl (.cons rfl (.nil)))))) ?_
              refine Wc.region ?_
              refine Wl.val rfl rfl rfl (Gives.move rfl rfl) ?_
              refine Wl.val rfl rfl rfl (Gives.add rfl rfl rfl (by first | exact IntWalk.i64_in _ (by omega) | exact u64_in _ (by omega) | exact u32_in _ (by omega) | exact u8_in _ (by omega) | exact rfl)) ?_
              refine Wl.val rfl rfl rfl (Gives.assign rfl rfl) ?_
              refine Wl.nil ?_
              refine Wx.thenN ?_
              refine hKL1 (i + 1, B', c2) _ _ (.cons (by first | exact rfl | exact look_int rfl (by omega) | exact look_slice rfl (by omega)) (.cons rfl (.cons rfl (.cons rfl (.cons rfl (.nil)))))) ⟨by omega, hR2, hI2, hb5, hb2, hE⟩ (by show ni.toNat - (i + 1) < ni.toNat - i; omega)
            · (first | replace h37 := of_decide_eq_false h37 | replace h37 := nd_false h37 | skip)
              refine Wc.exit ?_
              refine Wx.thenE ?_
              refine Wx.thenE ?_
              refine Wx.hit ?_
              refine Wx.thenN ?_
              have h3 : (rs3 l).1 = (numU (rs2 l).1 i).1 := by unfold rs3; rw [hcnt]; exact numU_stop _ hi h37
              refine hJ7 ((i, B, c1), _) _ _ (.cons rfl (.cons rfl (.cons rfl (.nil)))) ⟨by rw [h3]; exact hR, Row.bd (hI.iv (P := fun k => b5 < k) (fun k hk => hk)), fun h => by rw [h3] at h; exact absurd h h37, hb5, hb2, hE⟩
          · (first | replace h31 := of_decide_eq_false h31 | replace h31 := nd_false h31 | skip)
            refine Wl.pass rfl rfl rfl ?_
            refine Wl.pass rfl rfl rfl ?_
            refine Wl.pass rfl rfl rfl ?_
            refine Wl.pass rfl rfl rfl ?_
            refine Wl.pass rfl rfl rfl ?_
            refine Wl.val rfl rfl rfl (Gives.pickF rfl rfl rfl rfl) ?_
            refine Wl.nil ?_
            refine Wx.thenN (hK10 _ _ ?_)
            refine Wc.condF rfl rfl ?_
            refine Wc.exit ?_
            refine Wx.thenE ?_
            refine Wx.thenE ?_
            refine Wx.hit ?_
            refine Wx.thenN ?_
            have hii : ni.toNat = i := by omega
            have h3 : rs3 l = numU (rs2 l).1 i := by unfold rs3; rw [hcnt, hii]
            refine hJ7 ((i, B, c1), _) _ _ (.cons rfl (.cons rfl (.cons rfl (.nil)))) ⟨by rw [h3]; exact hR, Row.bd (hI.iv (P := fun k => b5 < k) (fun k hk => hk)), fun _ => by rw [h3], hb5, hb2, hE⟩
        intro ⟨⟨icnt, B, c1⟩, xs⟩ wr1 hJ
        clear hb5 hb2 hE hR3
        obtain ⟨hR0, hV, hxs, hb5, hb2, hE⟩ := hJ
        refine Wc.seq (fun K12 hK12 => ?_)
        refine Wc.keep [(2, _), (4, _), (5, _)] (.cons rfl (.cons rfl (.cons rfl (.nil)))) ?_
        refine Wc.region ?_
        refine Wl.val rfl rfl rfl (Gives.move rfl rfl) ?_
        refine Wl.call rfl rfl rfl rfl Tryd.func49 rfl (by kernel_rfl) rfl (sUint_x _ g b5 A' n' c' _ 1 hR0) ?_
        rintro x6 w91 ⟨rfl, hR1, hF3⟩
        refine ⟨_, rfl, ?_⟩
        have hV1 := hV.keep (g := g) (hF3.mono fun k hk => hk.1) hgN
        have hm0 := rdUint_lo (rs3 l).1 1
        have hm255 := rdUint1_hi (rs3 l).1
        replace hb2 := hb2.fr hF3 (by first | assumption | exact Ne.symm (by assumption))
        replace hb5 := hb5.fr hF3 (by first | assumption | exact Ne.symm (by assumption))
        replace hE := Ext.over hE hF3 hgg
        refine Wl.val rfl rfl rfl (Gives.assign rfl rfl) ?_
        have hN4 : b5 < w91.heap.size := hb5.lt
        generalize hNw2 : w91.heap.size = N2 at *
        have hK0 : Fr (fun k => k ≠ g ∧ k ≠ b5 ∧ k < N2) w91 w91 := Fr.refl _ _
        generalize hnb : (rdUint (rs3 l).1 1).2 = nb at *
        refine Wl.nil ?_
        refine Wx.thenN (hK12 _ _ ?_)
        refine Wc.joinC (ι := (Nat × Option Addr × Nat) × List (List UInt8)) [(2, _), (4, _), (5, _)] (fun _ => []) (fun | ((i, B4, c4), ys), wr => RDX 84 wr g b5 A' n' c' (rs4 l).1 ∧ IV wr (fun k => b5 < k ∧ k < wr.heap.size) B icnt c1 xs ∧ BL wr (fun k => b5 < k ∧ k < wr.heap.size) B4 i c4 ys ∧ ((rs4 l).1.e = 0 → ys = (rs4 l).2) ∧ Blk wr b5 54 #[.int .i64 0, .slice B icnt c1, .slice B4 i c4, .slice none 0 0] ∧ Blk wr b2 54 #[.int .i64 0, .slice none 0 0, .slice none 0 0, .slice none 0 0] ∧ Ext w wr) ?_ ?_ (.cons rfl (.cons rfl (.cons rfl (.nil))))
        · intro K13 hJ13
          refine Wc.seq (fun K14 hK14 => ?_)
          refine Wc.keep [(2, _), (4, _), (5, _), (6, _)] (.cons rfl (.cons rfl (.cons rfl (.cons rfl (.nil))))) ?_
          refine Wc.region ?_
          refine Wl.val rfl rfl rfl (Gives.assign rfl rfl) ?_
          refine Wl.nil ?_
          refine Wx.thenN (hK14 _ _ ?_)
          refine Wc.block ?_
          refine Wc.keep [(2, _), (4, _), (5, _), (6, _), (8, _)] (.cons rfl (.cons rfl (.cons rfl (.cons rfl (.cons rfl (.nil)))))) ?_
          refine Wc.loopC (ι := Nat × Option Addr × Nat) [(2, _), (4, _), (5, _), (6, _)] (fun | (i, _, _) => [(8, .int .i64 (i : Int))]) (fun | (i, B4, c4), wr => i ≤ nb.toNat ∧ RDX 84 wr g b5 A' n' c' (blobU (rdUint (rs3 l).1 1).1 1024 i).1 ∧ OL wr (fun k => b5 < k) N2 B4 i c4 (blobU (rdUint (rs3 l).1 1).1 1024 i).2 ∧ Fr (fun k => k ≠ g ∧ k ≠ b5 ∧ k < N2) w91 wr ∧ Blk wr b5 54 #[.int .i64 0, .slice B icnt c1, .slice B4 i c4, .slice none 0 0] ∧ Blk wr b2 54 #[.int .i64 0, .slice none 0 0, .slice none 0 0, .slice none 0 0] ∧ Ext w wr) (fun | (i, _, _) => nb.toNat - i) ((0, none, 0)) (.cons (by first | exact rfl | exact look_int rfl (by omega) | exact look_slice rfl (by omega)) (.cons rfl (.cons rfl (.cons rfl (.cons rfl (.nil)))))) (⟨Nat.zero_le _, hR1, OL.nil_ _ _ _, hK0, hb5, hb2, hE⟩) ?_
          intro ⟨i, B4, c4⟩ wr5 hJ KL2 hKL2
          clear hb5 hb2 hE hK0
          obtain ⟨hi, hR, hL, hK, hb5, hb2, hE⟩ := hJ
          have hNs4 : N2 ≤ wr5.heap.size := by rw [← hNw2]; exact hK.size
          refine Wc.seq (fun K15 hK15 => ?_)
          refine Wc.seq (fun K16 hK16 => ?_)
          refine Wc.keep [(2, _), (4, _), (5, _), (6, _), (8, _)] (.cons rfl (.cons rfl (.cons rfl (.cons rfl (.cons rfl (.nil)))))) ?_
          refine Wc.region ?_
          refine Wl.val rfl rfl rfl (Gives.move rfl rfl) ?_
          refine Wl.val rfl rfl rfl (Gives.move rfl rfl) ?_
          refine Wl.val rfl rfl rfl (Gives.lss rfl rfl rfl) ?_
          refine Wl.val rfl rfl rfl (Gives.move rfl rfl) ?_
          refine Wl.guard rfl rfl rfl (fun h52 => ?_) (fun h52 => ?_)
          · (first | replace h52 := of_decide_eq_true h52 | replace h52 := nd_true h52 | skip)
            refine Wl.val rfl rfl rfl (Gives.move rfl rfl) ?_
            refine Wl.val rfl rfl rfl (Gives.nilCheck rfl rfl) ?_
            refine Wl.val rfl rfl rfl (Gives.fieldAt 2 rfl Tryd.underlying84 rfl (by kernel_rfl) rfl rfl) ?_
            refine Wl.val rfl rfl rfl (Gives.ldC rfl (by kernel_rfl) rfl ((hR.rd.1.cell _).trans rfl)) ?_
            refine Wl.val rfl rfl rfl (Gives.eql rfl rfl rfl) ?_
            refine Wl.val rfl rfl rfl (Gives.pickT rfl rfl rfl rfl) ?_
            refine Wl.nil ?_
            refine Wx.thenN (hK16 _ _ ?_)
            refine Wc.cond _ rfl (fun h58 => ?_) (fun h58 => ?_)
            · (first | replace h58 := of_decide_eq_true h58 | replace h58 := nd_true h58 | skip)
              refine Wc.skip ?_
              refine Wx.thenN (hK15 _ _ ?_)
              refine Wc.seq (fun K17 hK17 => ?_)
              refine Wc.block ?_
              refine Wc.keep [(2, _), (4, _), (5, _), (6, _), (8, _)] (.cons rfl (.cons rfl (.cons rfl (.cons rfl (.cons rfl (.nil)))))) ?_
              refine Wc.regionB (fun q => [1, 3].contains q) [g] (.read 0 (.read 1 (.read 2 (.call false 3 (.call false 4 .tail .none) .none)))) 5 (by kernel_rfl) (by kernel_rfl) (by kernel_rfl) ?_
              intro w13 hR13
              replace hb2 := hb2.ext hR13.ext
              replace hb5 := hb5.ext hR13.ext
              replace hE := hE.trans hR13.ext
              have hO13_2 : Old w13.heap.size [g] b2 := ⟨hb2.lt, ⟨by first | assumption | exact Ne.symm (by assumption), trivial⟩⟩
              have hO13_5 : Old w13.heap.size [g] b5 := ⟨hb5.lt, ⟨by first | assumption | exact Ne.symm (by assumption), trivial⟩⟩
              have hX := Ext.refl w13
              replace hR := hR.ext hR13.ext
              replace hL := hL.ext hR13.ext
              replace hK := hK.trans hR13.ext.fr
              have hs32 : N2 ≤ w13.heap.size := Nat.le_trans hNs4 hR13.ext.size
              refine RunE.read rfl rfl rfl rfl (fun wS _ => (Gives.fieldAt 2 rfl Tryd.underlying54 rfl (by kernel_rfl) rfl rfl)) ?_
              refine RunE.readM rfl rfl rfl rfl rfl (fun wS hS => (Gives.ldK rfl (by kernel_rfl) rfl ((hb5.ext hX).fr hS hO13_5) rfl)) ?_
              refine RunE.read rfl rfl rfl rfl (fun wS _ => (Gives.move rfl rfl)) ?_
              refine RunE.turnC rfl rfl rfl rfl rfl Tryd.func50 rfl (by kernel_rfl) rfl (sBlob_x _ g b5 A' n' c' _ 1024 hR) ?_ RunE.none
              rintro x1 w321 ⟨S1, m1, k1, rfl, hO1, hR1, hF1⟩
              refine ⟨_, rfl, ?_⟩
              refine ⟨hF1.mono (fun k h => h.2.1), ?_⟩
              replace hb2 := (hb2.ext hX).fr hF1 (by first | assumption | exact Ne.symm (by assumption))
              replace hb5 := (hb5.ext hX).fr hF1 (by first | assumption | exact Ne.symm (by assumption))
              replace hE := Ext.over (hE.trans hX) hF1 hgg
              replace hX := Ext.refl w321
              have hL1 := hL.fr hF1 (fun k hk => by omega) (fun k hk => by omega)
              have hK1 := hK.trans (hF1.mono (fun k hk => hk.1))
              have hs321 := hF1.size
              refine RunE.turn rfl rfl rfl rfl (Does.lit rfl Tryd.underlying31 infoL2 rfl rfl rfl rfl rfl) ?_ RunE.none
              rintro _ w322 ⟨g322, rfl, hs322, hk322, hx322⟩
              refine ⟨hx322.fr, ?_⟩
              replace hX := hX.trans hx322
              obtain ⟨vs1, ho1⟩ := hL.own
              have hC1 : BV w321 (fun k => b5 < k ∧ w13.heap.size ≤ k) S1 m1 k1 _ := hO1.bv (fun k hk => ⟨by omega, hk⟩)
              have hC2 : BV w322 (NOwn w322 (fun k => b5 < k) (.slice B4 i c4)) S1 m1 k1 _ := BV.nown (hC1.ext hx322) ho1 (Nat.le_refl _)
              have hs322b := hx322.size
              refine RunE.tail rfl ?_
              replace hb2 := hb2.ext hX
              replace hb5 := hb5.ext hX
              replace hE := hE.trans hX
              refine Wl.does rfl rfl rfl (Does.appL rfl rfl rfl (hL1.ext hx322) hk322 hC2 (by omega) (by omega)) ?_
              rintro _ w323 ⟨B', c5, rfl, hL2, hB323⟩
              replace hb2 := Blk.bel hb2 hB323 (by omega)
              replace hb5 := Blk.bel hb5 hB323 (by omega)
              replace hE := Ext.step hE hB323 (by omega)
              have hR2 := (hR1.ext hx322).fr (below_fr hB323) (fun k hk => by omega)
              have hK2 := (hK1.trans hx322.fr).trans ((below_fr hB323).mono (fun k hk => hk.2.2))
              refine Wl.val rfl rfl rfl (Gives.fieldAt 2 rfl Tryd.underlying54 rfl (by kernel_rfl) rfl rfl) ?_
              refine Wl.acts rfl rfl (Does.stC rfl rfl rfl hb5 (by kernel_rfl) (Nat.le_of_ble_eq_true rfl) rfl) ?_
              rintro _ w13_7 ⟨hbn, hF13_7⟩
              replace hb2 := hb2.fr hF13_7 (by first | assumption | exact Ne.symm (by assumption))
              replace hE := Ext.over hE hF13_7 hg5
              replace hb5 := hbn
              clear hbn
              (try simp only [List.setIfInBounds_toArray, List.set_cons_zero, List.set_cons_succ, Nat.reduceAdd, Nat.zero_add] at hb5)
              have hR3 := hR2.fr hF13_7 (fun k hk => by omega)
              have hL3 := hL2.fr hF13_7 (fun k hk => by omega) (fun k hk => by omega)
              have hK3 := hK2.trans (hF13_7.mono (fun k hk => hk.2.1))
              refine Wl.nil ?_
              refine Wx.blockN ?_
              refine Wx.thenN (hK17 _ _ ?_)
              refine Wc.keep [(2, _), (4, _), (5, _), (6, _), (8, _)] (.cons rfl (.cons rfl (.cons rfl (.cons rfl (.cons rfl (.nil)))))) ?_
              refine Wc.region ?_
              refine Wl.val rfl rfl rfl (Gives.move rfl rfl) ?_
              refine Wl.val rfl rfl rfl (Gives.add rfl rfl rfl (by first | exact IntWalk.i64_in _ (by omega) | exact u64_in _ (by omega) | exact u32_in _ (by omega) | exact u8_in _ (by omega) | exact rfl)) ?_
              refine Wl.val rfl rfl rfl (Gives.assign rfl rfl) ?_
              refine Wl.nil ?_
              refine Wx.thenN ?_
              refine hKL2 (i + 1, B', c5) _ _ (.cons (by first | exact rfl | exact look_int rfl (by omega) | exact look_slice rfl (by omega)) (.cons rfl (.cons rfl (.cons rfl (.cons rfl (.nil)))))) ⟨by omega, hR3, hL3, hK3, hb5, hb2, hE⟩ (by show nb.toNat - (i + 1) < nb.toNat - i; omega)
            · (first | replace h58 := of_decide_eq_false h58 | replace h58 := nd_false h58 | skip)
              refine Wc.exit ?_
              refine Wx.thenE ?_
              refine Wx.thenE ?_
              refine Wx.hit ?_
              refine Wx.thenN ?_
              have h3 : (rs4 l).1 = (blobU (rdUint (rs3 l).1 1).1 1024 i).1 := by unfold rs4; exact blob_step hnb h58 hi
              have hB5 := (hL.bl (P := fun k => b5 < k) (fun k hk => by omega) (fun k hk => hk)).bd
              refine hJ13 ((i, B4, c4), _) _ _ (.cons rfl (.cons rfl (.cons rfl (.nil)))) ⟨by rw [h3]; exact hR, hV1.keep hK hgN, hB5, fun h => by rw [h3] at h; exact absurd h h58, hb5, hb2, hE⟩
          · (first | replace h52 := of_decide_eq_false h52 | replace h52 := nd_false h52 | skip)
            refine Wl.pass rfl rfl rfl ?_
            refine Wl.pass rfl rfl rfl ?_
            refine Wl.pass rfl rfl rfl ?_
            refine Wl.pass rfl rfl rfl ?_
            refine Wl.pass rfl rfl rfl ?_
            refine Wl.val rfl rfl rfl (Gives.pickF rfl rfl rfl rfl) ?_
            refine Wl.nil ?_
            refine Wx.thenN (hK16 _ _ ?_)
            refine Wc.condF rfl rfl ?_
            refine Wc.exit ?_
            refine Wx.thenE ?_
            refine Wx.thenE ?_
            refine Wx.hit ?_
            refine Wx.thenN ?_
            have hii : nb.toNat = i := by omega
            have h3 : rs4 l = blobU (rdUint (rs3 l).1 1).1 1024 i := by unfold rs4 listU; rw [hnb, hii]
            have hB5 := (hL.bl (P := fun k => b5 < k) (fun k hk => by omega) (fun k hk => hk)).bd
            refine hJ13 ((i, B4, c4), _) _ _ (.cons rfl (.cons rfl (.cons rfl (.nil)))) ⟨by rw [h3]; exact hR, hV1.keep hK hgN, hB5, fun _ => by rw [h3], hb5, hb2, hE⟩
        intro ⟨⟨bcnt, B2, c2⟩, ys⟩ wr2 hJ
        clear hb5 hb2 hE hR0 hV
        obtain ⟨hR0, hV, hVb, hys, hb5, hb2, hE⟩ := hJ
        refine Wc.seq (fun K18 hK18 => ?_)
        refine Wc.keep [(2, _), (4, _), (5, _)] (.cons rfl (.cons rfl (.cons rfl (.nil)))) ?_
        refine Wc.region ?_
        refine Wl.val rfl rfl rfl (Gives.move rfl rfl) ?_
        refine Wl.call rfl rfl rfl rfl Tryd.func49 rfl (by kernel_rfl) rfl (sUint_x _ g b5 A' n' c' _ 1 hR0) ?_
        rintro x6 w141 ⟨rfl, hR1, hF3⟩
        refine ⟨_, rfl, ?_⟩
        have hV1 := hV.keep (g := g) (hF3.mono fun k hk => hk.1) hgN
        have hV2 := hVb.keep (g := g) (hF3.mono fun k hk => hk.1) hgN
        have hm0 := rdUint_lo (rs4 l).1 1
        have hm255 := rdUint1_hi (rs4 l).1
        replace hb2 := hb2.fr hF3 (by first | assumption | exact Ne.symm (by assumption))
        replace hb5 := hb5.fr hF3 (by first | assumption | exact Ne.symm (by assumption))
        replace hE := Ext.over hE hF3 hgg
        refine Wl.val rfl rfl rfl (Gives.assign rfl rfl) ?_
        have hN4 : b5 < w141.heap.size := hb5.lt
        generalize hNw3 : w141.heap.size = N3 at *
        have hK0 : Fr (fun k => k ≠ g ∧ k ≠ b5 ∧ k < N3) w141 w141 := Fr.refl _ _
        generalize hnb : (rdUint (rs4 l).1 1).2 = nb at *
        refine Wl.nil ?_
        refine Wx.thenN (hK18 _ _ ?_)
        refine Wc.seq (fun K19 hK19 => ?_)
        refine Wc.keep [(2, _), (4, _), (5, _), (6, _)] (.cons rfl (.cons rfl (.cons rfl (.cons rfl (.nil))))) ?_
        refine Wc.region ?_
        refine Wl.val rfl rfl rfl (Gives.assign rfl rfl) ?_
        refine Wl.nil ?_
        refine Wx.thenN (hK19 _ _ ?_)
        refine Wc.block ?_
        refine Wc.keep [(2, _), (4, _), (5, _), (6, _), (9, _)] (.cons rfl (.cons rfl (.cons rfl (.cons rfl (.cons rfl (.nil)))))) ?_
        refine Wc.loopC (ι := Nat × Option Addr × Nat) [(2, _), (4, _), (5, _), (6, _)] (fun | (i, _, _) => [(9, .int .i64 (i : Int))]) (fun | (i, B4, c4), wr => i ≤ nb.toNat ∧ RDX 84 wr g b5 A' n' c' (blobU (rdUint (rs4 l).1 1).1 1024 i).1 ∧ OL wr (fun k => b5 < k) N3 B4 i c4 (blobU (rdUint (rs4 l).1 1).1 1024 i).2 ∧ Fr (fun k => k ≠ g ∧ k ≠ b5 ∧ k < N3) w141 wr ∧ Blk wr b5 54 #[.int .i64 0, .slice B icnt c1, .slice B2 bcnt c2, .slice B4 i c4] ∧ Blk wr b2 54 #[.int .i64 0, .slice none 0 0, .slice none 0 0, .slice none 0 0] ∧ Ext w wr) (fun | (i, _, _) => nb.toNat - i) ((0, none, 0)) (.cons (by first | exact rfl | exact look_int rfl (by omega) | exact look_slice rfl (by omega)) (.cons rfl (.cons rfl (.cons rfl (.cons rfl (.nil)))))) (⟨Nat.zero_le _, hR1, OL.nil_ _ _ _, hK0, hb5, hb2, hE⟩) ?_
        intro ⟨i, B4, c4⟩ wr5 hJ KL3 hKL3
        clear hb5 hb2 hE hK0
        obtain ⟨hi, hR, hL, hK, hb5, hb2, hE⟩ := hJ
        have hNs4 : N3 ≤ wr5.heap.size := by rw [← hNw3]; exact hK.size
        refine Wc.seq (fun K20 hK20 => ?_)
        refine Wc.seq (fun K21 hK21 => ?_)
        refine Wc.keep [(2, _), (4, _), (5, _), (6, _), (9, _)] (.cons rfl (.cons rfl (.cons rfl (.cons rfl (.cons rfl (.nil)))))) ?_
        refine Wc.region ?_
        refine Wl.val rfl rfl rfl (Gives.move rfl rfl) ?_
        refine Wl.val rfl rfl rfl (Gives.move rfl rfl) ?_
        refine Wl.val rfl rfl rfl (Gives.lss rfl rfl rfl) ?_
        refine Wl.val rfl rfl rfl (Gives.move rfl rfl) ?_
        refine Wl.guard rfl rfl rfl (fun h73 => ?_) (fun h73 => ?_)
        · (first | replace h73 := of_decide_eq_true h73 | replace h73 := nd_true h73 | skip)
          refine Wl.val rfl rfl rfl (Gives.move rfl rfl) ?_
          refine Wl.val rfl rfl rfl (Gives.nilCheck rfl rfl) ?_
          refine Wl.val rfl rfl rfl (Gives.fieldAt 2 rfl Tryd.underlying84 rfl (by kernel_rfl) rfl rfl) ?_
          refine Wl.val rfl rfl rfl (Gives.ldC rfl (by kernel_rfl) rfl ((hR.rd.1.cell _).trans rfl)) ?_
          refine Wl.val rfl rfl rfl (Gives.eql rfl rfl rfl) ?_
          refine Wl.val rfl rfl rfl (Gives.pickT rfl rfl rfl rfl) ?_
          refine Wl.nil ?_
          refine Wx.thenN (hK21 _ _ ?_)
          refine Wc.cond _ rfl (fun h79 => ?_) (fun h79 => ?_)
          · (first | replace h79 := of_decide_eq_true h79 | replace h79 := nd_true h79 | skip)
            refine Wc.skip ?_
            refine Wx.thenN (hK20 _ _ ?_)
            refine Wc.seq (fun K22 hK22 => ?_)
            refine Wc.block ?_
            refine Wc.keep [(2, _), (4, _), (5, _), (6, _), (9, _)] (.cons rfl (.cons rfl (.cons rfl (.cons rfl (.cons rfl (.nil)))))) ?_
            refine Wc.regionB (fun q => [1, 3].contains q) [g] (.read 0 (.read 1 (.read 2 (.call false 3 (.call false 4 .tail .none) .none)))) 5 (by kernel_rfl) (by kernel_rfl) (by kernel_rfl) ?_
            intro w18 hR18
            replace hb2 := hb2.ext hR18.ext
            replace hb5 := hb5.ext hR18.ext
            replace hE := hE.trans hR18.ext
            have hO18_2 : Old w18.heap.size [g] b2 := ⟨hb2.lt, ⟨by first | assumption | exact Ne.symm (by assumption), trivial⟩⟩
            have hO18_5 : Old w18.heap.size [g] b5 := ⟨hb5.lt, ⟨by first | assumption | exact Ne.symm (by assumption), trivial⟩⟩
            have hX := Ext.refl w18
            replace hR := hR.ext hR18.ext
            replace hL := hL.ext hR18.ext
            replace hK := hK.trans hR18.ext.fr
            have hs32 : N3 ≤ w18.heap.size := Nat.le_trans hNs4 hR18.ext.size
            refine RunE.read rfl rfl rfl rfl (fun wS _ => (Gives.fieldAt 3 rfl Tryd.underlying54 rfl (by kernel_rfl) rfl rfl)) ?_
            refine RunE.readM rfl rfl rfl rfl rfl (fun wS hS => (Gives.ldK rfl (by kernel_rfl) rfl ((hb5.ext hX).fr hS hO18_5) rfl)) ?_
            refine RunE.read rfl rfl rfl rfl (fun wS _ => (Gives.move rfl rfl)) ?_
            refine RunE.turnC rfl rfl rfl rfl rfl Tryd.func50 rfl (by kernel_rfl) rfl (sBlob_x _ g b5 A' n' c' _ 1024 hR) ?_ RunE.none
            rintro x1 w321 ⟨S1, m1, k1, rfl, hO1, hR1, hF1⟩
            refine ⟨_, rfl, ?_⟩
            refine ⟨hF1.mono (fun k h => h.2.1), ?_⟩
            replace hb2 := (hb2.ext hX).fr hF1 (by first | assumption | exact Ne.symm (by assumption))
            replace hb5 := (hb5.ext hX).fr hF1 (by first | assumption | exact Ne.symm (by assumption))
            replace hE := Ext.over (hE.trans hX) hF1 hgg
            replace hX := Ext.refl w321
            have hL1 := hL.fr hF1 (fun k hk => by omega) (fun k hk => by omega)
            have hK1 := hK.trans (hF1.mono (fun k hk => hk.1))
            have hs321 := hF1.size
            refine RunE.turn rfl rfl rfl rfl (Does.lit rfl Tryd.underlying31 infoL2 rfl rfl rfl rfl rfl) ?_ RunE.none
            rintro _ w322 ⟨g322, rfl, hs322, hk322, hx322⟩
            refine ⟨hx322.fr, ?_⟩
            replace hX := hX.trans hx322
            obtain ⟨vs1, ho1⟩ := hL.own
            have hC1 : BV w321 (fun k => b5 < k ∧ w18.heap.size ≤ k) S1 m1 k1 _ := hO1.bv (fun k hk => ⟨by omega, hk⟩)
            have hC2 : BV w322 (NOwn w322 (fun k => b5 < k) (.slice B4 i c4)) S1 m1 k1 _ := BV.nown (hC1.ext hx322) ho1 (Nat.le_refl _)
            have hs322b := hx322.size
            refine RunE.tail rfl ?_
            replace hb2 := hb2.ext hX
            replace hb5 := hb5.ext hX
            replace hE := hE.trans hX
            refine Wl.does rfl rfl rfl (Does.appL rfl rfl rfl (hL1.ext hx322) hk322 hC2 (by omega) (by omega)) ?_
            rintro _ w323 ⟨B', c5, rfl, hL2, hB323⟩
            replace hb2 := Blk.bel hb2 hB323 (by omega)
            replace hb5 := Blk.bel hb5 hB323 (by omega)
            replace hE := Ext.step hE hB323 (by omega)
            have hR2 := (hR1.ext hx322).fr (below_fr hB323) (fun k hk => by omega)
            have hK2 := (hK1.trans hx322.fr).trans ((below_fr hB323).mono (fun k hk => hk.2.2))
            refine Wl.val rfl rfl rfl (Gives.fieldAt 3 rfl Tryd.underlying54 rfl (by kernel_rfl) rfl rfl) ?_
            refine Wl.acts rfl rfl (Does.stC rfl rfl rfl hb5 (by kernel_rfl) (Nat.le_of_ble_eq_true rfl) rfl) ?_
            rintro _ w18_7 ⟨hbn, hF18_7⟩
            replace hb2 := hb2.fr hF18_7 (by first | assumption | exact Ne.symm (by assumption))
            replace hE := Ext.over hE hF18_7 hg5
            replace hb5 := hbn
            clear hbn
            (try simp only [List.setIfInBounds_toArray, List.set_cons_zero, List.set_cons_succ, Nat.reduceAdd, Nat.zero_add] at hb5)
            have hR3 := hR2.fr hF18_7 (fun k hk => by omega)
            have hL3 := hL2.fr hF18_7 (fun k hk => by omega) (fun k hk => by omega)
            have hK3 := hK2.trans (hF18_7.mono (fun k hk => hk.2.1))
            refine Wl.nil ?_
            refine Wx.blockN ?_
            refine Wx.thenN (hK22 _ _ ?_)
            refine Wc.keep [(2, _), (4, _), (5, _), (6, _), (9, _)] (.cons rfl (.cons rfl (.cons rfl (.cons rfl (.cons rfl (.nil)))))) ?_
            refine Wc.region ?_
            refine Wl.val rfl rfl rfl (Gives.move rfl rfl) ?_
            refine Wl.val rfl rfl rfl (Gives.add rfl rfl rfl (by first | exact IntWalk.i64_in _ (by omega) | exact u64_in _ (by omega) | exact u32_in _ (by omega) | exact u8_in _ (by omega) | exact rfl)) ?_
            refine Wl.val rfl rfl rfl (Gives.assign rfl rfl) ?_
            refine Wl.nil ?_
            refine Wx.thenN ?_
            refine hKL3 (i + 1, B', c5) _ _ (.cons (by first | exact rfl | exact look_int rfl (by omega) | exact look_slice rfl (by omega)) (.cons rfl (.cons rfl (.cons rfl (.cons rfl (.nil)))))) ⟨by omega, hR3, hL3, hK3, hb5, hb2, hE⟩ (by show nb.toNat - (i + 1) < nb.toNat - i; omega)
          · (first | replace h79 := of_decide_eq_false h79 | replace h79 := nd_false h79 | skip)
            refine Wc.exit ?_
            refine Wx.thenE ?_
            refine Wx.thenE ?_
            refine Wx.hit ?_
            refine Wx.thenN ?_
            have hF : rsF l = (rs5 l).1 := by unfold rsF; rw [he0, if_pos rfl]
            have h3 : (rs5 l).1 = (blobU (rdUint (rs4 l).1 1).1 1024 i).1 := by unfold rs5; exact blob_step hnb h79 hi
            have hB5 := (hL.bl (P := fun k => b5 < k) (fun k hk => by omega) (fun k hk => hk)).bd
            refine hJ4 (⟨0, xs, ys, _⟩, ⟨B, icnt, c1, B2, bcnt, c2, B4, i, c4⟩) _ _ (.cons rfl (.cons rfl (.cons rfl (.nil)))) ⟨by rw [hF, h3]; exact hR, ⟨hV1.keep hK hgN, hV2.keep hK hgN, hB5⟩, fun h => ?_, hb5, hb2, hE⟩
            rw [hF, h3] at h
            exact absurd h h79
        · (first | replace h73 := of_decide_eq_false h73 | replace h73 := nd_false h73 | skip)
          refine Wl.pass rfl rfl rfl ?_
          refine Wl.pass rfl rfl rfl ?_
          refine Wl.pass rfl rfl rfl ?_
          refine Wl.pass rfl rfl rfl ?_
          refine Wl.pass rfl rfl rfl ?_
          refine Wl.val rfl rfl rfl (Gives.pickF rfl rfl rfl rfl) ?_
          refine Wl.nil ?_
          refine Wx.thenN (hK21 _ _ ?_)
          refine Wc.condF rfl rfl ?_
          refine Wc.exit ?_
          refine Wx.thenE ?_
          refine Wx.thenE ?_
          refine Wx.hit ?_
          refine Wx.thenN ?_
          have hF : rsF l = (rs5 l).1 := by unfold rsF; rw [he0, if_pos rfl]
          have hii : nb.toNat = i := by omega
          have h3 : rs5 l = blobU (rdUint (rs4 l).1 1).1 1024 i := by unfold rs5 listU; rw [hnb, hii]
          have hB5 := (hL.bl (P := fun k => b5 < k) (fun k hk => by omega) (fun k hk => hk)).bd
          refine hJ4 (⟨0, xs, ys, _⟩, ⟨B, icnt, c1, B2, bcnt, c2, B4, i, c4⟩) _ _ (.cons rfl (.cons rfl (.cons rfl (.nil)))) ⟨by rw [hF, h3]; exact hR, ⟨hV1.keep hK hgN, hV2.keep hK hgN, hB5⟩, fun h => ?_, hb5, hb2, hE⟩
          rw [hF] at h
          have h4 : (rs4 l).1.e = 0 := listU_e h
          have h3' : (rs3 l).1.e = 0 := listU_e h4
          unfold rsX
          rw [he0, if_pos rfl, h3, hys h4, hxs h3']
      · (first | replace h25 := of_decide_eq_false h25 | replace h25 := nd_false h25 | skip)
        refine Wc.skip ?_
        refine Wx.thenN ?_
        have hF : rsF l = (rs1 l).1 := by unfold rsF; rw [he0, if_neg h25]
        refine hJ4 (⟨e0, [], [], []⟩, RB.nil) _ _ (.cons rfl (.cons rfl (.cons rfl (.nil)))) ⟨by rw [hF]; exact hR2, ⟨IV.nil_ _ _, BL.nil_ _ _, BL.nil_ _ _⟩, fun _ => by unfold rsX; rw [he0, if_neg h25], hb5, hb2, hE⟩
    · (first | replace h21 := of_decide_eq_false h21 | replace h21 := nd_false h21 | skip)
      refine Wl.pass rfl rfl rfl ?_
      refine Wl.pass rfl rfl rfl ?_
      refine Wl.pass rfl rfl rfl ?_
      refine Wl.val rfl rfl rfl (Gives.pickF rfl rfl rfl rfl) ?_
      refine Wl.nil ?_
      refine Wx.thenN (hK5 _ _ ?_)
      refine Wc.condF rfl rfl ?_
      refine Wc.skip ?_
      refine Wx.thenN ?_
      have hF : rsF l = (rs1 l).1 := rsF_stuck h21
      refine hJ4 (⟨e0, [], [], []⟩, RB.nil) _ _ (.cons rfl (.cons rfl (.cons rfl (.nil)))) ⟨by rw [hF]; exact hR2, ⟨IV.nil_ _ _, BL.nil_ _ _, BL.nil_ _ _⟩, fun h => by rw [hF] at h; exact absurd h h21, hb5, hb2, hE⟩
  intro ⟨X, rb⟩ wJ hJ
  clear hb5 hb2 hE hR2
  obtain ⟨hR, hV, hX0, hb5, hb2, hE⟩ := hJ
  refine Wc.seq (fun K23 hK23 => ?_)
  refine Wc.seq (fun K24 hK24 => ?_)
  refine Wc.keep [(2, _), (4, _), (5, _)] (.cons rfl (.cons rfl (.cons rfl (.nil)))) ?_
  refine Wc.region ?_
  refine Wl.val rfl rfl rfl (Gives.move rfl rfl) ?_
  refine Wl.call rfl rfl rfl rfl Tryd.func51 rfl (by kernel_rfl) rfl (sEnd_x _ g b5 A' n' c' _ hR) ?_
  rintro x9 w161 ⟨rfl, hQ16⟩
  refine ⟨_, rfl, ?_⟩
  have hx16 := hQ16.ext
  replace hV := hV.ext hx16
  replace hb2 := hb2.ext hx16
  replace hb5 := hb5.ext hx16
  replace hE := hE.trans hx16
  refine Wl.val rfl rfl rfl (Gives.assign rfl rfl) ?_
  refine Wl.nil ?_
  refine Wx.thenN (hK24 _ _ ?_)
  refine Wc.seq (fun K25 hK25 => ?_)
  refine Wc.keep [(2, _), (5, _), (10, _)] (.cons rfl (.cons rfl (.cons rfl (.nil)))) ?_
  refine Wc.region ?_
  refine Wl.val rfl rfl rfl (Gives.move rfl rfl) ?_
  refine Wl.val rfl rfl rfl (Gives.neq rfl rfl rfl) ?_
  refine Wl.nil ?_
  refine Wx.thenN (hK25 _ _ ?_)
  refine Wc.cond _ rfl (fun h55 => ?_) (fun h55 => ?_)
  · (first | replace h55 := of_decide_eq_true h55 | replace h55 := nd_true h55 | skip)
    refine Wc.seq (fun K26 hK26 => ?_)
    refine Wc.keep [(2, _), (10, _)] (.cons rfl (.cons rfl (.nil))) ?_
    refine Wc.region ?_
    refine Wl.val rfl rfl rfl (Gives.buildS (pl := [(0, 1), (1, 1), (2, 1), (3, 1)]) (zv := (.agg #[(.int .i64 0), (.slice none 0 0), (.slice none 0 0), (.slice none 0 0)])) rfl Tryd.underlying54 (by kernel_rfl) (by kernel_rfl) rfl rfl) ?_
    refine Wl.val rfl rfl rfl (Gives.move rfl rfl) ?_
    refine Wl.acts rfl rfl (Does.stL 4 rfl rfl rfl hb2 (by kernel_rfl) rfl rfl rfl) ?_
    rintro _ w21_2 ⟨hbn, hF21_2⟩
    replace hb5 := hb5.fr hF21_2 (by first | assumption | exact Ne.symm (by assumption))
    replace hE := Ext.over hE hF21_2 hg2
    replace hb2 := hbn
    clear hbn
    refine Wl.val rfl rfl rfl (Gives.assign rfl rfl) ?_
    refine Wl.nil ?_
    refine Wx.thenN (hK26 _ _ ?_)
    refine Wc.ret ?_
    refine Wx.thenR ?_
    refine Wx.ret [_, _] ⟨⟨_, rfl, res_blk hb2 Tryd.underlying54 rfl (by kernel_rfl)⟩, ⟨rfl, trivial⟩⟩ ?_
    exact RspR.zero (l := l) h55 hE
  · (first | replace h55 := of_decide_eq_false h55 | replace h55 := nd_false h55 | skip)
    refine Wc.skip ?_
    refine Wx.thenN (hK23 _ _ ?_)
    refine Wc.seq (fun K27 hK27 => ?_)
    refine Wc.keep [(2, _), (5, _)] (.cons rfl (.cons rfl (.nil))) ?_
    refine Wc.region ?_
    refine Wl.val rfl rfl rfl (Gives.ldW rfl (by kernel_rfl) rfl hb5 (by kernel_rfl)) ?_
    refine Wl.acts rfl rfl (Does.stL 4 rfl rfl rfl hb2 (by kernel_rfl) rfl rfl rfl) ?_
    rintro _ w22_1 ⟨hbn, hF22_1⟩
    replace hb5 := hb5.fr hF22_1 (by first | assumption | exact Ne.symm (by assumption))
    replace hE := Ext.over hE hF22_1 hg2
    replace hb2 := hbn
    clear hbn
    refine Wl.val rfl rfl rfl (Gives.assign rfl rfl) ?_
    refine Wl.nil ?_
    refine Wx.thenN (hK27 _ _ ?_)
    refine Wc.ret ?_
    refine Wx.ret [_, _] ⟨⟨_, rfl, res_blk hb2 Tryd.underlying54 rfl (by kernel_rfl)⟩, ⟨rfl, trivial⟩⟩ ?_
    have h1 : rspE l = 0 := h55
    have hX1 := hX0 (end_zero h1).1
    have hq : rspQ l = X := by unfold rspQ; rw [if_pos h1, hX1]
    refine ⟨rb, by rw [hq, h1]; rfl, ?_, hE⟩
    rw [hq]
    exact (hV.fr (hF22_1.mono (fun k hk => by omega))).mono (fun _ _ => trivial)
end Go.Proofs.YtaekpiejdgahfaaDoor
