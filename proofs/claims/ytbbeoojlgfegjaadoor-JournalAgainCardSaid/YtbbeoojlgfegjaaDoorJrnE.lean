/- JrnE: merged. -/
import Derived.Test.YtbbeoojlgfegjaaDoorJrnB
/- Journals: Commit, of the program and of the reference. -/
namespace Go.Proofs.YtbbeoojlgfegjaaDoor
set_option linter.all false
open Go.RowKit
theorem BL.bdP {w : World} {P : Nat → Prop} {n c : Nat} {A : Option Addr} {l : List (List UInt8)} (h : BL w P A n c l) : BL w (fun k => P k ∧ k < w.heap.size) A n c l :=
  let ⟨vs, hr, he⟩ := h
  ⟨vs, hr.bd, he.1, fun i a ha => let ⟨N, nn, nc, h1, h2⟩ := he.2 i a ha; ⟨N, nn, nc, h1, h2.bd⟩⟩
/-- an append onto a row of the call's own turns that row's block alone -/
theorem Does.appOg {n : Nat} {e : Env} {w : World} {o : Oper} {x y : Operand} {P : Program} {t el : TypeId} {base g : Nat} {p sc m c : Nat} {A : Option Addr} {S : Nat → Prop} {l r : List UInt8} (ho : o.op = .call { callee := .builtin .append, args := #[x, y], argTypes := #[t, t] }) (ht : P.underlying t = some (.slice el)) (hinf : (P.info? el).map (fun i => (i.zero, i.size, i.bytes)) = some (some (.int .u8 0), 1, 1))
    (hx : ev e x = some (.slice (some ⟨g, 0, none⟩) p sc)) (hy : ev e y = some (.slice A m c)) (hown : OB w base el (some ⟨g, 0, none⟩) p sc l) (hr : BV w S A m c r) (hbytes : p + m ≤ 140737488355328) (hb : base ≤ w.heap.size) :
    Does P n o e w (fun v w' => ∃ B' sc', v = .slice B' (p + m) sc' ∧ OB w' base el B' (p + m) sc' (l ++ r) ∧ Fr (fun k => k ≠ g) w w') := by
  refine (Does.appX ho ht hinf rfl (by decide) hx hy hown hr (u8s_one r) (by omega) (by decide) hb).mono ?_
  rintro v w' ⟨B', sc', rfl, h1, h2, h3, h4⟩
  refine ⟨B', sc', rfl, by unfold OB; rw [← u8s_append]; exact h1, h3.os, h3.tape, h3.output, h3.size, fun k hk hP => h3.block k hk ⟨trivial, hk, ?_⟩⟩
  intro he
  simp [Value.ownBlock] at he
  exact hP he.symm
theorem commit_bad {d : Dk} {base seq : Int} {p : List UInt8} (h : ¬ (1 ≤ seq ∧ seq ≤ 1099511627776 ∧ 0 ≤ base ∧ base ≤ 1000)) : commitS d base seq p = d ∧ commitE d base seq p = 1 := by
  have h2 : (seqS seq && basedS base) = false := by
    unfold seqS basedS
    rw [Bool.eq_false_iff]
    intro h3
    simp only [Bool.and_eq_true, decide_eq_true_eq] at h3
    omega
  unfold commitS commitE
  exact ⟨if_pos h2, if_pos h2⟩
theorem commit_good {d : Dk} {base seq : Int} {p : List UInt8} (h : 1 ≤ seq ∧ seq ≤ 1099511627776 ∧ 0 ≤ base ∧ base ≤ 1000) : commitS d base seq p = (if 60000 < p.length then d else writeS d (base + seq.tmod 2) (recordS seq p)) ∧ commitE d base seq p = (if 60000 < p.length then 4 else putE d (base + seq.tmod 2) (recordS seq p).length) := by
  have h2 : ¬ (seqS seq && basedS base) = false := by
    unfold seqS basedS
    simp only [Bool.and_eq_false_iff, decide_eq_false_iff_not]
    omega
  unfold commitS commitE
  exact ⟨if_neg h2, if_neg h2⟩
set_option maxRecDepth 10000 in
set_option maxHeartbeats 1000000 in
theorem commit15 (P : Nat → Prop) (w : World) (hP : Anew w P) (A : Option Addr) (n c : Nat) (d : Dk) (ha : BL w P A n c d.areas) (hn : n ≤ 64)
   (D : Option Addr) (m dc : Nat) (p : List UInt8) {PX : Nat → Prop} (hx : BV w PX D m dc p) (hm : m ≤ 1000000) (base seq : Int) (hw0 : 0 ≤ d.wr) (hw1 : d.wr < 4611686018427387904) (hs : ∀ l ∈ d.areas, l.length ≤ 35184372088832) :
    Calls Tryd.prog 15 #[.agg #[.slice A n c, .int .i64 d.wr, .int .i64 d.ct, .int .i64 d.tn, .bool d.off], .int .i64 base, .int .i64 seq, .slice D m dc] w (DRes P w n (commitS d base seq p) (commitE d base seq p)) := by
  have hxl := hx.len
  have hrl := record_len seq p
  have haB := ha.bdP
  refine calls_enter Tryd.func15 rfl Tryd.ntmps15 rfl ?_
  have hE : Ext w w := Ext.refl w
  refine Wc.seq (fun K1 hK1 => ?_)
  refine Wc.keep [(0, _), (1, _), (2, _), (3, _)] (.cons rfl (.cons rfl (.cons rfl (.cons rfl (.nil))))) ?_
  refine Wc.region ?_
  refine Wl.does rfl rfl rfl (Does.boxA rfl rfl) ?_
  rintro _ w0_0 ⟨b4, rfl, hs4, hb4, hx0_0⟩
  have hg4 : w.heap.size ≤ b4 := Nat.le_trans hE.size hs4
  replace hE := hE.trans hx0_0
  refine Wl.does rfl rfl rfl (Does.alB (.agg #[(.slice none 0 0), (.int .i64 0), (.int .i64 0), (.int .i64 0), (.bool false)]) rfl (by kernel_rfl) rfl) ?_
  rintro _ w0_1 ⟨b8, rfl, hs8, hb8, hx0_1⟩
  have hn4_8 : b4 ≠ b8 := hb4.ne hs8
  have hg8 : w.heap.size ≤ b8 := Nat.le_trans hE.size hs8
  replace hb4 := hb4.ext hx0_1
  replace hE := hE.trans hx0_1
  refine Wl.val rfl rfl rfl (Gives.assign rfl rfl) ?_
  refine Wl.nil ?_
  refine Wx.thenN (hK1 _ _ ?_)
  refine Wc.seq (fun K2 hK2 => ?_)
  refine Wc.seq (fun K3 hK3 => ?_)
  refine Wc.keep [(1, _), (2, _), (3, _), (4, _), (8, _)] (.cons rfl (.cons rfl (.cons rfl (.cons rfl (.cons rfl (.nil)))))) ?_
  refine Wc.region ?_
  refine Wl.val rfl rfl rfl (Gives.move rfl rfl) ?_
  refine Wl.val rfl rfl rfl (Gives.lss rfl rfl rfl) ?_
  refine Wl.val rfl rfl rfl (Gives.move rfl rfl) ?_
  refine Wl.guard rfl rfl rfl (fun h12 => ?_) (fun h12 => ?_)
  · (first | replace h12 := of_decide_eq_false h12 | replace h12 := nd_false h12 | skip)
    refine Wl.val rfl rfl rfl (Gives.move rfl rfl) ?_
    refine Wl.val rfl rfl rfl (Gives.gtr rfl rfl rfl) ?_
    refine Wl.val rfl rfl rfl (Gives.pickF rfl rfl rfl rfl) ?_
    refine Wl.val rfl rfl rfl (Gives.move rfl rfl) ?_
    refine Wl.guard rfl rfl rfl (fun h16 => ?_) (fun h16 => ?_)
    · (first | replace h16 := of_decide_eq_false h16 | replace h16 := nd_false h16 | skip)
      refine Wl.val rfl rfl rfl (Gives.move rfl rfl) ?_
      refine Wl.val rfl rfl rfl (Gives.lss rfl rfl rfl) ?_
      refine Wl.val rfl rfl rfl (Gives.pickF rfl rfl rfl rfl) ?_
      refine Wl.val rfl rfl rfl (Gives.move rfl rfl) ?_
      refine Wl.guard rfl rfl rfl (fun h20 => ?_) (fun h20 => ?_)
      · (first | replace h20 := of_decide_eq_false h20 | replace h20 := nd_false h20 | skip)
        refine Wl.val rfl rfl rfl (Gives.move rfl rfl) ?_
        refine Wl.val rfl rfl rfl (Gives.gtr rfl rfl rfl) ?_
        refine Wl.val rfl rfl rfl (Gives.pickF rfl rfl rfl rfl) ?_
        refine Wl.nil ?_
        refine Wx.thenN (hK3 _ _ ?_)
        refine Wc.cond _ rfl (fun h23 => ?_) (fun h23 => ?_)
        · (first | replace h23 := of_decide_eq_true h23 | replace h23 := nd_true h23 | skip)
          refine Wc.seq (fun K4 hK4 => ?_)
          refine Wc.keep [(4, _), (8, _)] (.cons rfl (.cons rfl (.nil))) ?_
          refine Wc.region ?_
          refine Wl.val rfl rfl rfl (Gives.ldW rfl (by kernel_rfl) rfl hb4 (by kernel_rfl)) ?_
          refine Wl.acts rfl rfl (Does.stL 5 rfl rfl rfl hb8 (by kernel_rfl) rfl rfl rfl) ?_
          rintro _ w2_1 ⟨hbn, hF2_1⟩
          replace hb4 := hb4.fr hF2_1 (by first | assumption | exact Ne.symm (by assumption))
          replace hE := Ext.over hE hF2_1 hg8
          replace hb8 := hbn
          clear hbn
          refine Wl.val rfl rfl rfl (Gives.assign rfl rfl) ?_
          refine Wl.nil ?_
          refine Wx.thenN (hK4 _ _ ?_)
          refine Wc.ret ?_
          refine Wx.thenR ?_
          refine Wx.ret [_, _] ⟨⟨_, rfl, res_blk hb8 Tryd.underlying28 rfl (by kernel_rfl)⟩, ⟨rfl, trivial⟩⟩ ?_
          obtain ⟨q1, q2⟩ := commit_bad (d := d) (base := base) (seq := seq) (p := p) (by omega)
          rw [q1, q2]
          exact DRes.mk rfl (ha.ext hE) hE
        · (first | replace h23 := of_decide_eq_false h23 | replace h23 := nd_false h23 | skip)
          refine Wc.skip ?_
          refine Wx.thenN (hK2 _ _ ?_)
          refine Wc.seq (fun K5 hK5 => ?_)
          refine Wc.seq (fun K6 hK6 => ?_)
          refine Wc.keep [(1, _), (2, _), (3, _), (4, _), (8, _)] (.cons rfl (.cons rfl (.cons rfl (.cons rfl (.cons rfl (.nil)))))) ?_
          refine Wc.region ?_
          refine Wl.val rfl rfl rfl (Gives.move rfl rfl) ?_
          refine Wl.val rfl rfl rfl (Gives.lenS rfl Tryd.underlying23 rfl) ?_
          refine Wl.val rfl rfl rfl (Gives.gtr rfl rfl rfl) ?_
          refine Wl.nil ?_
          refine Wx.thenN (hK6 _ _ ?_)
          refine Wc.cond _ rfl (fun h27 => ?_) (fun h27 => ?_)
          · (first | replace h27 := of_decide_eq_true h27 | replace h27 := nd_true h27 | skip)
            refine Wc.seq (fun K7 hK7 => ?_)
            refine Wc.keep [(4, _), (8, _)] (.cons rfl (.cons rfl (.nil))) ?_
            refine Wc.region ?_
            refine Wl.val rfl rfl rfl (Gives.ldW rfl (by kernel_rfl) rfl hb4 (by kernel_rfl)) ?_
            refine Wl.acts rfl rfl (Does.stL 5 rfl rfl rfl hb8 (by kernel_rfl) rfl rfl rfl) ?_
            rintro _ w4_1 ⟨hbn, hF4_1⟩
            replace hb4 := hb4.fr hF4_1 (by first | assumption | exact Ne.symm (by assumption))
            replace hE := Ext.over hE hF4_1 hg8
            replace hb8 := hbn
            clear hbn
            refine Wl.val rfl rfl rfl (Gives.assign rfl rfl) ?_
            refine Wl.nil ?_
            refine Wx.thenN (hK7 _ _ ?_)
            refine Wc.ret ?_
            refine Wx.thenR ?_
            refine Wx.ret [_, _] ⟨⟨_, rfl, res_blk hb8 Tryd.underlying28 rfl (by kernel_rfl)⟩, ⟨rfl, trivial⟩⟩ ?_
            obtain ⟨q1, q2⟩ := commit_good (d := d) (base := base) (seq := seq) (p := p) (by omega)
            rw [q1, q2, if_pos (by omega), if_pos (by omega)]
            exact DRes.mk rfl (ha.ext hE) hE
          · (first | replace h27 := of_decide_eq_false h27 | replace h27 := nd_false h27 | skip)
            refine Wc.skip ?_
            refine Wx.thenN (hK5 _ _ ?_)
            refine Wc.seq (fun K8 hK8 => ?_)
            refine Wc.keep [(1, _), (2, _), (3, _), (4, _), (8, _)] (.cons rfl (.cons rfl (.cons rfl (.cons rfl (.cons rfl (.nil)))))) ?_
            refine Wc.regionB (fun q => [0, 7, 8].contains q) [] (.read 0 (.read 1 (.read 2 (.read 3 (.read 4 (.read 5 (.read 6 (.call false 7 (.call true 8 (.read 9 (.read 10 .tail)) .none) .none)))))))) 11 (by kernel_rfl) (by kernel_rfl) (by kernel_rfl) ?_
            intro w5 hR5
            replace hb4 := hb4.ext hR5.ext
            replace hb8 := hb8.ext hR5.ext
            replace hE := hE.trans hR5.ext
            have hO5_4 : Old w5.heap.size [] b4 := ⟨hb4.lt, trivial⟩
            have hO5_8 : Old w5.heap.size [] b8 := ⟨hb8.lt, trivial⟩
            have hX := Ext.refl w5
            refine RunE.readM rfl rfl rfl rfl rfl (fun wS hS => (Gives.ldW rfl (by kernel_rfl) rfl ((hb4.ext hX).fr hS hO5_4) (by kernel_rfl))) ?_
            refine RunE.read rfl rfl rfl rfl (fun wS _ => (Gives.move rfl rfl)) ?_
            refine RunE.read rfl rfl rfl rfl (fun wS _ => (Gives.move rfl rfl)) ?_
            refine RunE.read rfl rfl rfl rfl (fun wS _ => (Gives.rem rfl rfl rfl (by omega) (by first | exact Int.tmod_eq_emod_of_nonneg (by omega) | exact rfl))) ?_
            refine RunE.read rfl rfl rfl rfl (fun wS _ => (Gives.add rfl rfl rfl (by first | exact IntWalk.i64_in _ (by omega) | exact u64_in _ (by omega) | exact u32_in _ (by omega) | exact u8_in _ (by omega) | exact rfl))) ?_
            refine RunE.read rfl rfl rfl rfl (fun wS _ => (Gives.move rfl rfl)) ?_
            refine RunE.read rfl rfl rfl rfl (fun wS _ => (Gives.move rfl rfl)) ?_
            refine RunE.turnC rfl rfl rfl rfl rfl Tryd.func24 rfl (by kernel_rfl) rfl (record15 _ seq D m dc p (hx.ext hE) hm) ?_ RunE.none
            rintro x1 w57 ⟨S1, k1, rfl, hO1, hx1⟩
            refine ⟨_, rfl, ?_⟩
            refine ⟨hx1.fr, ?_⟩
            replace hX := hX.trans hx1
            refine RunE.freeC rfl rfl rfl rfl rfl Tryd.func18 rfl (by kernel_rfl) rfl (writeR_calls (fun k => P k ∧ k ≠ b8) w57 (fun k hk => ⟨hP k (Nat.le_trans (hE.trans hx1).size hk), by have := hb8.lt; have := hx1.size; omega⟩) A n c d ((haB.ext (hE.trans hx1)).mono fun k hk => ⟨hk.1, by omega⟩) hn S1 (44 + m) k1 (recordS seq p) (hO1.bvA (Anew.top _)) (by omega) (base + seq % 2) hw0 hw1 hs) ?_ RunE.none
            rintro x2 w58 ⟨A2, c2, d2, e2, rfl, H2, hb2, hx2⟩
            refine ⟨_, rfl, ?_⟩
            replace hX := hX.trans hx2
            refine RunE.read rfl rfl rfl rfl (fun wS _ => (Gives.extract rfl rfl rfl)) ?_
            refine RunE.read rfl rfl rfl rfl (fun wS _ => (Gives.extract rfl rfl rfl)) ?_
            refine RunE.tail rfl ?_
            replace hb4 := hb4.ext hX
            replace hb8 := hb8.ext hX
            replace hE := hE.trans hX
            refine Wl.acts rfl rfl (Does.stL 5 rfl rfl rfl hb8 (by kernel_rfl) rfl rfl rfl) ?_
            rintro _ w5_11 ⟨hbn, hF5_11⟩
            replace hb4 := hb4.fr hF5_11 (by first | assumption | exact Ne.symm (by assumption))
            replace hE := Ext.over hE hF5_11 hg8
            replace hb8 := hbn
            clear hbn
            have hb3 := (hb2.fr (hF5_11.mono fun k hk => hk.2)).mono fun k hk => hk.1
            refine Wl.val rfl rfl rfl (Gives.assign rfl rfl) ?_
            refine Wl.nil ?_
            refine Wx.thenN (hK8 _ _ ?_)
            refine Wc.ret ?_
            refine Wx.ret [_, _] ⟨⟨_, rfl, res_blk hb8 Tryd.underlying28 rfl (by kernel_rfl)⟩, ⟨rfl, trivial⟩⟩ ?_
            obtain ⟨q1, q2⟩ := commit_good (d := d) (base := base) (seq := seq) (p := p) (by omega)
            rw [q1, q2, if_neg (by omega), if_neg (by omega), hrl, hxl, Int.tmod_eq_emod_of_nonneg (by omega)]
            exact ⟨A2, c2, d2, e2, rfl, H2, hb3, hE⟩
      · (first | replace h20 := of_decide_eq_true h20 | replace h20 := nd_true h20 | skip)
        refine Wl.pass rfl rfl rfl ?_
        refine Wl.pass rfl rfl rfl ?_
        refine Wl.val rfl rfl rfl (Gives.pickT rfl rfl rfl rfl) ?_
        refine Wl.nil ?_
        refine Wx.thenN (hK3 _ _ ?_)
        refine Wc.condT rfl rfl ?_
        refine Wc.seq (fun K9 hK9 => ?_)
        refine Wc.keep [(4, _), (8, _)] (.cons rfl (.cons rfl (.nil))) ?_
        refine Wc.region ?_
        refine Wl.val rfl rfl rfl (Gives.ldW rfl (by kernel_rfl) rfl hb4 (by kernel_rfl)) ?_
        refine Wl.acts rfl rfl (Does.stL 5 rfl rfl rfl hb8 (by kernel_rfl) rfl rfl rfl) ?_
        rintro _ w2_1 ⟨hbn, hF2_1⟩
        replace hb4 := hb4.fr hF2_1 (by first | assumption | exact Ne.symm (by assumption))
        replace hE := Ext.over hE hF2_1 hg8
        replace hb8 := hbn
        clear hbn
        refine Wl.val rfl rfl rfl (Gives.assign rfl rfl) ?_
        refine Wl.nil ?_
        refine Wx.thenN (hK9 _ _ ?_)
        refine Wc.ret ?_
        refine Wx.thenR ?_
        refine Wx.ret [_, _] ⟨⟨_, rfl, res_blk hb8 Tryd.underlying28 rfl (by kernel_rfl)⟩, ⟨rfl, trivial⟩⟩ ?_
        obtain ⟨q1, q2⟩ := commit_bad (d := d) (base := base) (seq := seq) (p := p) (by omega)
        rw [q1, q2]
        exact DRes.mk rfl (ha.ext hE) hE
    · (first | replace h16 := of_decide_eq_true h16 | replace h16 := nd_true h16 | skip)
      refine Wl.pass rfl rfl rfl ?_
      refine Wl.pass rfl rfl rfl ?_
      refine Wl.val rfl rfl rfl (Gives.pickT rfl rfl rfl rfl) ?_
      refine Wl.val rfl rfl rfl (Gives.move rfl rfl) ?_
      refine Wl.guardF rfl rfl rfl rfl ?_
      refine Wl.pass rfl rfl rfl ?_
      refine Wl.pass rfl rfl rfl ?_
      refine Wl.val rfl rfl rfl (Gives.pickT rfl rfl rfl rfl) ?_
      refine Wl.nil ?_
      refine Wx.thenN (hK3 _ _ ?_)
      refine Wc.condT rfl rfl ?_
      refine Wc.seq (fun K10 hK10 => ?_)
      refine Wc.keep [(4, _), (8, _)] (.cons rfl (.cons rfl (.nil))) ?_
      refine Wc.region ?_
      refine Wl.val rfl rfl rfl (Gives.ldW rfl (by kernel_rfl) rfl hb4 (by kernel_rfl)) ?_
      refine Wl.acts rfl rfl (Does.stL 5 rfl rfl rfl hb8 (by kernel_rfl) rfl rfl rfl) ?_
      rintro _ w2_1 ⟨hbn, hF2_1⟩
      replace hb4 := hb4.fr hF2_1 (by first | assumption | exact Ne.symm (by assumption))
      replace hE := Ext.over hE hF2_1 hg8
      replace hb8 := hbn
      clear hbn
      refine Wl.val rfl rfl rfl (Gives.assign rfl rfl) ?_
      refine Wl.nil ?_
      refine Wx.thenN (hK10 _ _ ?_)
      refine Wc.ret ?_
      refine Wx.thenR ?_
      refine Wx.ret [_, _] ⟨⟨_, rfl, res_blk hb8 Tryd.underlying28 rfl (by kernel_rfl)⟩, ⟨rfl, trivial⟩⟩ ?_
      obtain ⟨q1, q2⟩ := commit_bad (d := d) (base := base) (seq := seq) (p := p) (by omega)
      rw [q1, q2]
      exact DRes.mk rfl (ha.ext hE) hE
  · (first | replace h12 := of_decide_eq_true h12 | replace h12 := nd_true h12 | skip)
    refine Wl.pass rfl rfl rfl ?_
    refine Wl.pass rfl rfl rfl ?_
    refine Wl.val rfl rfl rfl (Gives.pickT rfl rfl rfl rfl) ?_
    refine Wl.val rfl rfl rfl (Gives.move rfl rfl) ?_
    refine Wl.guardF rfl rfl rfl rfl ?_
    refine Wl.pass rfl rfl rfl ?_
    refine Wl.pass rfl rfl rfl ?_
    refine Wl.val rfl rfl rfl (Gives.pickT rfl rfl rfl rfl) ?_
    refine Wl.val rfl rfl rfl (Gives.move rfl rfl) ?_
    refine Wl.guardF rfl rfl rfl rfl ?_
    refine Wl.pass rfl rfl rfl ?_
    refine Wl.pass rfl rfl rfl ?_
    refine Wl.val rfl rfl rfl (Gives.pickT rfl rfl rfl rfl) ?_
    refine Wl.nil ?_
    refine Wx.thenN (hK3 _ _ ?_)
    refine Wc.condT rfl rfl ?_
    refine Wc.seq (fun K11 hK11 => ?_)
    refine Wc.keep [(4, _), (8, _)] (.cons rfl (.cons rfl (.nil))) ?_
    refine Wc.region ?_
    refine Wl.val rfl rfl rfl (Gives.ldW rfl (by kernel_rfl) rfl hb4 (by kernel_rfl)) ?_
    refine Wl.acts rfl rfl (Does.stL 5 rfl rfl rfl hb8 (by kernel_rfl) rfl rfl rfl) ?_
    rintro _ w2_1 ⟨hbn, hF2_1⟩
    replace hb4 := hb4.fr hF2_1 (by first | assumption | exact Ne.symm (by assumption))
    replace hE := Ext.over hE hF2_1 hg8
    replace hb8 := hbn
    clear hbn
    refine Wl.val rfl rfl rfl (Gives.assign rfl rfl) ?_
    refine Wl.nil ?_
    refine Wx.thenN (hK11 _ _ ?_)
    refine Wc.ret ?_
    refine Wx.thenR ?_
    refine Wx.ret [_, _] ⟨⟨_, rfl, res_blk hb8 Tryd.underlying28 rfl (by kernel_rfl)⟩, ⟨rfl, trivial⟩⟩ ?_
    obtain ⟨q1, q2⟩ := commit_bad (d := d) (base := base) (seq := seq) (p := p) (by omega)
    rw [q1, q2]
    exact DRes.mk rfl (ha.ext hE) hE
end Go.Proofs.YtbbeoojlgfegjaaDoor
/- Journals: Commit of the program. -/
namespace Go.Proofs.YtbbeoojlgfegjaaDoor
set_option linter.all false
open Go.RowKit
set_option maxRecDepth 10000 in
set_option maxHeartbeats 1000000 in
theorem commitP (P : Nat → Prop) (w : World) (hT : Tab w) (hP : Anew w P) (A : Option Addr) (n c : Nat) (d : Dk) (ha : BL w P A n c d.areas) (hn : n ≤ 64)
   (D : Option Addr) (m dc : Nat) (p : List UInt8) {PX : Nat → Prop} (hx : BV w PX D m dc p) (hm : m ≤ 1000000) (base seq : Int) (hw0 : 0 ≤ d.wr) (hw1 : d.wr < 4611686018427387904) (hs : ∀ l ∈ d.areas, l.length ≤ 35184372088832) :
    Calls Tryd.prog 14 #[.agg #[.slice A n c, .int .i64 d.wr, .int .i64 d.ct, .int .i64 d.tn, .bool d.off], .int .i64 base, .int .i64 seq, .slice D m dc] w (DRes P w n (commitS d base seq p) (commitE d base seq p)) := by
  have hxl := hx.len
  have hrl := record_len seq p
  have haB := ha.bdP
  refine calls_enter Tryd.func14 rfl Tryd.ntmps14 rfl ?_
  have hE : Ext w w := Ext.refl w
  refine Wc.seq (fun K1 hK1 => ?_)
  refine Wc.keep [(0, _), (1, _), (2, _), (3, _)] (.cons rfl (.cons rfl (.cons rfl (.cons rfl (.nil))))) ?_
  refine Wc.region ?_
  refine Wl.does rfl rfl rfl (Does.boxA rfl rfl) ?_
  rintro _ w0_0 ⟨b4, rfl, hs4, hb4, hx0_0⟩
  have hg4 : w.heap.size ≤ b4 := Nat.le_trans hE.size hs4
  replace hE := hE.trans hx0_0
  refine Wl.does rfl rfl rfl (Does.alB (.agg #[(.slice none 0 0), (.int .i64 0), (.int .i64 0), (.int .i64 0), (.bool false)]) rfl (by kernel_rfl) rfl) ?_
  rintro _ w0_1 ⟨b8, rfl, hs8, hb8, hx0_1⟩
  have hn4_8 : b4 ≠ b8 := hb4.ne hs8
  have hg8 : w.heap.size ≤ b8 := Nat.le_trans hE.size hs8
  replace hb4 := hb4.ext hx0_1
  replace hE := hE.trans hx0_1
  refine Wl.val rfl rfl rfl (Gives.assign rfl rfl) ?_
  refine Wl.nil ?_
  refine Wx.thenN (hK1 _ _ ?_)
  refine Wc.seq (fun K2 hK2 => ?_)
  refine Wc.seq (fun K3 hK3 => ?_)
  refine Wc.keep [(1, _), (2, _), (3, _), (4, _), (8, _)] (.cons rfl (.cons rfl (.cons rfl (.cons rfl (.cons rfl (.nil)))))) ?_
  refine Wc.region ?_
  refine Wl.val rfl rfl rfl (Gives.move rfl rfl) ?_
  refine Wl.val rfl rfl rfl (Gives.lss rfl rfl rfl) ?_
  refine Wl.val rfl rfl rfl (Gives.move rfl rfl) ?_
  refine Wl.guard rfl rfl rfl (fun h13 => ?_) (fun h13 => ?_)
  · (first | replace h13 := of_decide_eq_false h13 | replace h13 := nd_false h13 | skip)
    refine Wl.val rfl rfl rfl (Gives.move rfl rfl) ?_
    refine Wl.val rfl rfl rfl (Gives.gtr rfl rfl rfl) ?_
    refine Wl.val rfl rfl rfl (Gives.pickF rfl rfl rfl rfl) ?_
    refine Wl.val rfl rfl rfl (Gives.move rfl rfl) ?_
    refine Wl.guard rfl rfl rfl (fun h17 => ?_) (fun h17 => ?_)
    · (first | replace h17 := of_decide_eq_false h17 | replace h17 := nd_false h17 | skip)
      refine Wl.val rfl rfl rfl (Gives.move rfl rfl) ?_
      refine Wl.call rfl rfl rfl rfl Tryd.func31 rfl (by kernel_rfl) rfl (based_calls _ base) ?_
      rintro x0 w18 ⟨rfl, hx0⟩
      refine ⟨_, rfl, ?_⟩
      replace hb4 := hb4.ext hx0
      replace hb8 := hb8.ext hx0
      replace hE := hE.trans hx0
      refine Wl.val rfl rfl rfl (Gives.not rfl rfl) ?_
      refine Wl.val rfl rfl rfl (Gives.pickF rfl rfl rfl rfl) ?_
      refine Wl.nil ?_
      refine Wx.thenN (hK3 _ _ ?_)
      refine Wc.cond _ rfl (fun h21 => ?_) (fun h21 => ?_)
      · (first | replace h21 := of_decide_eq_true h21 | replace h21 := nd_true h21 | skip)
        refine Wc.seq (fun K4 hK4 => ?_)
        refine Wc.keep [(4, _), (8, _)] (.cons rfl (.cons rfl (.nil))) ?_
        refine Wc.region ?_
        refine Wl.val rfl rfl rfl (Gives.ldW rfl (by kernel_rfl) rfl hb4 (by kernel_rfl)) ?_
        refine Wl.acts rfl rfl (Does.stL 5 rfl rfl rfl hb8 (by kernel_rfl) rfl rfl rfl) ?_
        rintro _ w2_1 ⟨hbn, hF2_1⟩
        replace hb4 := hb4.fr hF2_1 (by first | assumption | exact Ne.symm (by assumption))
        replace hE := Ext.over hE hF2_1 hg8
        replace hb8 := hbn
        clear hbn
        refine Wl.val rfl rfl rfl (Gives.assign rfl rfl) ?_
        refine Wl.nil ?_
        refine Wx.thenN (hK4 _ _ ?_)
        refine Wc.ret ?_
        refine Wx.thenR ?_
        refine Wx.ret [_, _] ⟨⟨_, rfl, res_blk hb8 Tryd.underlying28 rfl (by kernel_rfl)⟩, ⟨rfl, trivial⟩⟩ ?_
        have hbs : basedS base = false := by simpa using h21
        obtain ⟨q1, q2⟩ := commit_bad (d := d) (base := base) (seq := seq) (p := p) (by intro hh; unfold basedS at hbs; rw [decide_eq_true hh.2.2.1, decide_eq_true hh.2.2.2] at hbs; cases hbs)
        rw [q1, q2]
        exact DRes.mk rfl (ha.ext hE) hE
      · (first | replace h21 := of_decide_eq_false h21 | replace h21 := nd_false h21 | skip)
        refine Wc.skip ?_
        refine Wx.thenN (hK2 _ _ ?_)
        refine Wc.seq (fun K5 hK5 => ?_)
        refine Wc.seq (fun K6 hK6 => ?_)
        refine Wc.keep [(1, _), (2, _), (3, _), (4, _), (8, _)] (.cons rfl (.cons rfl (.cons rfl (.cons rfl (.cons rfl (.nil)))))) ?_
        have hbs : basedS base = true := by simpa using h21
        unfold basedS at hbs
        rw [Bool.and_eq_true, decide_eq_true_eq, decide_eq_true_eq] at hbs
        refine Wc.region ?_
        refine Wl.val rfl rfl rfl (Gives.move rfl rfl) ?_
        refine Wl.val rfl rfl rfl (Gives.lenS rfl Tryd.underlying23 rfl) ?_
        refine Wl.val rfl rfl rfl (Gives.gtr rfl rfl rfl) ?_
        refine Wl.nil ?_
        refine Wx.thenN (hK6 _ _ ?_)
        refine Wc.cond _ rfl (fun h25 => ?_) (fun h25 => ?_)
        · (first | replace h25 := of_decide_eq_true h25 | replace h25 := nd_true h25 | skip)
          refine Wc.seq (fun K7 hK7 => ?_)
          refine Wc.keep [(4, _), (8, _)] (.cons rfl (.cons rfl (.nil))) ?_
          refine Wc.region ?_
          refine Wl.val rfl rfl rfl (Gives.ldW rfl (by kernel_rfl) rfl hb4 (by kernel_rfl)) ?_
          refine Wl.acts rfl rfl (Does.stL 5 rfl rfl rfl hb8 (by kernel_rfl) rfl rfl rfl) ?_
          rintro _ w4_1 ⟨hbn, hF4_1⟩
          replace hb4 := hb4.fr hF4_1 (by first | assumption | exact Ne.symm (by assumption))
          replace hE := Ext.over hE hF4_1 hg8
          replace hb8 := hbn
          clear hbn
          refine Wl.val rfl rfl rfl (Gives.assign rfl rfl) ?_
          refine Wl.nil ?_
          refine Wx.thenN (hK7 _ _ ?_)
          refine Wc.ret ?_
          refine Wx.thenR ?_
          refine Wx.ret [_, _] ⟨⟨_, rfl, res_blk hb8 Tryd.underlying28 rfl (by kernel_rfl)⟩, ⟨rfl, trivial⟩⟩ ?_
          obtain ⟨q1, q2⟩ := commit_good (d := d) (base := base) (seq := seq) (p := p) (by omega)
          rw [q1, q2, if_pos (by omega), if_pos (by omega)]
          exact DRes.mk rfl (ha.ext hE) hE
        · (first | replace h25 := of_decide_eq_false h25 | replace h25 := nd_false h25 | skip)
          refine Wc.skip ?_
          refine Wx.thenN (hK5 _ _ ?_)
          refine Wc.seq (fun K8 hK8 => ?_)
          refine Wc.keep [(1, _), (2, _), (3, _), (4, _), (8, _)] (.cons rfl (.cons rfl (.cons rfl (.cons rfl (.cons rfl (.nil)))))) ?_
          refine Wc.region ?_
          refine Wl.val rfl rfl rfl (Gives.move rfl rfl) ?_
          refine Wl.val rfl rfl rfl (Gives.move rfl rfl) ?_
          refine Wl.call rfl rfl rfl rfl Tryd.func33 rfl (by kernel_rfl) rfl (markP _ (hT.ext hE) seq D m dc p (hx.ext hE) hm) ?_
          rintro x1 w52 ⟨S1, k1, rfl, hO1, hx1⟩
          refine ⟨_, rfl, ?_⟩
          have hz8 : b8 < w52.heap.size := Nat.lt_of_lt_of_le hb8.lt hx1.size
          have hz4 : b4 < w52.heap.size := Nat.lt_of_lt_of_le hb4.lt hx1.size
          have hzw : w.heap.size ≤ w52.heap.size := (hE.trans hx1).size
          replace hb4 := hb4.ext hx1
          replace hb8 := hb8.ext hx1
          replace hE := hE.trans hx1
          refine Wl.val rfl rfl rfl (Gives.move rfl rfl) ?_
          refine Wl.call rfl rfl rfl rfl Tryd.func32 rfl (by kernel_rfl) rfl (uint_calls _ S1 32 k1 _ (hO1.bvA (Anew.top _)) (by omega) 8 seq) ?_
          rintro x2 w54 ⟨S2, m2, k2, rfl, hO2, hx2⟩
          refine ⟨_, rfl, ?_⟩
          have hm2 := hO2.len
          have hm2' := uintS_len (markS seq p) 8 seq
          have hml := markS_len seq p
          replace hb4 := hb4.ext hx2
          replace hb8 := hb8.ext hx2
          replace hE := hE.trans hx2
          refine Wl.val rfl rfl rfl (Gives.move rfl rfl) ?_
          refine Wl.val rfl rfl rfl (Gives.lenS rfl Tryd.underlying23 rfl) ?_
          refine Wl.call rfl rfl rfl rfl Tryd.func32 rfl (by kernel_rfl) rfl (uint_calls _ S2 m2 k2 _ (hO2.bvA (Anew.top _)) (by omega) 4 ((m : Nat) : Int)) ?_
          rintro x3 w57 ⟨S3, m3, k3, rfl, hO3, hx3⟩
          refine ⟨_, rfl, ?_⟩
          replace hO3 := hO3.mono hx2.size
          have hm3 := hO3.len
          have hm3' := uintS_len (uintS (markS seq p) 8 seq) 4 ((m : Nat) : Int)
          have h44 : m3 + m = 44 + m := by { rw [← hxl] at hO3; have := hrl; unfold recordS at this; rw [List.length_append] at this; have := hO3.len; omega }
          obtain ⟨gS, rfl, hgS⟩ := hO3.head (by omega)
          replace hb4 := hb4.ext hx3
          replace hb8 := hb8.ext hx3
          replace hE := hE.trans hx3
          refine Wl.val rfl rfl rfl (Gives.assign rfl rfl) ?_
          refine Wl.nil ?_
          refine Wx.thenN (hK8 _ _ ?_)
          refine Wc.seq (fun K9 hK9 => ?_)
          refine Wc.keep [(1, _), (2, _), (3, _), (4, _), (8, _), (10, _)] (.cons rfl (.cons rfl (.cons rfl (.cons rfl (.cons rfl (.cons rfl (.nil))))))) ?_
          have hn4g : b4 ≠ gS := by omega
          have hn8g : b8 ≠ gS := by omega
          have hgg : w.heap.size ≤ gS := by omega
          have hz5 : w52.heap.size ≤ w57.heap.size := Nat.le_trans hx2.size hx3.size
          refine Wc.regionB (fun q => [0, 8].contains q) [gS] (.read 0 (.read 1 (.read 2 (.read 3 (.read 4 (.read 5 (.read 6 (.call false 7 (.call true 8 (.read 9 (.read 10 .tail)) .none) .none)))))))) 11 (by kernel_rfl) (by kernel_rfl) (by kernel_rfl) ?_
          intro w6 hR6
          replace hb4 := hb4.ext hR6.ext
          replace hb8 := hb8.ext hR6.ext
          replace hE := hE.trans hR6.ext
          have hO6_4 : Old w6.heap.size [gS] b4 := ⟨hb4.lt, ⟨by first | assumption | exact Ne.symm (by assumption), trivial⟩⟩
          have hO6_8 : Old w6.heap.size [gS] b8 := ⟨hb8.lt, ⟨by first | assumption | exact Ne.symm (by assumption), trivial⟩⟩
          have hX := Ext.refl w6
          replace hO3 := hO3.ext hR6.ext
          have hs6 := hR6.ext.size
          refine RunE.readM rfl rfl rfl rfl rfl (fun wS hS => (Gives.ldW rfl (by kernel_rfl) rfl ((hb4.ext hX).fr hS hO6_4) (by kernel_rfl))) ?_
          refine RunE.read rfl rfl rfl rfl (fun wS _ => (Gives.move rfl rfl)) ?_
          refine RunE.read rfl rfl rfl rfl (fun wS _ => (Gives.move rfl rfl)) ?_
          refine RunE.read rfl rfl rfl rfl (fun wS _ => (Gives.rem rfl rfl rfl (by omega) (by first | exact Int.tmod_eq_emod_of_nonneg (by omega) | exact rfl))) ?_
          refine RunE.read rfl rfl rfl rfl (fun wS _ => (Gives.add rfl rfl rfl (by first | exact IntWalk.i64_in _ (by omega) | exact u64_in _ (by omega) | exact u32_in _ (by omega) | exact u8_in _ (by omega) | exact rfl))) ?_
          refine RunE.read rfl rfl rfl rfl (fun wS _ => (Gives.move rfl rfl)) ?_
          refine RunE.read rfl rfl rfl rfl (fun wS _ => (Gives.move rfl rfl)) ?_
          refine RunE.turn rfl rfl rfl rfl (Does.appOg rfl Tryd.underlying23 infoB rfl rfl hO3 (hx.ext hE) (by omega) (by omega)) ?_ RunE.none
          rintro _ w67 ⟨S5, k5, rfl, hO5, hF67⟩
          have hE7 := Ext.over hE hF67 hgg
          refine ⟨hF67.mono (fun k h => h.2.1), ?_⟩
          replace hb4 := (hb4.ext hX).fr hF67 (by first | assumption | exact Ne.symm (by assumption))
          replace hb8 := (hb8.ext hX).fr hF67 (by first | assumption | exact Ne.symm (by assumption))
          replace hE := Ext.over (hE.trans hX) hF67 hgg
          replace hX := Ext.refl w67
          have hO6 : OB w67 w52.heap.size 5 S5 (m3 + m) k5 (recordS seq p) := by unfold recordS; rw [hxl]; exact hO5
          refine RunE.freeC rfl rfl rfl rfl rfl Tryd.func25 rfl (by kernel_rfl) rfl (write_calls (fun k => P k ∧ k ≠ b8) w67 (fun k hk => ⟨hP k (Nat.le_trans hE7.size hk), by have := hF67.size; omega⟩) A n c d ((haB.ext hE7).mono fun k hk => ⟨hk.1, by omega⟩) hn S5 (m3 + m) k5 (recordS seq p) (hO6.bv fun _ _ => trivial) (by omega) (base + seq % 2) hw0 hw1 hs) ?_ RunE.none
          rintro x2 w68 ⟨A2, c2, d2, e2, rfl, H2, hb2, hx9⟩
          refine ⟨_, rfl, ?_⟩
          replace hX := hX.trans hx9
          refine RunE.read rfl rfl rfl rfl (fun wS _ => (Gives.extract rfl rfl rfl)) ?_
          refine RunE.read rfl rfl rfl rfl (fun wS _ => (Gives.extract rfl rfl rfl)) ?_
          refine RunE.tail rfl ?_
          replace hb4 := hb4.ext hX
          replace hb8 := hb8.ext hX
          replace hE := hE.trans hX
          refine Wl.acts rfl rfl (Does.stL 5 rfl rfl rfl hb8 (by kernel_rfl) rfl rfl rfl) ?_
          rintro _ w6_11 ⟨hbn, hF6_11⟩
          replace hb4 := hb4.fr hF6_11 (by first | assumption | exact Ne.symm (by assumption))
          replace hE := Ext.over hE hF6_11 hg8
          replace hb8 := hbn
          clear hbn
          have hb3 := (hb2.fr (hF6_11.mono fun k hk => hk.2)).mono fun k hk => hk.1
          refine Wl.val rfl rfl rfl (Gives.assign rfl rfl) ?_
          refine Wl.nil ?_
          refine Wx.thenN (hK9 _ _ ?_)
          refine Wc.ret ?_
          refine Wx.ret [_, _] ⟨⟨_, rfl, res_blk hb8 Tryd.underlying28 rfl (by kernel_rfl)⟩, ⟨rfl, trivial⟩⟩ ?_
          obtain ⟨q1, q2⟩ := commit_good (d := d) (base := base) (seq := seq) (p := p) (by omega)
          rw [h44] at H2
          rw [q1, q2, if_neg (by omega), if_neg (by omega), hrl, hxl, Int.tmod_eq_emod_of_nonneg (by omega)]
          exact ⟨A2, c2, d2, e2, rfl, H2, hb3, hE⟩
    · (first | replace h17 := of_decide_eq_true h17 | replace h17 := nd_true h17 | skip)
      refine Wl.pass rfl rfl rfl ?_
      refine Wl.pass rfl rfl rfl ?_
      refine Wl.pass rfl rfl rfl ?_
      refine Wl.val rfl rfl rfl (Gives.pickT rfl rfl rfl rfl) ?_
      refine Wl.nil ?_
      refine Wx.thenN (hK3 _ _ ?_)
      refine Wc.condT rfl rfl ?_
      refine Wc.seq (fun K10 hK10 => ?_)
      refine Wc.keep [(4, _), (8, _)] (.cons rfl (.cons rfl (.nil))) ?_
      refine Wc.region ?_
      refine Wl.val rfl rfl rfl (Gives.ldW rfl (by kernel_rfl) rfl hb4 (by kernel_rfl)) ?_
      refine Wl.acts rfl rfl (Does.stL 5 rfl rfl rfl hb8 (by kernel_rfl) rfl rfl rfl) ?_
      rintro _ w2_1 ⟨hbn, hF2_1⟩
      replace hb4 := hb4.fr hF2_1 (by first | assumption | exact Ne.symm (by assumption))
      replace hE := Ext.over hE hF2_1 hg8
      replace hb8 := hbn
      clear hbn
      refine Wl.val rfl rfl rfl (Gives.assign rfl rfl) ?_
      refine Wl.nil ?_
      refine Wx.thenN (hK10 _ _ ?_)
      refine Wc.ret ?_
      refine Wx.thenR ?_
      refine Wx.ret [_, _] ⟨⟨_, rfl, res_blk hb8 Tryd.underlying28 rfl (by kernel_rfl)⟩, ⟨rfl, trivial⟩⟩ ?_
      obtain ⟨q1, q2⟩ := commit_bad (d := d) (base := base) (seq := seq) (p := p) (by omega)
      rw [q1, q2]
      exact DRes.mk rfl (ha.ext hE) hE
  · (first | replace h13 := of_decide_eq_true h13 | replace h13 := nd_true h13 | skip)
    refine Wl.pass rfl rfl rfl ?_
    refine Wl.pass rfl rfl rfl ?_
    refine Wl.val rfl rfl rfl (Gives.pickT rfl rfl rfl rfl) ?_
    refine Wl.val rfl rfl rfl (Gives.move rfl rfl) ?_
    refine Wl.guardF rfl rfl rfl rfl ?_
    refine Wl.pass rfl rfl rfl ?_
    refine Wl.pass rfl rfl rfl ?_
    refine Wl.pass rfl rfl rfl ?_
    refine Wl.val rfl rfl rfl (Gives.pickT rfl rfl rfl rfl) ?_
    refine Wl.nil ?_
    refine Wx.thenN (hK3 _ _ ?_)
    refine Wc.condT rfl rfl ?_
    refine Wc.seq (fun K11 hK11 => ?_)
    refine Wc.keep [(4, _), (8, _)] (.cons rfl (.cons rfl (.nil))) ?_
    refine Wc.region ?_
    refine Wl.val rfl rfl rfl (Gives.ldW rfl (by kernel_rfl) rfl hb4 (by kernel_rfl)) ?_
    refine Wl.acts rfl rfl (Does.stL 5 rfl rfl rfl hb8 (by kernel_rfl) rfl rfl rfl) ?_
    rintro _ w2_1 ⟨hbn, hF2_1⟩
    replace hb4 := hb4.fr hF2_1 (by first | assumption | exact Ne.symm (by assumption))
    replace hE := Ext.over hE hF2_1 hg8
    replace hb8 := hbn
    clear hbn
    refine Wl.val rfl rfl rfl (Gives.assign rfl rfl) ?_
    refine Wl.nil ?_
    refine Wx.thenN (hK11 _ _ ?_)
    refine Wc.ret ?_
    refine Wx.thenR ?_
    refine Wx.ret [_, _] ⟨⟨_, rfl, res_blk hb8 Tryd.underlying28 rfl (by kernel_rfl)⟩, ⟨rfl, trivial⟩⟩ ?_
    obtain ⟨q1, q2⟩ := commit_bad (d := d) (base := base) (seq := seq) (p := p) (by omega)
    rw [q1, q2]
    exact DRes.mk rfl (ha.ext hE) hE
end Go.Proofs.YtbbeoojlgfegjaaDoor
/- Journals: reading a record. -/
namespace Go.Proofs.YtbbeoojlgfegjaaDoor
set_option linter.all false
open Go.RowKit
/-- A region that draws its order and turns nothing that was there. -/
theorem Wc.regionX {P : Program} {n : Nat} {Q : Exit → Act → World → Prop} {e : Env} {w : World} {id : Nat} {l : List Oper} (rd : Nat → Bool) (plan : Plan) (m : Nat) (hm : P.follows .mixedOrders = true) (hB : factsB l m n = true) (hP : planOk rd l m plan [] [] = true)
    (h : ∀ w1, Quiet w w1 → RunE rd P n l m Ext Q plan e w1) : Wc P n (.region id l.toArray true) Q e w :=
  Wc.regionD rd Ext plan m hm hB hP Ext.refl (fun _ _ _ => Ext.trans) (fun a b => b = a.drew) rfl (fun w1 h1 => by subst h1; exact h w.drew quiet_drew)
theorem rdRaw_le (r : Rd) (k : Int) : (rdRaw r k).2.length ≤ r.b.length := by
  unfold rdRaw
  repeat' split
  all_goals simp only [List.length_nil, List.length_take, List.length_drop]
  all_goals omega
theorem ra1_b (l : List UInt8) : (ra1 l).1.b = l := rdRaw_b _ _
theorem ra2_b (l : List UInt8) : (ra2 l).1.b = l := (rdUint_b _ _).trans (ra1_b l)
theorem ra3_b (l : List UInt8) : (ra3 l).1.b = l := (rdUint_b _ _).trans (ra2_b l)
theorem ra4_le (l : List UInt8) : (ra4 l).2.length ≤ l.length := by
  have := rdRaw_le (ra3 l).1 (ra3 l).2
  rw [ra3_b] at this
  exact this
def ParR (w : World) (j : Jr) (e : Ending) (w' : World) : Prop := ∃ S m k, e = .returned (.tuple #[.slice S m k, .int .i64 j.s, .bool j.ok]) ∧ OB w' w.heap.size 5 S m k j.p ∧ Ext w w'
theorem ParR.no {w w' : World} {l : List UInt8} {k : Int} (h : okS l k = false) (hE : Ext w w') : ParR w (parseS l k) (.returned (resV [.slice none 0 0, .int .i64 0, .bool false])) w' :=
  ⟨none, 0, 0, by unfold parseS; rw [if_neg (by simp [h])]; rfl, by unfold parseS; rw [if_neg (by simp [h])]; exact OB.nil_ _ _ _, hE⟩
theorem ParR.yes {w w' : World} {l : List UInt8} {k : Int} {S : Option Addr} {m c : Nat} (h : okS l k = true) (hO : OB w' w.heap.size 5 S m c (ra4 l).2) (hE : Ext w w') : ParR w (parseS l k) (.returned (resV [.slice S m c, .int .i64 (ra2 l).2, .bool true])) w' :=
  ⟨S, m, c, by unfold parseS; rw [if_pos h]; rfl, by unfold parseS; rw [if_pos h]; exact hO, hE⟩
theorem ok_no {l : List UInt8} {k : Int} (h : ¬ ((ra4 l).1.e = 0 ∧ 1 ≤ (ra2 l).2 ∧ (ra2 l).2 % 2 = k ∧ (ra1 l).2 = markS (ra2 l).2 (ra4 l).2)) : okS l k = false := by
  rw [Bool.eq_false_iff]
  intro hh
  unfold okS at hh
  simp only [Bool.and_eq_true, decide_eq_true_eq] at hh
  obtain ⟨h1, h2, h3, h4⟩ := hh
  rw [Int.tmod_eq_emod_of_nonneg (by omega)] at h3
  exact h ⟨h1, h2, h3, h4⟩
theorem ok_yes {l : List UInt8} {k : Int} (h1 : (ra4 l).1.e = 0) (h2 : 1 ≤ (ra2 l).2) (h3 : (ra2 l).2 % 2 = k) (h4 : (ra1 l).2 = markS (ra2 l).2 (ra4 l).2) : okS l k = true := by
  unfold okS
  rw [decide_eq_true h1, decide_eq_true h2, decide_eq_true (by rw [Int.tmod_eq_emod_of_nonneg (by omega)]; exact h3), decide_eq_true h4]; rfl
set_option maxRecDepth 10000 in
set_option maxHeartbeats 1000000 in
theorem parseP {P : Nat → Prop} (w : World) (hT : Tab w) (A : Option Addr) (n c : Nat) (l : List UInt8) (ha : BV w P A n c l) (hn : n ≤ 1000000) (k : Int) :
    Calls Tryd.prog 37 #[.slice A n c, .int .i64 k] w (ParR w (parseS l k)) := by
  have hl := ha.len
  have hle4 := ra4_le l
  refine calls_enter Tryd.func37 rfl Tryd.ntmps37 rfl ?_
  have hE : Ext w w := Ext.refl w
  refine Wc.seq (fun K1 hK1 => ?_)
  refine Wc.keep [(0, _), (1, _)] (.cons rfl (.cons rfl (.nil))) ?_
  refine Wc.region ?_
  refine Wl.val rfl rfl rfl (Gives.assign rfl rfl) ?_
  refine Wl.val rfl rfl rfl (Gives.assign rfl rfl) ?_
  refine Wl.val rfl rfl rfl (Gives.assign rfl rfl) ?_
  refine Wl.nil ?_
  refine Wx.thenN (hK1 _ _ ?_)
  refine Wc.seq (fun K2 hK2 => ?_)
  refine Wc.keep [(0, _), (1, _)] (.cons rfl (.cons rfl (.nil))) ?_
  refine Wc.region ?_
  refine Wl.val rfl rfl rfl (Gives.move rfl rfl) ?_
  refine Wl.call rfl rfl rfl rfl Tryd.func47 rfl (by kernel_rfl) rfl ((newP_rd _ _ _ _ l (ha.ext hE) (by omega)).mono fun _ _ h => NewRd.x h) ?_
  rintro x1 w11 ⟨g, A', n', c', rfl, hg, hR, hx1⟩
  refine ⟨_, rfl, ?_⟩
  have hgg : w.heap.size ≤ g := Nat.le_trans hE.size hg
  generalize hN : w11.heap.size = N at *
  replace hE := hE.trans hx1
  refine Wl.val rfl rfl rfl (Gives.assign rfl rfl) ?_
  refine Wl.nil ?_
  refine Wx.thenN (hK2 _ _ ?_)
  refine Wc.seq (fun K3 hK3 => ?_)
  refine Wc.keep [(1, _), (7, _)] (.cons rfl (.cons rfl (.nil))) ?_
  refine Wc.region ?_
  refine Wl.val rfl rfl rfl (Gives.move rfl rfl) ?_
  refine Wl.call rfl rfl rfl rfl Tryd.func48 rfl (by kernel_rfl) rfl (rRaw_x _ g _ A' n' c' _ 32 hR) ?_
  rintro x2 w21 ⟨S1, m1, k1, rfl, hO1, hR1, hF1⟩
  refine ⟨_, rfl, ?_⟩
  replace hR1 : RDX 84 w21 g N A' n' c' (ra1 l).1 := hR1
  replace hO1 : OB w21 N 5 S1 m1 k1 (ra1 l).2 := by rw [← hN]; exact hO1
  replace hE := Ext.over hE hF1 hgg
  have hz1 := hF1.size
  have hgN : g < N := hR.lt
  refine Wl.val rfl rfl rfl (Gives.assign rfl rfl) ?_
  refine Wl.nil ?_
  refine Wx.thenN (hK3 _ _ ?_)
  refine Wc.seq (fun K4 hK4 => ?_)
  refine Wc.keep [(1, _), (7, _), (8, _)] (.cons rfl (.cons rfl (.cons rfl (.nil)))) ?_
  refine Wc.region ?_
  refine Wl.val rfl rfl rfl (Gives.move rfl rfl) ?_
  refine Wl.call rfl rfl rfl rfl Tryd.func49 rfl (by kernel_rfl) rfl ((rUint_x _ g _ A' n' c' _ 8 hR1).mono (R' := UintX 84 _ g N A' n' c' (ra2 l)) fun _ _ h => h) ?_
  rintro x3 w31 ⟨rfl, hR2, hF2⟩
  refine ⟨_, rfl, ?_⟩
  replace hR2 : RDX 84 w31 g N A' n' c' (ra2 l).1 := hR2
  replace hO1 : OB w31 N 5 S1 m1 k1 (ra1 l).2 := own_fr hO1 hF2 (fun q hq => by omega)
  replace hE := Ext.over hE hF2 hgg
  have hz2 := hF2.size
  refine Wl.val rfl rfl rfl (Gives.assign rfl rfl) ?_
  refine Wl.nil ?_
  refine Wx.thenN (hK4 _ _ ?_)
  refine Wc.seq (fun K5 hK5 => ?_)
  refine Wc.keep [(1, _), (5, _), (7, _), (8, _)] (.cons rfl (.cons rfl (.cons rfl (.cons rfl (.nil))))) ?_
  refine Wc.region ?_
  refine Wl.val rfl rfl rfl (Gives.move rfl rfl) ?_
  refine Wl.val rfl rfl rfl (Gives.move rfl rfl) ?_
  refine Wl.call rfl rfl rfl rfl Tryd.func49 rfl (by kernel_rfl) rfl ((rUint_x _ g _ A' n' c' _ 4 hR2).mono (R' := UintX 84 _ g N A' n' c' (ra3 l)) fun _ _ h => h) ?_
  rintro x4 w42 ⟨rfl, hR3, hF3⟩
  refine ⟨_, rfl, ?_⟩
  replace hR3 : RDX 84 w42 g N A' n' c' (ra3 l).1 := hR3
  replace hO1 : OB w42 N 5 S1 m1 k1 (ra1 l).2 := own_fr hO1 hF3 (fun q hq => by omega)
  replace hE := Ext.over hE hF3 hgg
  have hz3 := hF3.size
  refine Wl.call rfl rfl rfl rfl Tryd.func48 rfl (by kernel_rfl) rfl (rRaw_x _ g _ A' n' c' _ (ra3 l).2 hR3) ?_
  rintro x5 w43 ⟨S4, m4, k4, rfl, hO4, hR4, hF4⟩
  refine ⟨_, rfl, ?_⟩
  replace hR4 : RDX 84 w43 g N A' n' c' (ra4 l).1 := hR4
  replace hO1 : OB w43 N 5 S1 m1 k1 (ra1 l).2 := own_fr hO1 hF4 (fun q hq => by omega)
  replace hO4 : OB w43 N 5 S4 m4 k4 (ra4 l).2 := hO4.mono (by omega)
  replace hE := Ext.over hE hF4 hgg
  have hz4 := hO4.len
  refine Wl.val rfl rfl rfl (Gives.assign rfl rfl) ?_
  refine Wl.nil ?_
  refine Wx.thenN (hK5 _ _ ?_)
  refine Wc.seq (fun K6 hK6 => ?_)
  refine Wc.seq (fun K7 hK7 => ?_)
  refine Wc.keep [(1, _), (4, _), (5, _), (7, _), (8, _)] (.cons rfl (.cons rfl (.cons rfl (.cons rfl (.cons rfl (.nil)))))) ?_
  refine Wc.regionX (fun q => [1, 15, 18, 19].contains q) (.read 0 (.call true 1 (.read 2 (.read 3 (.read 4 (.read 5 (.read 6 (.read 7 (.read 8 (.read 9 (.read 10 (.read 11 (.read 12 (.read 13 (.read 14 (.read 15 (.read 16 (.read 17 (.call false 18 (.read 19 .tail) .none))))))))))))))))) .none)) 20 (by kernel_rfl) (by kernel_rfl) (by kernel_rfl) ?_
  intro w5 hR5
  replace hE := hE.trans hR5.ext
  have hX := Ext.refl w5
  replace hO1 := hO1.ext hR5.ext
  replace hO4 := hO4.ext hR5.ext
  replace hR4 := hR4.ext hR5.ext
  have hB1 : BV w5 (fun _ => True) S1 m1 k1 (ra1 l).2 := hO1.bv fun _ _ => trivial
  have hwN : w.heap.size ≤ N := by omega
  refine RunE.read rfl rfl rfl rfl (fun wS _ => (Gives.move rfl rfl)) ?_
  refine RunE.freeC rfl rfl rfl rfl rfl Tryd.func50 rfl (by kernel_rfl) rfl (rErr_x _ g _ A' n' c' _ hR4) ?_ RunE.none
  rintro x6 w51 ⟨rfl, hq⟩
  refine ⟨_, rfl, ?_⟩
  have hx51 : Ext w5 w51 := hq ▸ Ext.refl _
  replace hX := hX.trans hx51
  refine RunE.read rfl rfl rfl rfl (fun wS _ => (Gives.neq rfl rfl rfl)) ?_
  refine RunE.read rfl rfl rfl rfl (fun wS _ => (Gives.move rfl rfl)) ?_
  refine RunE.split (t := 22) rfl (fun h22 => ?_) (fun h22 => ?_)
  · (first | replace h22 := of_decide_eq_true h22 | replace h22 := nd_true h22 | skip)
    refine RunE.pass rfl rfl rfl rfl ?_
    refine RunE.pass rfl rfl rfl rfl ?_
    refine RunE.read rfl rfl rfl rfl (fun wS _ => (Gives.pickT rfl rfl rfl rfl)) ?_
    refine RunE.read rfl rfl rfl rfl (fun wS _ => (Gives.move rfl rfl)) ?_
    refine RunE.fix (t := 26) true rfl rfl ?_
    refine RunE.pass rfl rfl rfl rfl ?_
    refine RunE.pass rfl rfl rfl rfl ?_
    refine RunE.pass rfl rfl rfl rfl ?_
    refine RunE.pass rfl rfl rfl rfl ?_
    refine RunE.read rfl rfl rfl rfl (fun wS _ => (Gives.pickT rfl rfl rfl rfl)) ?_
    refine RunE.read rfl rfl rfl rfl (fun wS _ => (Gives.move rfl rfl)) ?_
    refine RunE.fix (t := 32) true rfl rfl ?_
    refine RunE.pass rfl rfl rfl rfl ?_
    refine RunE.pass rfl rfl rfl rfl ?_
    refine RunE.pass rfl rfl rfl rfl ?_
    refine RunE.pass rfl rfl rfl rfl ?_
    refine RunE.passC (fun _ => Ext.refl _) rfl rfl rfl rfl ?_ RunE.none
    refine RunE.pass rfl rfl rfl rfl ?_
    refine RunE.tail rfl ?_
    replace hE := hE.trans hX
    refine Wl.pass rfl rfl rfl ?_
    refine Wl.val rfl rfl rfl (Gives.pickT rfl rfl rfl rfl) ?_
    refine Wl.nil ?_
    refine Wx.thenN (hK7 _ _ ?_)
    refine Wc.condT rfl rfl ?_
    refine Wc.seq (fun K8 hK8 => ?_)
    refine Wc.keep [] (.nil) ?_
    refine Wc.region ?_
    refine Wl.val rfl rfl rfl (Gives.assign rfl rfl) ?_
    refine Wl.val rfl rfl rfl (Gives.assign rfl rfl) ?_
    refine Wl.val rfl rfl rfl (Gives.assign rfl rfl) ?_
    refine Wl.nil ?_
    refine Wx.thenN (hK8 _ _ ?_)
    refine Wc.ret ?_
    refine Wx.thenR ?_
    refine Wx.ret [_, _, _] ⟨rfl, ⟨rfl, ⟨rfl, trivial⟩⟩⟩ ?_
    first | exact ParR.no (ok_no (by rintro ⟨h1, h2, h3, h4⟩; first | omega | exact h40 h4 | simp_all)) hE | exact ParR.yes (ok_yes (by omega) (by omega) (by omega) (by first | exact of_not_not h40 | exact h40 | simpa using h40)) ((hO4.ext hX).mono hwN) hE
  · (first | replace h22 := of_decide_eq_false h22 | replace h22 := nd_false h22 | skip)
    refine RunE.read rfl rfl rfl rfl (fun wS _ => (Gives.move rfl rfl)) ?_
    refine RunE.read rfl rfl rfl rfl (fun wS _ => (Gives.lss rfl rfl rfl)) ?_
    refine RunE.read rfl rfl rfl rfl (fun wS _ => (Gives.pickF rfl rfl rfl rfl)) ?_
    refine RunE.read rfl rfl rfl rfl (fun wS _ => (Gives.move rfl rfl)) ?_
    refine RunE.split (t := 26) rfl (fun h26 => ?_) (fun h26 => ?_)
    · (first | replace h26 := of_decide_eq_true h26 | replace h26 := nd_true h26 | skip)
      refine RunE.pass rfl rfl rfl rfl ?_
      refine RunE.pass rfl rfl rfl rfl ?_
      refine RunE.pass rfl rfl rfl rfl ?_
      refine RunE.pass rfl rfl rfl rfl ?_
      refine RunE.read rfl rfl rfl rfl (fun wS _ => (Gives.pickT rfl rfl rfl rfl)) ?_
      refine RunE.read rfl rfl rfl rfl (fun wS _ => (Gives.move rfl rfl)) ?_
      refine RunE.fix (t := 32) true rfl rfl ?_
      refine RunE.pass rfl rfl rfl rfl ?_
      refine RunE.pass rfl rfl rfl rfl ?_
      refine RunE.pass rfl rfl rfl rfl ?_
      refine RunE.pass rfl rfl rfl rfl ?_
      refine RunE.passC (fun _ => Ext.refl _) rfl rfl rfl rfl ?_ RunE.none
      refine RunE.pass rfl rfl rfl rfl ?_
      refine RunE.tail rfl ?_
      replace hE := hE.trans hX
      refine Wl.pass rfl rfl rfl ?_
      refine Wl.val rfl rfl rfl (Gives.pickT rfl rfl rfl rfl) ?_
      refine Wl.nil ?_
      refine Wx.thenN (hK7 _ _ ?_)
      refine Wc.condT rfl rfl ?_
      refine Wc.seq (fun K9 hK9 => ?_)
      refine Wc.keep [] (.nil) ?_
      refine Wc.region ?_
      refine Wl.val rfl rfl rfl (Gives.assign rfl rfl) ?_
      refine Wl.val rfl rfl rfl (Gives.assign rfl rfl) ?_
      refine Wl.val rfl rfl rfl (Gives.assign rfl rfl) ?_
      refine Wl.nil ?_
      refine Wx.thenN (hK9 _ _ ?_)
      refine Wc.ret ?_
      refine Wx.thenR ?_
      refine Wx.ret [_, _, _] ⟨rfl, ⟨rfl, ⟨rfl, trivial⟩⟩⟩ ?_
      first | exact ParR.no (ok_no (by rintro ⟨h1, h2, h3, h4⟩; first | omega | exact h40 h4 | simp_all)) hE | exact ParR.yes (ok_yes (by omega) (by omega) (by omega) (by first | exact of_not_not h40 | exact h40 | simpa using h40)) ((hO4.ext hX).mono hwN) hE
    · (first | replace h26 := of_decide_eq_false h26 | replace h26 := nd_false h26 | skip)
      refine RunE.read rfl rfl rfl rfl (fun wS _ => (Gives.move rfl rfl)) ?_
      refine RunE.read rfl rfl rfl rfl (fun wS _ => (Gives.rem rfl rfl rfl (by omega) (by first | exact Int.tmod_eq_emod_of_nonneg (by omega) | exact rfl))) ?_
      refine RunE.read rfl rfl rfl rfl (fun wS _ => (Gives.move rfl rfl)) ?_
      refine RunE.read rfl rfl rfl rfl (fun wS _ => (Gives.neq rfl rfl rfl)) ?_
      refine RunE.read rfl rfl rfl rfl (fun wS _ => (Gives.pickF rfl rfl rfl rfl)) ?_
      refine RunE.read rfl rfl rfl rfl (fun wS _ => (Gives.move rfl rfl)) ?_
      refine RunE.split (t := 32) rfl (fun h32 => ?_) (fun h32 => ?_)
      · (first | replace h32 := of_decide_eq_true h32 | replace h32 := nd_true h32 | skip)
        refine RunE.pass rfl rfl rfl rfl ?_
        refine RunE.pass rfl rfl rfl rfl ?_
        refine RunE.pass rfl rfl rfl rfl ?_
        refine RunE.pass rfl rfl rfl rfl ?_
        refine RunE.passC (fun _ => Ext.refl _) rfl rfl rfl rfl ?_ RunE.none
        refine RunE.pass rfl rfl rfl rfl ?_
        refine RunE.tail rfl ?_
        replace hE := hE.trans hX
        refine Wl.pass rfl rfl rfl ?_
        refine Wl.val rfl rfl rfl (Gives.pickT rfl rfl rfl rfl) ?_
        refine Wl.nil ?_
        refine Wx.thenN (hK7 _ _ ?_)
        refine Wc.condT rfl rfl ?_
        refine Wc.seq (fun K10 hK10 => ?_)
        refine Wc.keep [] (.nil) ?_
        refine Wc.region ?_
        refine Wl.val rfl rfl rfl (Gives.assign rfl rfl) ?_
        refine Wl.val rfl rfl rfl (Gives.assign rfl rfl) ?_
        refine Wl.val rfl rfl rfl (Gives.assign rfl rfl) ?_
        refine Wl.nil ?_
        refine Wx.thenN (hK10 _ _ ?_)
        refine Wc.ret ?_
        refine Wx.thenR ?_
        refine Wx.ret [_, _, _] ⟨rfl, ⟨rfl, ⟨rfl, trivial⟩⟩⟩ ?_
        first | exact ParR.no (ok_no (by rintro ⟨h1, h2, h3, h4⟩; first | omega | exact h40 h4 | simp_all)) hE | exact ParR.yes (ok_yes (by omega) (by omega) (by omega) (by first | exact of_not_not h40 | exact h40 | simpa using h40)) ((hO4.ext hX).mono hwN) hE
      · (first | replace h32 := of_decide_eq_false h32 | replace h32 := nd_false h32 | skip)
        refine RunE.read rfl rfl rfl rfl (fun wS _ => (Gives.move rfl rfl)) ?_
        refine RunE.readM rfl rfl rfl rfl rfl (fun wS hS => (Gives.toStr rfl Tryd.underlying23 Tryd.underlying5 Tryd.underlying9 rfl ((hB1.ext hX).ext hS))) ?_
        refine RunE.read rfl rfl rfl rfl (fun wS _ => (Gives.move rfl rfl)) ?_
        refine RunE.read rfl rfl rfl rfl (fun wS _ => (Gives.move rfl rfl)) ?_
        refine RunE.turnC rfl rfl rfl rfl rfl Tryd.func33 rfl (by kernel_rfl) rfl (markP _ (hT.ext (hE.trans hX)) (ra2 l).2 S4 m4 k4 (ra4 l).2 ((hO4.bv (P := fun _ => True) fun _ _ => trivial).ext hX) (by omega)) ?_ RunE.none
        rintro x7 w58 ⟨S5, k5, rfl, hO5, hx58⟩
        refine ⟨_, rfl, ?_⟩
        have hB5 : BV w58 (fun _ => True) S5 32 k5 (markS (ra2 l).2 (ra4 l).2) := hO5.bv fun _ _ => trivial
        refine ⟨hx58, ?_⟩
        replace hX := hX.trans hx58
        refine RunE.readM rfl rfl rfl rfl rfl (fun wS hS => (Gives.toStr rfl Tryd.underlying23 Tryd.underlying5 Tryd.underlying9 rfl (hB5.ext hS))) ?_
        refine RunE.tail rfl ?_
        replace hE := hE.trans hX
        refine Wl.val rfl rfl rfl (Gives.txtNeq rfl rfl rfl) ?_
        refine Wl.val rfl rfl rfl (Gives.pickF rfl rfl rfl rfl) ?_
        refine Wl.nil ?_
        refine Wx.thenN (hK7 _ _ ?_)
        refine Wc.cond _ rfl (fun h40 => ?_) (fun h40 => ?_)
        · (first | replace h40 := of_decide_eq_true h40 | replace h40 := nd_true h40 | skip)
          refine Wc.seq (fun K11 hK11 => ?_)
          refine Wc.keep [] (.nil) ?_
          refine Wc.region ?_
          refine Wl.val rfl rfl rfl (Gives.assign rfl rfl) ?_
          refine Wl.val rfl rfl rfl (Gives.assign rfl rfl) ?_
          refine Wl.val rfl rfl rfl (Gives.assign rfl rfl) ?_
          refine Wl.nil ?_
          refine Wx.thenN (hK11 _ _ ?_)
          refine Wc.ret ?_
          refine Wx.thenR ?_
          refine Wx.ret [_, _, _] ⟨rfl, ⟨rfl, ⟨rfl, trivial⟩⟩⟩ ?_
          first | exact ParR.no (ok_no (by rintro ⟨h1, h2, h3, h4⟩; first | omega | exact h40 h4 | simp_all)) hE | exact ParR.yes (ok_yes (by omega) (by omega) (by omega) (by first | exact of_not_not h40 | exact h40 | simpa using h40)) ((hO4.ext hX).mono hwN) hE
        · (first | replace h40 := of_decide_eq_false h40 | replace h40 := nd_false h40 | skip)
          refine Wc.skip ?_
          refine Wx.thenN (hK6 _ _ ?_)
          refine Wc.seq (fun K12 hK12 => ?_)
          refine Wc.keep [(4, _), (5, _)] (.cons rfl (.cons rfl (.nil))) ?_
          refine Wc.region ?_
          refine Wl.val rfl rfl rfl (Gives.move rfl rfl) ?_
          refine Wl.val rfl rfl rfl (Gives.move rfl rfl) ?_
          refine Wl.val rfl rfl rfl (Gives.assign rfl rfl) ?_
          refine Wl.val rfl rfl rfl (Gives.assign rfl rfl) ?_
          refine Wl.val rfl rfl rfl (Gives.assign rfl rfl) ?_
          refine Wl.nil ?_
          refine Wx.thenN (hK12 _ _ ?_)
          refine Wc.ret ?_
          refine Wx.ret [_, _, _] ⟨rfl, ⟨rfl, ⟨rfl, trivial⟩⟩⟩ ?_
          first | exact ParR.no (ok_no (by rintro ⟨h1, h2, h3, h4⟩; first | omega | exact h40 h4 | simp_all)) hE | exact ParR.yes (ok_yes (by omega) (by omega) (by omega) (by first | exact of_not_not h40 | exact h40 | simpa using h40)) ((hO4.ext hX).mono hwN) hE
end Go.Proofs.YtbbeoojlgfegjaaDoor
/- Journals: reading a record, of the reference. -/
namespace Go.Proofs.YtbbeoojlgfegjaaDoor
set_option linter.all false
open Go.RowKit
theorem ok_short {l : List UInt8} {k : Int} (h : l.length < 44) : okS l k = false := by
  rw [Bool.eq_false_iff]
  intro hh
  obtain ⟨s, tail, _, _, _, _, _, hb⟩ := ok_inv hh
  have := congrArg List.length hb
  simp only [List.length_append, markS_len, beS_len] at this
  omega
set_option maxRecDepth 10000 in
set_option maxHeartbeats 1000000 in
theorem validR {P : Nat → Prop} (w : World) (A : Option Addr) (n c : Nat) (l : List UInt8) (ha : BV w P A n c l) (hn : n ≤ 1000000) (k : Int) :
    Calls Tryd.prog 39 #[.slice A n c, .int .i64 k] w (ParR w (parseS l k)) := by
  have hl := ha.len
  have hle4 := ra4_le l
  refine calls_enter Tryd.func39 rfl Tryd.ntmps39 rfl ?_
  have hE : Ext w w := Ext.refl w
  refine Wc.seq (fun K1 hK1 => ?_)
  refine Wc.keep [(0, _), (1, _)] (.cons rfl (.cons rfl (.nil))) ?_
  refine Wc.region ?_
  refine Wl.val rfl rfl rfl (Gives.assign rfl rfl) ?_
  refine Wl.val rfl rfl rfl (Gives.assign rfl rfl) ?_
  refine Wl.val rfl rfl rfl (Gives.assign rfl rfl) ?_
  refine Wl.nil ?_
  refine Wx.thenN (hK1 _ _ ?_)
  refine Wc.seq (fun K2 hK2 => ?_)
  refine Wc.seq (fun K3 hK3 => ?_)
  refine Wc.keep [(0, _), (1, _)] (.cons rfl (.cons rfl (.nil))) ?_
  refine Wc.region ?_
  refine Wl.val rfl rfl rfl (Gives.move rfl rfl) ?_
  refine Wl.val rfl rfl rfl (Gives.lenS rfl Tryd.underlying23 rfl) ?_
  refine Wl.val rfl rfl rfl (Gives.lss rfl rfl rfl) ?_
  refine Wl.nil ?_
  refine Wx.thenN (hK3 _ _ ?_)
  refine Wc.cond _ rfl (fun h14 => ?_) (fun h14 => ?_)
  · (first | replace h14 := of_decide_eq_true h14 | replace h14 := nd_true h14 | skip)
    refine Wc.seq (fun K4 hK4 => ?_)
    refine Wc.keep [] (.nil) ?_
    refine Wc.region ?_
    refine Wl.val rfl rfl rfl (Gives.assign rfl rfl) ?_
    refine Wl.val rfl rfl rfl (Gives.assign rfl rfl) ?_
    refine Wl.val rfl rfl rfl (Gives.assign rfl rfl) ?_
    refine Wl.nil ?_
    refine Wx.thenN (hK4 _ _ ?_)
    refine Wc.ret ?_
    refine Wx.thenR ?_
    refine Wx.ret [_, _, _] ⟨rfl, ⟨rfl, ⟨rfl, trivial⟩⟩⟩ ?_
    exact ParR.no (ok_short (by omega)) hE
  · (first | replace h14 := of_decide_eq_false h14 | replace h14 := nd_false h14 | skip)
    refine Wc.skip ?_
    refine Wx.thenN (hK2 _ _ ?_)
    refine Wc.seq (fun K5 hK5 => ?_)
    refine Wc.keep [(0, _), (1, _)] (.cons rfl (.cons rfl (.nil))) ?_
    refine Wc.region ?_
    refine Wl.val rfl rfl rfl (Gives.move rfl rfl) ?_
    refine Wl.call rfl rfl rfl rfl Tryd.func51 rfl (by kernel_rfl) rfl ((newR_rd _ _ _ _ l (ha.ext hE) (by omega)).mono fun _ _ h => NewRd.x h) ?_
    rintro x1 w11 ⟨g, A', n', c', rfl, hg, hR, hx1⟩
    refine ⟨_, rfl, ?_⟩
    have hgg : w.heap.size ≤ g := Nat.le_trans hE.size hg
    generalize hN : w11.heap.size = N at *
    replace hE := hE.trans hx1
    refine Wl.val rfl rfl rfl (Gives.assign rfl rfl) ?_
    refine Wl.nil ?_
    refine Wx.thenN (hK5 _ _ ?_)
    refine Wc.seq (fun K6 hK6 => ?_)
    refine Wc.keep [(1, _), (7, _)] (.cons rfl (.cons rfl (.nil))) ?_
    refine Wc.region ?_
    refine Wl.val rfl rfl rfl (Gives.move rfl rfl) ?_
    refine Wl.call rfl rfl rfl rfl Tryd.func52 rfl (by kernel_rfl) rfl (sRaw_x _ g _ A' n' c' _ 32 hR) ?_
    rintro x2 w21 ⟨S1, m1, k1, rfl, hO1, hR1, hF1⟩
    refine ⟨_, rfl, ?_⟩
    replace hR1 : RDX 75 w21 g N A' n' c' (ra1 l).1 := hR1
    replace hO1 : OB w21 N 5 S1 m1 k1 (ra1 l).2 := by rw [← hN]; exact hO1
    replace hE := Ext.over hE hF1 hgg
    have hz1 := hF1.size
    have hgN : g < N := hR.lt
    refine Wl.val rfl rfl rfl (Gives.assign rfl rfl) ?_
    refine Wl.nil ?_
    refine Wx.thenN (hK6 _ _ ?_)
    refine Wc.seq (fun K7 hK7 => ?_)
    refine Wc.keep [(1, _), (7, _), (8, _)] (.cons rfl (.cons rfl (.cons rfl (.nil)))) ?_
    refine Wc.region ?_
    refine Wl.val rfl rfl rfl (Gives.move rfl rfl) ?_
    refine Wl.call rfl rfl rfl rfl Tryd.func53 rfl (by kernel_rfl) rfl ((sUint_x _ g _ A' n' c' _ 8 hR1).mono (R' := UintX 75 _ g N A' n' c' (ra2 l)) fun _ _ h => h) ?_
    rintro x3 w31 ⟨rfl, hR2, hF2⟩
    refine ⟨_, rfl, ?_⟩
    replace hR2 : RDX 75 w31 g N A' n' c' (ra2 l).1 := hR2
    replace hO1 : OB w31 N 5 S1 m1 k1 (ra1 l).2 := own_fr hO1 hF2 (fun q hq => by omega)
    replace hE := Ext.over hE hF2 hgg
    have hz2 := hF2.size
    refine Wl.val rfl rfl rfl (Gives.assign rfl rfl) ?_
    refine Wl.nil ?_
    refine Wx.thenN (hK7 _ _ ?_)
    refine Wc.seq (fun K8 hK8 => ?_)
    refine Wc.keep [(1, _), (7, _), (8, _), (9, _)] (.cons rfl (.cons rfl (.cons rfl (.cons rfl (.nil))))) ?_
    refine Wc.region ?_
    refine Wl.val rfl rfl rfl (Gives.move rfl rfl) ?_
    refine Wl.call rfl rfl rfl rfl Tryd.func53 rfl (by kernel_rfl) rfl ((sUint_x _ g _ A' n' c' _ 4 hR2).mono (R' := UintX 75 _ g N A' n' c' (ra3 l)) fun _ _ h => h) ?_
    rintro x4 w42 ⟨rfl, hR3, hF3⟩
    refine ⟨_, rfl, ?_⟩
    replace hR3 : RDX 75 w42 g N A' n' c' (ra3 l).1 := hR3
    replace hO1 : OB w42 N 5 S1 m1 k1 (ra1 l).2 := own_fr hO1 hF3 (fun q hq => by omega)
    replace hE := Ext.over hE hF3 hgg
    have hz3 := hF3.size
    refine Wl.val rfl rfl rfl (Gives.assign rfl rfl) ?_
    refine Wl.nil ?_
    refine Wx.thenN (hK8 _ _ ?_)
    refine Wc.seq (fun K9 hK9 => ?_)
    refine Wc.keep [(1, _), (7, _), (8, _), (9, _), (10, _)] (.cons rfl (.cons rfl (.cons rfl (.cons rfl (.cons rfl (.nil)))))) ?_
    refine Wc.region ?_
    refine Wl.val rfl rfl rfl (Gives.move rfl rfl) ?_
    refine Wl.val rfl rfl rfl (Gives.move rfl rfl) ?_
    refine Wl.call rfl rfl rfl rfl Tryd.func52 rfl (by kernel_rfl) rfl (sRaw_x _ g _ A' n' c' _ (ra3 l).2 hR3) ?_
    rintro x5 w43 ⟨S4, m4, k4, rfl, hO4, hR4, hF4⟩
    refine ⟨_, rfl, ?_⟩
    replace hR4 : RDX 75 w43 g N A' n' c' (ra4 l).1 := hR4
    replace hO1 : OB w43 N 5 S1 m1 k1 (ra1 l).2 := own_fr hO1 hF4 (fun q hq => by omega)
    replace hO4 : OB w43 N 5 S4 m4 k4 (ra4 l).2 := hO4.mono (by omega)
    replace hE := Ext.over hE hF4 hgg
    have hz4 := hO4.len
    refine Wl.val rfl rfl rfl (Gives.assign rfl rfl) ?_
    refine Wl.nil ?_
    refine Wx.thenN (hK9 _ _ ?_)
    refine Wc.seq (fun K10 hK10 => ?_)
    refine Wc.seq (fun K11 hK11 => ?_)
    refine Wc.keep [(1, _), (7, _), (8, _), (9, _), (11, _)] (.cons rfl (.cons rfl (.cons rfl (.cons rfl (.cons rfl (.nil)))))) ?_
    have hB1 : BV w43 (fun _ => True) S1 m1 k1 (ra1 l).2 := hO1.bv fun _ _ => trivial
    have hwN : w.heap.size ≤ N := by omega
    have hjl := jFrame_len (ra2 l).2 (ra4 l).2 (by omega)
    refine Wc.region ?_
    refine Wl.val rfl rfl rfl (Gives.move rfl rfl) ?_
    refine Wl.val rfl rfl rfl (Gives.nilCheck rfl rfl) ?_
    refine Wl.val rfl rfl rfl (Gives.fieldAt 2 rfl Tryd.underlying75 rfl (by kernel_rfl) rfl rfl) ?_
    refine Wl.val rfl rfl rfl (Gives.ldK rfl (by kernel_rfl) rfl hR4.rd.1 rfl) ?_
    refine Wl.val rfl rfl rfl (Gives.neq rfl rfl rfl) ?_
    refine Wl.val rfl rfl rfl (Gives.move rfl rfl) ?_
    refine Wl.guard rfl rfl rfl (fun h31 => ?_) (fun h31 => ?_)
    · (first | replace h31 := of_decide_eq_false h31 | replace h31 := nd_false h31 | skip)
      refine Wl.val rfl rfl rfl (Gives.move rfl rfl) ?_
      refine Wl.val rfl rfl rfl (Gives.lss rfl rfl rfl) ?_
      refine Wl.val rfl rfl rfl (Gives.pickF rfl rfl rfl rfl) ?_
      refine Wl.val rfl rfl rfl (Gives.move rfl rfl) ?_
      refine Wl.guard rfl rfl rfl (fun h35 => ?_) (fun h35 => ?_)
      · (first | replace h35 := of_decide_eq_false h35 | replace h35 := nd_false h35 | skip)
        refine Wl.val rfl rfl rfl (Gives.move rfl rfl) ?_
        refine Wl.val rfl rfl rfl (Gives.rem rfl rfl rfl (by omega) (by first | exact Int.tmod_eq_emod_of_nonneg (by omega) | exact rfl)) ?_
        refine Wl.val rfl rfl rfl (Gives.move rfl rfl) ?_
        refine Wl.val rfl rfl rfl (Gives.neq rfl rfl rfl) ?_
        refine Wl.val rfl rfl rfl (Gives.pickF rfl rfl rfl rfl) ?_
        refine Wl.val rfl rfl rfl (Gives.move rfl rfl) ?_
        refine Wl.guard rfl rfl rfl (fun h41 => ?_) (fun h41 => ?_)
        · (first | replace h41 := of_decide_eq_false h41 | replace h41 := nd_false h41 | skip)
          refine Wl.val rfl rfl rfl (Gives.move rfl rfl) ?_
          refine Wl.val rfl rfl rfl (Gives.move rfl rfl) ?_
          refine Wl.val rfl rfl rfl (Gives.move rfl rfl) ?_
          refine Wl.call rfl rfl rfl rfl Tryd.func29 rfl (by kernel_rfl) rfl (frame15 _ (ra2 l).2 S4 m4 k4 (ra4 l).2 (hO4.bv (P := fun _ => True) fun _ _ => trivial) (by omega)) ?_
          rintro x7 w89 ⟨S5, m5, k5, rfl, hO5, hx89⟩
          refine ⟨_, rfl, ?_⟩
          have hm5 := hO5.len
          replace hE := hE.trans hx89
          refine Wl.call rfl rfl rfl rfl Tryd.func41 rfl (by kernel_rfl) rfl (sum256R_calls _ S5 m5 k5 _ (hO5.bvA (Anew.top _)) (by omega)) ?_
          rintro x8 w90 ⟨S6, k6, rfl, hO6, hx90⟩
          refine ⟨_, rfl, ?_⟩
          have hB6 : BV w90 (fun _ => True) S6 32 k6 (markS (ra2 l).2 (ra4 l).2) := hO6.bv fun _ _ => trivial
          replace hE := hE.trans hx90
          refine Wl.call rfl rfl rfl rfl Tryd.func22 rfl (by kernel_rfl) rfl (same_calls _ _ _ _ _ _ _ _ _ (hB1.ext (hx89.trans hx90)) hB6) ?_
          rintro x9 w91 ⟨rfl, hq91⟩
          refine ⟨_, rfl, ?_⟩
          have hx91 := hq91.ext
          have hx9 := (hx89.trans hx90).trans hx91
          replace hE := hE.trans hx91
          refine Wl.val rfl rfl rfl (Gives.not rfl rfl) ?_
          refine Wl.val rfl rfl rfl (Gives.pickF rfl rfl rfl rfl) ?_
          refine Wl.nil ?_
          refine Wx.thenN (hK11 _ _ ?_)
          refine Wc.cond _ rfl (fun h49 => ?_) (fun h49 => ?_)
          · (first | replace h49 := of_decide_eq_true h49 | replace h49 := nd_true h49 | skip)
            refine Wc.seq (fun K12 hK12 => ?_)
            refine Wc.keep [] (.nil) ?_
            refine Wc.region ?_
            refine Wl.val rfl rfl rfl (Gives.assign rfl rfl) ?_
            refine Wl.val rfl rfl rfl (Gives.assign rfl rfl) ?_
            refine Wl.val rfl rfl rfl (Gives.assign rfl rfl) ?_
            refine Wl.nil ?_
            refine Wx.thenN (hK12 _ _ ?_)
            refine Wc.ret ?_
            refine Wx.thenR ?_
            refine Wx.ret [_, _, _] ⟨rfl, ⟨rfl, ⟨rfl, trivial⟩⟩⟩ ?_
            first | exact ParR.no (ok_no (by rintro ⟨h1, h2, h3, h4⟩; first | omega | exact h49 h4 | simp_all)) hE | exact ParR.yes (ok_yes (by omega) (by omega) (by omega) (by first | exact of_not_not h49 | exact h49 | simpa using h49)) ((hO4.ext hx9).mono hwN) hE
          · (first | replace h49 := of_decide_eq_false h49 | replace h49 := nd_false h49 | skip)
            refine Wc.skip ?_
            refine Wx.thenN (hK10 _ _ ?_)
            refine Wc.seq (fun K13 hK13 => ?_)
            refine Wc.keep [(9, _), (11, _)] (.cons rfl (.cons rfl (.nil))) ?_
            refine Wc.region ?_
            refine Wl.val rfl rfl rfl (Gives.move rfl rfl) ?_
            refine Wl.val rfl rfl rfl (Gives.move rfl rfl) ?_
            refine Wl.val rfl rfl rfl (Gives.assign rfl rfl) ?_
            refine Wl.val rfl rfl rfl (Gives.assign rfl rfl) ?_
            refine Wl.val rfl rfl rfl (Gives.assign rfl rfl) ?_
            refine Wl.nil ?_
            refine Wx.thenN (hK13 _ _ ?_)
            refine Wc.ret ?_
            refine Wx.ret [_, _, _] ⟨rfl, ⟨rfl, ⟨rfl, trivial⟩⟩⟩ ?_
            first | exact ParR.no (ok_no (by rintro ⟨h1, h2, h3, h4⟩; first | omega | exact h49 h4 | simp_all)) hE | exact ParR.yes (ok_yes (by omega) (by omega) (by omega) (by first | exact of_not_not h49 | exact h49 | simpa using h49)) ((hO4.ext hx9).mono hwN) hE
        · (first | replace h41 := of_decide_eq_true h41 | replace h41 := nd_true h41 | skip)
          refine Wl.pass rfl rfl rfl ?_
          refine Wl.pass rfl rfl rfl ?_
          refine Wl.pass rfl rfl rfl ?_
          refine Wl.pass rfl rfl rfl ?_
          refine Wl.pass rfl rfl rfl ?_
          refine Wl.pass rfl rfl rfl ?_
          refine Wl.pass rfl rfl rfl ?_
          refine Wl.val rfl rfl rfl (Gives.pickT rfl rfl rfl rfl) ?_
          refine Wl.nil ?_
          refine Wx.thenN (hK11 _ _ ?_)
          refine Wc.condT rfl rfl ?_
          refine Wc.seq (fun K14 hK14 => ?_)
          refine Wc.keep [] (.nil) ?_
          refine Wc.region ?_
          refine Wl.val rfl rfl rfl (Gives.assign rfl rfl) ?_
          refine Wl.val rfl rfl rfl (Gives.assign rfl rfl) ?_
          refine Wl.val rfl rfl rfl (Gives.assign rfl rfl) ?_
          refine Wl.nil ?_
          refine Wx.thenN (hK14 _ _ ?_)
          refine Wc.ret ?_
          refine Wx.thenR ?_
          refine Wx.ret [_, _, _] ⟨rfl, ⟨rfl, ⟨rfl, trivial⟩⟩⟩ ?_
          first | exact ParR.no (ok_no (by rintro ⟨h1, h2, h3, h4⟩; first | omega | exact h49 h4 | simp_all)) hE | exact ParR.yes (ok_yes (by omega) (by omega) (by omega) (by first | exact of_not_not h49 | exact h49 | simpa using h49)) ((hO4.ext hx9).mono hwN) hE
      · (first | replace h35 := of_decide_eq_true h35 | replace h35 := nd_true h35 | skip)
        refine Wl.pass rfl rfl rfl ?_
        refine Wl.pass rfl rfl rfl ?_
        refine Wl.pass rfl rfl rfl ?_
        refine Wl.pass rfl rfl rfl ?_
        refine Wl.val rfl rfl rfl (Gives.pickT rfl rfl rfl rfl) ?_
        refine Wl.val rfl rfl rfl (Gives.move rfl rfl) ?_
        refine Wl.guardF rfl rfl rfl rfl ?_
        refine Wl.pass rfl rfl rfl ?_
        refine Wl.pass rfl rfl rfl ?_
        refine Wl.pass rfl rfl rfl ?_
        refine Wl.pass rfl rfl rfl ?_
        refine Wl.pass rfl rfl rfl ?_
        refine Wl.pass rfl rfl rfl ?_
        refine Wl.pass rfl rfl rfl ?_
        refine Wl.val rfl rfl rfl (Gives.pickT rfl rfl rfl rfl) ?_
        refine Wl.nil ?_
        refine Wx.thenN (hK11 _ _ ?_)
        refine Wc.condT rfl rfl ?_
        refine Wc.seq (fun K15 hK15 => ?_)
        refine Wc.keep [] (.nil) ?_
        refine Wc.region ?_
        refine Wl.val rfl rfl rfl (Gives.assign rfl rfl) ?_
        refine Wl.val rfl rfl rfl (Gives.assign rfl rfl) ?_
        refine Wl.val rfl rfl rfl (Gives.assign rfl rfl) ?_
        refine Wl.nil ?_
        refine Wx.thenN (hK15 _ _ ?_)
        refine Wc.ret ?_
        refine Wx.thenR ?_
        refine Wx.ret [_, _, _] ⟨rfl, ⟨rfl, ⟨rfl, trivial⟩⟩⟩ ?_
        first | exact ParR.no (ok_no (by rintro ⟨h1, h2, h3, h4⟩; first | omega | exact h49 h4 | simp_all)) hE | exact ParR.yes (ok_yes (by omega) (by omega) (by omega) (by first | exact of_not_not h49 | exact h49 | simpa using h49)) ((hO4.ext hx9).mono hwN) hE
    · (first | replace h31 := of_decide_eq_true h31 | replace h31 := nd_true h31 | skip)
      refine Wl.pass rfl rfl rfl ?_
      refine Wl.pass rfl rfl rfl ?_
      refine Wl.val rfl rfl rfl (Gives.pickT rfl rfl rfl rfl) ?_
      refine Wl.val rfl rfl rfl (Gives.move rfl rfl) ?_
      refine Wl.guardF rfl rfl rfl rfl ?_
      refine Wl.pass rfl rfl rfl ?_
      refine Wl.pass rfl rfl rfl ?_
      refine Wl.pass rfl rfl rfl ?_
      refine Wl.pass rfl rfl rfl ?_
      refine Wl.val rfl rfl rfl (Gives.pickT rfl rfl rfl rfl) ?_
      refine Wl.val rfl rfl rfl (Gives.move rfl rfl) ?_
      refine Wl.guardF rfl rfl rfl rfl ?_
      refine Wl.pass rfl rfl rfl ?_
      refine Wl.pass rfl rfl rfl ?_
      refine Wl.pass rfl rfl rfl ?_
      refine Wl.pass rfl rfl rfl ?_
      refine Wl.pass rfl rfl rfl ?_
      refine Wl.pass rfl rfl rfl ?_
      refine Wl.pass rfl rfl rfl ?_
      refine Wl.val rfl rfl rfl (Gives.pickT rfl rfl rfl rfl) ?_
      refine Wl.nil ?_
      refine Wx.thenN (hK11 _ _ ?_)
      refine Wc.condT rfl rfl ?_
      refine Wc.seq (fun K16 hK16 => ?_)
      refine Wc.keep [] (.nil) ?_
      refine Wc.region ?_
      refine Wl.val rfl rfl rfl (Gives.assign rfl rfl) ?_
      refine Wl.val rfl rfl rfl (Gives.assign rfl rfl) ?_
      refine Wl.val rfl rfl rfl (Gives.assign rfl rfl) ?_
      refine Wl.nil ?_
      refine Wx.thenN (hK16 _ _ ?_)
      refine Wc.ret ?_
      refine Wx.thenR ?_
      refine Wx.ret [_, _, _] ⟨rfl, ⟨rfl, ⟨rfl, trivial⟩⟩⟩ ?_
      first | exact ParR.no (ok_no (by rintro ⟨h1, h2, h3, h4⟩; first | omega | exact h49 h4 | simp_all)) hE | exact ParR.yes (ok_yes (by omega) (by omega) (by omega) (by first | exact of_not_not h49 | exact h49 | simpa using h49)) ((hO4.ext hx9).mono hwN) hE
end Go.Proofs.YtbbeoojlgfegjaaDoor
