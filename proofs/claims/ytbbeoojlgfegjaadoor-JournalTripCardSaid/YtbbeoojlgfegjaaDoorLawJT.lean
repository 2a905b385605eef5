/- JournalTrip: the walk. -/
import Derived.Test.YtbbeoojlgfegjaaDoorJrnG
namespace Go.Proofs.YtbbeoojlgfegjaaDoor
set_option linter.all false
open Go.RowKit
theorem getD_in {l : List (List UInt8)} {p f : List UInt8} {i : Nat} (h : l[i]? = some f) : (l ++ [p]).getD i [] = f := by
  have hi := (List.getElem?_eq_some_iff.1 h).1
  rw [List.getD, List.getElem?_append_left hi, h]; rfl
theorem getD_last {l : List (List UInt8)} {p : List UInt8} {i : Nat} (h : l.length = i) : (l ++ [p]).getD i [] = p := by
  subst h
  rw [List.getD, List.getElem?_append_right (Nat.le_refl _)]; simp
/-- one more commit -/
theorem trip_step {d d' : Dk} {k i : Nat} {q : List UInt8} {e' : Int} (hk : k ≤ 4) (hi : i ≤ 20) (h : JInv 6 d k i) (hL : Lens d 2000) (hw : d.wr ≤ i) (hq : q.length ≤ 200) (hd : d' = commitS d k ((i + 1 : Nat) : Int) q) (he : e' = commitE d k ((i + 1 : Nat) : Int) q) :
    e' = 0 ∧ JInv 6 d' k (i + 1) ∧ Lens d' 2000 ∧ d'.wr ≤ ((i + 1 : Nat) : Int) ∧ recoverE d' k = 0 ∧ recoverJ d' k = ⟨q, ((i + 1 : Nat) : Int), true⟩ := by
  obtain ⟨s1, s2, s3, s4⟩ := h.step (by omega) (p := q) (by omega) (by omega)
  subst hd
  refine ⟨he.trans s1, s2, hL.commit h.on (by omega) (by omega) (by omega) (by omega) (by omega), ?_, s3, s4⟩
  rw [(commit_in h.on (by omega) (by omega) (by omega) (by omega)).2]
  show d.wr + 1 ≤ _
  omega
set_option maxRecDepth 20000 in
set_option maxHeartbeats 2000000 in
theorem journalTrip_walk {P P' : Nat → Prop} (w : World) (hT : Tab w) (A : Option Addr) (n c : Nat) (l : List (List UInt8)) (ha : BL w P A n c l) (base : Int) (D : Option Addr) (m dc : Nat) (p : List UInt8) (hp : BV w P' D m dc p) :
    Calls Tryd.prog 5 #[.slice A n c, .int .i64 base, .slice D m dc] w fun e w' => e = .returned (.bool true) ∧ Ext w w' := by
  have hle := hp.le
  have hpl := hp.len
  have hl := ha.len
  obtain ⟨k5, hk5⟩ := Int.eq_ofNat_of_zero_le (Int.emod_nonneg base (show (5 : Int) ≠ 0 by decide))
  have hk5' : k5 ≤ 4 := by have := Int.emod_lt_of_pos base (show (0 : Int) < 5 by decide); omega
  refine calls_enter Tryd.func5 rfl Tryd.ntmps5 rfl ?_
  have hE : Ext w w := Ext.refl w
  refine Wc.seq (fun K1 hK1 => ?_)
  refine Wc.keep [(0, _), (1, _), (2, _)] (.cons rfl (.cons rfl (.cons rfl (.nil)))) ?_
  refine Wc.region ?_
  refine Wl.val rfl rfl rfl (Gives.assign rfl rfl) ?_
  refine Wl.nil ?_
  refine Wx.thenN (hK1 _ _ ?_)
  refine Wc.seq (fun K2 hK2 => ?_)
  refine Wc.seq (fun K3 hK3 => ?_)
  refine Wc.keep [(0, _), (1, _), (2, _)] (.cons rfl (.cons rfl (.cons rfl (.nil)))) ?_
  refine Wc.region ?_
  refine Wl.call rfl rfl rfl rfl Tryd.func9 rfl (by kernel_rfl) rfl (awakeJ _ (hT.ext hE)) ?_
  rintro x0 w0 ⟨rfl, hx0⟩
  refine ⟨_, rfl, ?_⟩
  replace hE := hE.trans hx0
  refine Wl.val rfl rfl rfl (Gives.not rfl rfl) ?_
  refine Wl.nil ?_
  refine Wx.thenN (hK3 _ _ ?_)
  refine Wc.condF rfl rfl ?_
  refine Wc.skip ?_
  refine Wx.thenN (hK2 _ _ ?_)
  refine Wc.seq (fun K4 hK4 => ?_)
  refine Wc.seq (fun K5 hK5 => ?_)
  refine Wc.keep [(0, _), (1, _), (2, _)] (.cons rfl (.cons rfl (.cons rfl (.nil)))) ?_
  refine Wc.region ?_
  refine Wl.val rfl rfl rfl (Gives.move rfl rfl) ?_
  refine Wl.call rfl rfl rfl rfl Tryd.func10 rfl (by kernel_rfl) rfl (fewJ _ A n c l (ha.ext hE)) ?_
  rintro x1 w1 ⟨b, rfl, hfew, hx1⟩
  refine ⟨_, rfl, ?_⟩
  replace hE := hE.trans hx1
  refine Wl.val rfl rfl rfl (Gives.not rfl rfl) ?_
  refine Wl.val rfl rfl rfl (Gives.move rfl rfl) ?_
  refine Wl.guard rfl rfl rfl (fun h21 => ?_) (fun h21 => ?_)
  · (first | replace h21 := of_decide_eq_false h21 | replace h21 := nd_false h21 | skip)
    refine Wl.val rfl rfl rfl (Gives.move rfl rfl) ?_
    refine Wl.val rfl rfl rfl (Gives.lenS rfl Tryd.underlying23 rfl) ?_
    refine Wl.val rfl rfl rfl (Gives.gtr rfl rfl rfl) ?_
    refine Wl.val rfl rfl rfl (Gives.pickF rfl rfl rfl rfl) ?_
    refine Wl.nil ?_
    refine Wx.thenN (hK5 _ _ ?_)
    refine Wc.cond _ rfl (fun h25 => ?_) (fun h25 => ?_)
    · (first | replace h25 := of_decide_eq_true h25 | replace h25 := nd_true h25 | skip)
      refine Wc.seq (fun K6 hK6 => ?_)
      refine Wc.keep [] (.nil) ?_
      refine Wc.region ?_
      refine Wl.val rfl rfl rfl (Gives.assign rfl rfl) ?_
      refine Wl.nil ?_
      refine Wx.thenN (hK6 _ _ ?_)
      refine Wc.ret ?_
      refine Wx.thenR ?_
      refine Wx.ret [_] ⟨rfl, trivial⟩ ?_
      exact ⟨rfl, hE⟩
    · (first | replace h25 := of_decide_eq_false h25 | replace h25 := nd_false h25 | skip)
      refine Wc.skip ?_
      refine Wx.thenN (hK4 _ _ ?_)
      refine Wc.seq (fun K7 hK7 => ?_)
      refine Wc.keep [(0, _), (1, _), (2, _)] (.cons rfl (.cons rfl (.cons rfl (.nil)))) ?_
      have hb : b = true := by simpa using h21
      obtain ⟨hn10, hx60⟩ := hfew hb
      refine Wc.region ?_
      refine Wl.call rfl rfl rfl rfl Tryd.func23 rfl (by kernel_rfl) rfl (newJP _ 6 6 rfl) ?_
      rintro x2 w50 ⟨A1, c1, d1, rfl, H1, hb1, hx50⟩
      refine ⟨_, rfl, ?_⟩
      obtain rfl : d1 = newS 6 := H1.out
      replace hE := hE.trans hx50
      refine Wl.does rfl rfl rfl (Does.alB (.agg #[(.slice none 0 0), (.int .i64 0), (.int .i64 0), (.int .i64 0), (.bool false)]) rfl (by kernel_rfl) rfl) ?_
      rintro _ w5_1 ⟨b7, rfl, hs7, hb7, hx5_1⟩
      have hg7 : w.heap.size ≤ b7 := Nat.le_trans hE.size hs7
      replace hE := hE.trans hx5_1
      refine Wl.acts rfl rfl (Does.stL 5 rfl rfl rfl hb7 (by kernel_rfl) rfl rfl rfl) ?_
      rintro _ w5_2 ⟨hbn, hF5_2⟩
      replace hE := Ext.over hE hF5_2 hg7
      replace hb7 := hbn
      clear hbn
      have hb1' : BL w5_2 (fun q => q ≠ b7) A1 6 c1 (newS 6).areas := ((hb1.bdP.mono (fun q hq => (by omega : q ≠ b7))).ext hx5_1).fr hF5_2
      refine Wl.nil ?_
      refine Wx.thenN (hK7 _ _ ?_)
      refine Wc.seq (fun K8 hK8 => ?_)
      refine Wc.keep [(0, _), (1, _), (2, _), (7, _)] (.cons rfl (.cons rfl (.cons rfl (.cons rfl (.nil))))) ?_
      refine Wc.region ?_
      refine Wl.val rfl rfl rfl (Gives.move rfl rfl) ?_
      refine Wl.call rfl rfl rfl rfl Tryd.func11 rfl (by kernel_rfl) rfl (mod_calls _ base 5 (by omega) (by omega)) ?_
      rintro x2 w51 ⟨rfl, rfl⟩
      refine ⟨_, rfl, ?_⟩
      rw [hk5]
      refine Wl.val rfl rfl rfl (Gives.assign rfl rfl) ?_
      refine Wl.nil ?_
      refine Wx.thenN (hK8 _ _ ?_)
      refine Wc.seq (fun K9 hK9 => ?_)
      refine Wc.seq (fun K10 hK10 => ?_)
      refine Wc.keep [(0, _), (2, _), (7, _), (8, _)] (.cons rfl (.cons rfl (.cons rfl (.cons rfl (.nil))))) ?_
      refine Wc.region ?_
      refine Wl.val rfl rfl rfl (Gives.assign rfl rfl) ?_
      refine Wl.nil ?_
      refine Wx.thenN (hK10 _ _ ?_)
      refine Wc.block ?_
      refine Wc.keep [(0, _), (2, _), (7, _), (8, _), (9, _)] (.cons rfl (.cons rfl (.cons rfl (.cons rfl (.cons rfl (.nil)))))) ?_
      refine Wc.loopC (ι := Nat × Option Addr × Nat × Dk) [(0, _), (2, _), (7, _), (8, _)] (fun | (i, _, _, _) => [(9, .int .i64 (i : Int))]) (fun | (i, A2, c2, d2), wr => i ≤ n + 1 ∧ JInv 6 d2 k5 i ∧ Lens d2 2000 ∧ d2.wr ≤ i ∧ BL wr (fun q => q ≠ b7) A2 6 c2 d2.areas ∧ Blk wr b7 28 #[.slice A2 6 c2, .int .i64 (d2).wr, .int .i64 (d2).ct, .int .i64 (d2).tn, .bool (d2).off] ∧ Ext w wr) (fun | (i, _, _, _) => n + 1 - i) ((0, A1, c1, newS 6)) (.cons (by first | exact rfl | exact look_int rfl (by omega) | exact look_slice rfl (by omega)) (.cons rfl (.cons rfl (.cons rfl (.cons rfl (.nil)))))) (⟨by omega, new6_inv k5, Lens.new _ _, Int.le_refl _, hb1', hb7, hE⟩) ?_
      intro ⟨i, A2, c2, d2⟩ wr1 hJ KL1 hKL1
      clear hb1' hb7 hE
      obtain ⟨hi, hJI, hL, hw2, hD, hb7, hE⟩ := hJ
      refine Wc.seq (fun K11 hK11 => ?_)
      refine Wc.seq (fun K12 hK12 => ?_)
      refine Wc.keep [(0, _), (2, _), (7, _), (8, _), (9, _)] (.cons rfl (.cons rfl (.cons rfl (.cons rfl (.cons rfl (.nil)))))) ?_
      refine Wc.region ?_
      refine Wl.val rfl rfl rfl (Gives.move rfl rfl) ?_
      refine Wl.val rfl rfl rfl (Gives.move rfl rfl) ?_
      refine Wl.val rfl rfl rfl (Gives.lenS rfl Tryd.underlying22 rfl) ?_
      refine Wl.val rfl rfl rfl (Gives.leq rfl rfl rfl) ?_
      refine Wl.nil ?_
      refine Wx.thenN (hK12 _ _ ?_)
      refine Wc.cond _ rfl (fun h32 => ?_) (fun h32 => ?_)
      · (first | replace h32 := of_decide_eq_true h32 | replace h32 := nd_true h32 | skip)
        refine Wc.skip ?_
        refine Wx.thenN (hK11 _ _ ?_)
        refine Wc.seq (fun K13 hK13 => ?_)
        refine Wc.block ?_
        refine Wc.seq (fun K14 hK14 => ?_)
        refine Wc.keep [(0, _), (2, _), (7, _), (8, _), (9, _)] (.cons rfl (.cons rfl (.cons rfl (.cons rfl (.cons rfl (.nil)))))) ?_
        refine Wc.region ?_
        refine Wl.val rfl rfl rfl (Gives.move rfl rfl) ?_
        refine Wl.val rfl rfl rfl (Gives.assign rfl rfl) ?_
        refine Wl.nil ?_
        refine Wx.thenN (hK14 _ _ ?_)
        refine Wc.joinC (ι := Option Addr × Nat × Nat) [(0, _), (2, _), (7, _), (8, _), (9, _)] (fun | (B, bn, bc) => [(10, .slice B bn bc)]) (fun | (B, bn, bc), wr => bn ≤ 200 ∧ BV wr (fun _ => True) B bn bc ((l ++ [p]).getD i []) ∧ BL wr (fun q => q ≠ b7) A2 6 c2 d2.areas ∧ Blk wr b7 28 #[.slice A2 6 c2, .int .i64 (d2).wr, .int .i64 (d2).ct, .int .i64 (d2).tn, .bool (d2).off] ∧ Ext w wr) ?_ ?_ (.cons rfl (.cons rfl (.cons rfl (.cons rfl (.cons rfl (.nil))))))
        · intro K15 hJ15
          refine Wc.seq (fun K16 hK16 => ?_)
          refine Wc.keep [(0, _), (2, _), (7, _), (8, _), (9, _), (10, _)] (.cons rfl (.cons rfl (.cons rfl (.cons rfl (.cons rfl (.cons rfl (.nil))))))) ?_
          refine Wc.region ?_
          refine Wl.val rfl rfl rfl (Gives.move rfl rfl) ?_
          refine Wl.val rfl rfl rfl (Gives.move rfl rfl) ?_
          refine Wl.val rfl rfl rfl (Gives.lenS rfl Tryd.underlying22 rfl) ?_
          refine Wl.val rfl rfl rfl (Gives.lss rfl rfl rfl) ?_
          refine Wl.nil ?_
          refine Wx.thenN (hK16 _ _ ?_)
          refine Wc.cond _ rfl (fun h39 => ?_) (fun h39 => ?_)
          · (first | replace h39 := of_decide_eq_true h39 | replace h39 := nd_true h39 | skip)
            refine Wc.keep [(0, _), (2, _), (7, _), (8, _), (9, _)] (.cons rfl (.cons rfl (.cons rfl (.cons rfl (.cons rfl (.nil)))))) ?_
            obtain ⟨xb, xo, rfl, hbw, f, fA, fn, fc, hz, hcell, hF⟩ := (ha.ext hE).at'' (show i < n by omega)
            have hfl := hF.len
            have hfm := hx60 f (List.mem_of_getElem? hz)
            refine Wc.region ?_
            refine Wl.val rfl rfl rfl (Gives.move rfl rfl) ?_
            refine Wl.val rfl rfl rfl (Gives.move rfl rfl) ?_
            refine Wl.val rfl rfl rfl (Gives.ixS (i := _) rfl Tryd.underlying22 (by kernel_rfl) rfl rfl rfl (by omega)) ?_
            refine Wl.val rfl rfl rfl (Gives.ldC rfl (by kernel_rfl) rfl hcell) ?_
            refine Wl.val rfl rfl rfl (Gives.assign rfl rfl) ?_
            refine Wl.nil ?_
            refine Wx.thenN ?_
            exact hJ15 (fA, fn, fc) _ _ (.cons (by first | exact rfl | exact look_int rfl (by omega) | exact look_slice rfl (by omega)) (.cons rfl (.cons rfl (.cons rfl (.cons rfl (.cons rfl (.nil))))))) ⟨by omega, by rw [getD_in hz]; exact hF.mono fun _ _ => trivial, hD, hb7, hE⟩
          · (first | replace h39 := of_decide_eq_false h39 | replace h39 := nd_false h39 | skip)
            refine Wc.skip ?_
            refine Wx.thenN ?_
            exact hJ15 (D, m, dc) _ _ (.cons (by first | exact rfl | exact look_int rfl (by omega) | exact look_slice rfl (by omega)) (.cons rfl (.cons rfl (.cons rfl (.cons rfl (.cons rfl (.nil))))))) ⟨by omega, by rw [getD_last (show l.length = i by omega)]; exact (hp.ext hE).mono fun _ _ => trivial, hD, hb7, hE⟩
        intro ⟨B, bn, bc⟩ wj hJ
        clear hD hb7 hE
        obtain ⟨hbn, hB, hD, hb7, hE⟩ := hJ
        have hBl := hB.len
        generalize hqq : (l ++ [p]).getD i [] = qq at *
        have hz7 := hb7.lt
        have hw0 := hJI.on.wr
        refine Wc.seq (fun K17 hK17 => ?_)
        refine Wc.keep [(0, _), (2, _), (7, _), (8, _), (9, _), (10, _)] (.cons rfl (.cons rfl (.cons rfl (.cons rfl (.cons rfl (.cons rfl (.nil))))))) ?_
        refine Wc.region ?_
        refine Wl.val rfl rfl rfl (Gives.ldW rfl (by kernel_rfl) rfl hb7 (by kernel_rfl)) ?_
        refine Wl.val rfl rfl rfl (Gives.move rfl rfl) ?_
        refine Wl.val rfl rfl rfl (Gives.move rfl rfl) ?_
        refine Wl.val rfl rfl rfl (Gives.add rfl rfl rfl (by first | exact IntWalk.i64_in _ (by omega) | exact u64_in _ (by omega) | exact u32_in _ (by omega) | exact u8_in _ (by omega) | exact rfl)) ?_
        refine Wl.val rfl rfl rfl (Gives.move rfl rfl) ?_
        refine Wl.call rfl rfl rfl rfl Tryd.func14 rfl (by kernel_rfl) rfl (commitP (fun q => q ≠ b7) _ (hT.ext hE) (fun q hq => by omega) A2 6 c2 d2 hD (by omega) B bn bc qq hB (by omega) k5 ((i : Int) + 1) hw0 (by omega) (fun x hx => by have := hL x hx; omega)) ?_
        rintro x5 w135 ⟨A3, c3, d3, e3, rfl, H3, hb3, hx5⟩
        refine ⟨_, rfl, ?_⟩
        obtain ⟨rfl, hJ3, hL3, hw3, hR3, hRJ⟩ := trip_step hk5' (by omega) hJI hL hw2 (by omega) H3.out.1 H3.out.2
        replace hB := hB.ext hx5
        replace hb7 := hb7.ext hx5
        replace hE := hE.trans hx5
        refine Wl.val rfl rfl rfl (Gives.move rfl rfl) ?_
        refine Wl.val rfl rfl rfl (Gives.extract rfl rfl rfl) ?_
        refine Wl.val rfl rfl rfl (Gives.extract rfl rfl rfl) ?_
        refine Wl.does rfl rfl rfl (Does.alB (.agg #[(.slice none 0 0), (.int .i64 0), (.int .i64 0), (.int .i64 0), (.bool false)]) rfl (by kernel_rfl) rfl) ?_
        rintro _ w13_9 ⟨b11, rfl, hs11, hb11, hx13_9⟩
        have hn7_11 : b7 ≠ b11 := hb7.ne hs11
        have hg11 : w.heap.size ≤ b11 := Nat.le_trans hE.size hs11
        replace hb7 := hb7.ext hx13_9
        replace hE := hE.trans hx13_9
        refine Wl.acts rfl rfl (Does.stL 5 rfl rfl rfl hb11 (by kernel_rfl) rfl rfl rfl) ?_
        rintro _ w13_10 ⟨hbn, hF13_10⟩
        replace hb7 := hb7.fr hF13_10 (by first | assumption | exact Ne.symm (by assumption))
        replace hE := Ext.over hE hF13_10 hg11
        replace hb11 := hbn
        clear hbn
        have hD3 : BL w13_10 (fun q => q ≠ b7 ∧ q ≠ b11) A3 6 c3 d3.areas := ((hb3.bdP.mono (P' := fun q => q ≠ b7 ∧ q ≠ b11) (fun q hq => ⟨hq.1, by omega⟩)).ext hx13_9).fr (hF13_10.mono fun q hq => hq.2)
        have hB3 := ((hB.bd.mono (P' := fun q => q ≠ b11) (fun q hq => by omega)).ext hx13_9).fr hF13_10
        refine Wl.val rfl rfl rfl (Gives.assign rfl rfl) ?_
        refine Wl.nil ?_
        refine Wx.thenN (hK17 _ _ ?_)
        refine Wc.seq (fun K18 hK18 => ?_)
        refine Wc.keep [(0, _), (2, _), (7, _), (8, _), (9, _), (10, _), (11, _), (12, _)] (.cons rfl (.cons rfl (.cons rfl (.cons rfl (.cons rfl (.cons rfl (.cons rfl (.cons rfl (.nil))))))))) ?_
        refine Wc.region ?_
        refine Wl.val rfl rfl rfl (Gives.ldW rfl (by kernel_rfl) rfl hb11 (by kernel_rfl)) ?_
        refine Wl.val rfl rfl rfl (Gives.move rfl rfl) ?_
        refine Wl.call rfl rfl rfl rfl Tryd.func20 rfl (by kernel_rfl) rfl (recoverP _ (hT.ext hE) A3 6 c3 d3 hD3 (by omega) (fun l hl => by have := hL3 l hl; omega) k5) ?_
        rintro x8 w142 ⟨S5, m5, k5', rfl, hO5, hx8⟩
        refine ⟨_, rfl, ?_⟩
        rw [hRJ] at hO5
        replace hD3 := hD3.ext hx8
        replace hB3 := hB3.ext hx8
        replace hb7 := hb7.ext hx8
        replace hb11 := hb11.ext hx8
        replace hE := hE.trans hx8
        refine Wl.val rfl rfl rfl (Gives.move rfl rfl) ?_
        refine Wl.val rfl rfl rfl (Gives.extract rfl rfl rfl) ?_
        refine Wl.val rfl rfl rfl (Gives.extract rfl rfl rfl) ?_
        refine Wl.val rfl rfl rfl (Gives.extract rfl rfl rfl) ?_
        refine Wl.val rfl rfl rfl (Gives.assign rfl rfl) ?_
        refine Wl.val rfl rfl rfl (Gives.assign rfl rfl) ?_
        refine Wl.val rfl rfl rfl (Gives.assign rfl rfl) ?_
        refine Wl.nil ?_
        refine Wx.thenN (hK18 _ _ ?_)
        refine Wc.seq (fun K19 hK19 => ?_)
        refine Wc.seq (fun K20 hK20 => ?_)
        refine Wc.keep [(0, _), (2, _), (7, _), (8, _), (9, _), (10, _), (11, _), (12, _), (13, _), (14, _), (15, _)] (.cons rfl (.cons rfl (.cons rfl (.cons rfl (.cons rfl (.cons rfl (.cons rfl (.cons rfl (.cons rfl (.cons rfl (.cons rfl (.nil)))))))))))) ?_
        refine Wc.region ?_
        refine Wl.val rfl rfl rfl (Gives.move rfl rfl) ?_
        refine Wl.val rfl rfl rfl (Gives.neq rfl rfl rfl) ?_
        refine Wl.val rfl rfl rfl (Gives.move rfl rfl) ?_
        refine Wl.guardT rfl rfl rfl (by simp) ?_
        refine Wl.val rfl rfl rfl (Gives.move rfl rfl) ?_
        refine Wl.val rfl rfl rfl (Gives.neq rfl rfl rfl) ?_
        refine Wl.val rfl rfl rfl (Gives.pickF rfl rfl rfl rfl) ?_
        refine Wl.val rfl rfl rfl (Gives.move rfl rfl) ?_
        refine Wl.guardT rfl rfl rfl (by rw [hR3]; rfl) ?_
        refine Wl.val rfl rfl rfl (Gives.move rfl rfl) ?_
        refine Wl.val rfl rfl rfl (Gives.move rfl rfl) ?_
        refine Wl.val rfl rfl rfl (Gives.add rfl rfl rfl (by first | exact IntWalk.i64_in _ (by omega) | exact u64_in _ (by omega) | exact u32_in _ (by omega) | exact u8_in _ (by omega) | exact rfl)) ?_
        refine Wl.val rfl rfl rfl (Gives.neq rfl rfl rfl) ?_
        refine Wl.val rfl rfl rfl (Gives.pickF rfl rfl rfl rfl) ?_
        refine Wl.val rfl rfl rfl (Gives.move rfl rfl) ?_
        refine Wl.guardT rfl rfl rfl (by rw [hRJ]; simp) ?_
        refine Wl.val rfl rfl rfl (Gives.move rfl rfl) ?_
        refine Wl.val rfl rfl rfl (Gives.move rfl rfl) ?_
        refine Wl.call rfl rfl rfl rfl Tryd.func22 rfl (by kernel_rfl) rfl (same_calls _ _ _ _ _ _ _ _ _ (hO5.bv (P := fun _ => True) fun _ _ => trivial) hB3) ?_
        rintro x10 w151 ⟨rfl, hq10⟩
        refine ⟨_, rfl, ?_⟩
        replace hD3 := hD3.ext hq10.ext
        replace hb7 := hb7.ext hq10.ext
        replace hb11 := hb11.ext hq10.ext
        replace hE := hE.trans hq10.ext
        refine Wl.val rfl rfl rfl (Gives.not rfl rfl) ?_
        refine Wl.val rfl rfl rfl (Gives.pickF rfl rfl rfl rfl) ?_
        refine Wl.nil ?_
        refine Wx.thenN (hK20 _ _ ?_)
        refine Wc.condF rfl (by simp) ?_
        refine Wc.skip ?_
        refine Wx.thenN (hK19 _ _ ?_)
        refine Wc.keep [(0, _), (2, _), (7, _), (8, _), (9, _), (11, _)] (.cons rfl (.cons rfl (.cons rfl (.cons rfl (.cons rfl (.cons rfl (.nil))))))) ?_
        refine Wc.region ?_
        refine Wl.val rfl rfl rfl (Gives.ldW rfl (by kernel_rfl) rfl hb11 (by kernel_rfl)) ?_
        refine Wl.acts rfl rfl (Does.stL 5 rfl rfl rfl hb7 (by kernel_rfl) rfl rfl rfl) ?_
        rintro _ w17_1 ⟨hbn, hF17_1⟩
        replace hb11 := hb11.fr hF17_1 (by first | assumption | exact Ne.symm (by assumption))
        replace hE := Ext.over hE hF17_1 hg7
        replace hb7 := hbn
        clear hbn
        have hD4 := (hD3.fr (hF17_1.mono fun q hq => hq.1)).mono (P' := fun q => q ≠ b7) fun q hq => hq.1
        refine Wl.nil ?_
        refine Wx.blockN ?_
        refine Wx.thenN (hK13 _ _ ?_)
        refine Wc.keep [(0, _), (2, _), (7, _), (8, _), (9, _)] (.cons rfl (.cons rfl (.cons rfl (.cons rfl (.cons rfl (.nil)))))) ?_
        refine Wc.region ?_
        refine Wl.val rfl rfl rfl (Gives.move rfl rfl) ?_
        refine Wl.val rfl rfl rfl (Gives.add rfl rfl rfl (by first | exact IntWalk.i64_in _ (by omega) | exact u64_in _ (by omega) | exact u32_in _ (by omega) | exact u8_in _ (by omega) | exact rfl)) ?_
        refine Wl.val rfl rfl rfl (Gives.assign rfl rfl) ?_
        refine Wl.nil ?_
        refine Wx.thenN ?_
        exact hKL1 (i + 1, A3, c3, d3) _ _ (.cons (by first | exact rfl | exact look_int rfl (by omega) | exact look_slice rfl (by omega)) (.cons rfl (.cons rfl (.cons rfl (.cons rfl (.nil)))))) ⟨by omega, hJ3, hL3, hw3, hD4, hb7, hE⟩ (by show n + 1 - (i + 1) < n + 1 - i; omega)
      · (first | replace h32 := of_decide_eq_false h32 | replace h32 := nd_false h32 | skip)
        refine Wc.exit ?_
        refine Wx.thenE ?_
        refine Wx.thenE ?_
        refine Wx.hit ?_
        refine Wx.thenN (hK9 _ _ ?_)
        refine Wc.seq (fun K21 hK21 => ?_)
        refine Wc.keep [] (.nil) ?_
        refine Wc.region ?_
        refine Wl.val rfl rfl rfl (Gives.assign rfl rfl) ?_
        refine Wl.nil ?_
        refine Wx.thenN (hK21 _ _ ?_)
        refine Wc.ret ?_
        refine Wx.ret [_] ⟨rfl, trivial⟩ ?_
        exact ⟨rfl, hE⟩
  · (first | replace h21 := of_decide_eq_true h21 | replace h21 := nd_true h21 | skip)
    refine Wl.pass rfl rfl rfl ?_
    refine Wl.pass rfl rfl rfl ?_
    refine Wl.pass rfl rfl rfl ?_
    refine Wl.val rfl rfl rfl (Gives.pickT rfl rfl rfl rfl) ?_
    refine Wl.nil ?_
    refine Wx.thenN (hK5 _ _ ?_)
    refine Wc.condT rfl rfl ?_
    refine Wc.seq (fun K22 hK22 => ?_)
    refine Wc.keep [] (.nil) ?_
    refine Wc.region ?_
    refine Wl.val rfl rfl rfl (Gives.assign rfl rfl) ?_
    refine Wl.nil ?_
    refine Wx.thenN (hK22 _ _ ?_)
    refine Wc.ret ?_
    refine Wx.thenR ?_
    refine Wx.ret [_] ⟨rfl, trivial⟩ ?_
    exact ⟨rfl, hE⟩
end Go.Proofs.YtbbeoojlgfegjaaDoor
