/- JournalTail: the walk. -/
import Derived.Test.YtbbeoojlgfegjaaDoorJrnG
namespace Go.Proofs.YtbbeoojlgfegjaaDoor
set_option linter.all false
open Go.RowKit
theorem write_in {N : Nat} {d : Dk} (h : OnN N d) {i : Nat} (hi : i < N) {x : List UInt8} (hx : x.length ≤ 65536) : putE d i x.length = 0 ∧ writeS d i x = { d with areas := d.areas.set i x, wr := d.wr + 1 } := by
  have hi' : i < d.areas.length := by rw [h.len]; exact hi
  refine ⟨by rw [putE_in h.off hi' hx, h.cuts]; rfl, ?_⟩
  unfold writeS
  rw [putS_in h.off hi' hx, h.cuts]
  have hw : ∀ old : List UInt8, write1S (!d.off && false) (bringS d x.length) old x = x := by
    intro old
    unfold write1S bringS
    rw [h.cuts, if_neg (by decide), if_neg (by simp), List.take_length, List.append_nil]
  rw [hw]
  obtain ⟨ar, wr, ct, tn, off⟩ := d
  have hoff : off = false := h.off
  subst hoff
  congr 2
theorem tail_S (x : List UInt8) (hx : x.length ≤ 65536) : putE (newS 2) 1 x.length = 0 ∧ (recoverE (writeS (newS 2) 1 x) 0 = if (parseS x 1).ok = true then 0 else 30) ∧ ((parseS x 1).ok = true → 0 < (parseS x 1).s → recoverJ (writeS (newS 2) 1 x) 0 = parseS x 1) ∧ Lens (writeS (newS 2) 1 x) x.length := by
  obtain ⟨h1, h2⟩ := write_in new2_inv.on (i := 1) (by decide) hx
  have hw : writeS (newS 2) 1 x = ⟨[[], x], 1, 0, 0, false⟩ := h2
  have hon : OnN 2 (writeS (newS 2) 1 x) := by rw [hw]; exact ⟨by decide, rfl, rfl, (by show (0 : Int) ≤ 1; decide), rfl⟩
  obtain ⟨r1, r2⟩ := rec_eq hon (k := 0) (by decide)
  have p0 : ParS (writeS (newS 2) 1 x) 0 0 = noJr := by rw [hw]; exact no_nil _
  have p1 : ParS (writeS (newS 2) 1 x) 0 1 = parseS x 1 := by rw [hw]; rfl
  rw [p0, p1] at r1
  have hb : bestS noJr noJr = noJr := rfl
  rw [hb] at r1
  have hs : ((0 : Nat) : Int) = 0 := rfl
  rw [hs] at r1 r2
  have hE : recoverE (writeS (newS 2) 1 x) 0 = if (parseS x 1).ok = true then 0 else 30 := by
    rw [r2, r1]
    by_cases hok : (parseS x 1).ok = true
    · have h1 : 1 ≤ (parseS x 1).s := par_pos hok
      rw [best_new hok (by omega)]
    · rw [best_stay (fun h => absurd h hok), if_neg hok]; rfl
  refine ⟨h1, hE, fun hok hpos => ?_, by rw [hw]; intro l hl; rcases List.mem_cons.1 hl with rfl | hl; exact Nat.zero_le _; rw [List.mem_singleton.1 hl]; exact Nat.le_refl _⟩
  refine rec_J (k := 0) ⟨?_, ?_⟩
  · rw [hs, r1, best_new hok hpos]
  · rw [hs, hE, if_pos hok]
theorem newPP (P : Nat → Prop) (w : World) (hP : Anew w P) (k : Int) (n : Nat) (hn : min k.toNat 64 = n) : Calls Tryd.prog 23 #[.int .i64 k] w (DOne P w n (newS k)) := by subst hn; exact newP_calls P w hP k
theorem u8_in_i64 (z : UInt8) : IntKind.i64.wrap ((z.toNat : Nat) : Int) = ((z.toNat : Nat) : Int) := IntWalk.i64_in _ (by have := z.toNat_lt; omega)
set_option maxRecDepth 20000 in
set_option maxHeartbeats 2000000 in
theorem journalTail_walk {P P' : Nat → Prop} (w : World) (hT : Tab w) (A : Option Addr) (m ac : Nat) (p : List UInt8) (ha : BV w P A m ac p) (D : Option Addr) (tm dc : Nat) (tail : List UInt8) (hp : BV w P' D tm dc tail) (z : UInt8) :
    Calls Tryd.prog 6 #[.slice A m ac, .slice D tm dc, .int .u8 (z.toNat : Int)] w fun e w' => e = .returned (.bool true) ∧ Ext w w' := by
  have hle := hp.le
  have hle2 := ha.le
  have hpl := hp.len
  have hal := ha.len
  have hz256 := z.toNat_lt
  have hrl := record_len 1 p
  refine calls_enter Tryd.func6 rfl Tryd.ntmps6 rfl ?_
  have hE : Ext w w := Ext.refl w
  refine Wc.seq (fun K1 hK1 => ?_)
  refine Wc.keep [(0, _), (1, _), (2, _)] (.cons rfl (.cons rfl (.cons rfl (.nil)))) ?_
  refine Wc.region ?_
  refine Wl.val rfl rfl rfl (Gives.assign rfl rfl) ?_
  refine Wl.nil ?_
  refine Wx.thenN (hK1 _ _ ?_)
  refine Wc.seq (fun K2 hK2 => ?_)
  refine Wc.seq (fun K3 hK3 => ?_)
  refine Wc.keep [(0, _), (1, _), (2, _)] (.cons rfl (.cons rfl (.cons rfl (.nil)))) ?_
  refine Wc.region ?_
  refine Wl.call rfl rfl rfl rfl Tryd.func9 rfl (by kernel_rfl) rfl (awakeJ _ (hT.ext hE)) ?_
  rintro x0 w0 ⟨rfl, hx0⟩
  refine ⟨_, rfl, ?_⟩
  replace hE := hE.trans hx0
  refine Wl.val rfl rfl rfl (Gives.not rfl rfl) ?_
  refine Wl.nil ?_
  refine Wx.thenN (hK3 _ _ ?_)
  refine Wc.condF rfl rfl ?_
  refine Wc.skip ?_
  refine Wx.thenN (hK2 _ _ ?_)
  refine Wc.seq (fun K4 hK4 => ?_)
  refine Wc.seq (fun K5 hK5 => ?_)
  refine Wc.keep [(0, _), (1, _), (2, _)] (.cons rfl (.cons rfl (.cons rfl (.nil)))) ?_
  refine Wc.region ?_
  refine Wl.val rfl rfl rfl (Gives.move rfl rfl) ?_
  refine Wl.val rfl rfl rfl (Gives.lenS rfl Tryd.underlying23 rfl) ?_
  refine Wl.val rfl rfl rfl (Gives.gtr rfl rfl rfl) ?_
  refine Wl.val rfl rfl rfl (Gives.move rfl rfl) ?_
  refine Wl.guard rfl rfl rfl (fun h23 => ?_) (fun h23 => ?_)
  · (first | replace h23 := of_decide_eq_false h23 | replace h23 := nd_false h23 | skip)
    refine Wl.val rfl rfl rfl (Gives.move rfl rfl) ?_
    refine Wl.val rfl rfl rfl (Gives.lenS rfl Tryd.underlying23 rfl) ?_
    refine Wl.val rfl rfl rfl (Gives.gtr rfl rfl rfl) ?_
    refine Wl.val rfl rfl rfl (Gives.pickF rfl rfl rfl rfl) ?_
    refine Wl.nil ?_
    refine Wx.thenN (hK5 _ _ ?_)
    refine Wc.cond _ rfl (fun h27 => ?_) (fun h27 => ?_)
    · (first | replace h27 := of_decide_eq_true h27 | replace h27 := nd_true h27 | skip)
      refine Wc.seq (fun K6 hK6 => ?_)
      refine Wc.keep [] (.nil) ?_
      refine Wc.region ?_
      refine Wl.val rfl rfl rfl (Gives.assign rfl rfl) ?_
      refine Wl.nil ?_
      refine Wx.thenN (hK6 _ _ ?_)
      refine Wc.ret ?_
      refine Wx.thenR ?_
      refine Wx.ret [_] ⟨rfl, trivial⟩ ?_
      exact ⟨rfl, hE⟩
    · (first | replace h27 := of_decide_eq_false h27 | replace h27 := nd_false h27 | skip)
      refine Wc.skip ?_
      refine Wx.thenN (hK4 _ _ ?_)
      refine Wc.seq (fun K7 hK7 => ?_)
      refine Wc.keep [(0, _), (1, _), (2, _)] (.cons rfl (.cons rfl (.cons rfl (.nil)))) ?_
      have hm44 : m ≤ 60 := by omega
      have ht60 : tm ≤ 60 := by omega
      obtain ⟨a1, a2, a3, a4⟩ := tail_S (recordS 1 p ++ tail) (by rw [List.length_append]; omega)
      have hpr : parseS (recordS 1 p ++ tail) 1 = ⟨p, 1, true⟩ := parse_record (s := 1) (by decide) (by decide) (by omega) rfl
      rw [hpr] at a2 a3
      replace a3 := a3 rfl (show (0 : Int) < 1 by decide)
      obtain ⟨j, hj⟩ : ∃ j : Nat, j = z.toNat % (44 + m) := ⟨_, rfl⟩
      have hjl : j < 44 + m := by rw [hj]; exact Nat.mod_lt _ (by omega)
      have htk : ((recordS 1 p).take j).length = j := by rw [List.length_take]; omega
      obtain ⟨c1, c2, _, c4⟩ := tail_S ((recordS 1 p).take j) (by rw [htk]; omega)
      have hcut : parseS ((recordS 1 p).take j) 1 = noJr := parse_take (s := 1) (by omega) (by have : (recordS ((1 : Nat) : Int) p).length = 44 + p.length := hrl; omega)
      rw [hcut] at c2
      have hjmod : ((z.toNat : Nat) : Int).tmod ((44 + m : Nat) : Int) = (j : Int) := by rw [Int.tmod_eq_emod_of_nonneg (by omega), hj]; omega
      refine Wc.region ?_
      refine Wl.val rfl rfl rfl (Gives.move rfl rfl) ?_
      refine Wl.call rfl rfl rfl rfl Tryd.func24 rfl (by kernel_rfl) rfl (record15 _ 1 A m ac p (ha.ext hE) (by omega)) ?_
      rintro x1 w51 ⟨S1, k1, rfl, hO1, hx1⟩
      refine ⟨_, rfl, ?_⟩
      have hR1 := (hO1.bv (P := fun _ => True) fun _ _ => trivial).bd
      have hSc := hO1.le
      replace hE := hE.trans hx1
      refine Wl.val rfl rfl rfl (Gives.assign rfl rfl) ?_
      refine Wl.nil ?_
      refine Wx.thenN (hK7 _ _ ?_)
      refine Wc.seq (fun K8 hK8 => ?_)
      refine Wc.keep [(0, _), (1, _), (2, _), (7, _)] (.cons rfl (.cons rfl (.cons rfl (.cons rfl (.nil))))) ?_
      refine Wc.region ?_
      refine Wl.call rfl rfl rfl rfl Tryd.func23 rfl (by kernel_rfl) rfl (newJP _ 2 2 rfl) ?_
      rintro x2 w60 ⟨A1, c1', d1, rfl, H1, hb1, hx2⟩
      refine ⟨_, rfl, ?_⟩
      obtain rfl : d1 = newS 2 := H1.out
      replace hR1 := (hR1.ext hx2)
      have hz60 := hx2.size
      have hzE := hE.size
      have hb1d := hb1.bd
      replace hE := hE.trans hx2
      refine Wl.val rfl rfl rfl (Gives.move rfl rfl) ?_
      refine Wl.call rfl rfl rfl rfl Tryd.func17 rfl (by kernel_rfl) rfl (copy_calls _ S1 (44 + m) k1 _ hR1 (by omega)) ?_
      rintro x3 w62 ⟨S2, k2, rfl, hO2, hx3⟩
      refine ⟨_, rfl, ?_⟩
      replace hR1 := hR1.ext hx3
      replace hb1d := hb1d.ext hx3
      have hz62 := hx3.size
      replace hE := hE.trans hx3
      refine Wl.val rfl rfl rfl (Gives.move rfl rfl) ?_
      refine Wl.does rfl rfl rfl (Does.appO rfl Tryd.underlying23 infoB rfl rfl hO2 (hp.ext hE) (by omega) (by omega)) ?_
      rintro _ w64 ⟨S3, k3, rfl, hO3, hB64⟩
      replace hR1 := hR1.fr ((below_fr hB64).mono fun q hq => by omega)
      replace hb1d := hb1d.fr ((below_fr hB64).mono fun q hq => hq)
      have hz64 := hB64.size
      replace hE := Ext.step hE hB64 (by omega)
      refine Wl.call rfl rfl rfl rfl Tryd.func25 rfl (by kernel_rfl) rfl (write_calls (fun _ => True) _ (Anew.top _) A1 2 c1' (newS 2) (hb1d.mono fun _ _ => trivial) (by omega) S3 (44 + m + tm) k3 (recordS 1 p ++ tail) (hO3.bv (P := fun _ => True) fun _ _ => trivial) (by omega) 1 (by decide) (by decide) (fun l hl => by have := (Lens.new 2 0) l hl; omega)) ?_
      rintro x4 w65 ⟨A2, c2', d2, e2, rfl, H2, hb2, hx65⟩
      refine ⟨_, rfl, ?_⟩
      have hd2 := H2.out.1
      rw [← hd2] at a2 a3 a4
      obtain rfl : e2 = 0 := by { rw [H2.out.2, ← a1, List.length_append, hrl, hal, hpl] }
      replace hR1 := hR1.ext hx65
      have hz65 := hx65.size
      replace hE := hE.trans hx65
      refine Wl.val rfl rfl rfl (Gives.move rfl rfl) ?_
      refine Wl.val rfl rfl rfl (Gives.extract rfl rfl rfl) ?_
      refine Wl.val rfl rfl rfl (Gives.extract rfl rfl rfl) ?_
      refine Wl.does rfl rfl rfl (Does.alB (.agg #[(.slice none 0 0), (.int .i64 0), (.int .i64 0), (.int .i64 0), (.bool false)]) rfl (by kernel_rfl) rfl) ?_
      rintro _ w6_9 ⟨b8, rfl, hs8, hb8, hx6_9⟩
      have hg8 : w.heap.size ≤ b8 := Nat.le_trans hE.size hs8
      replace hE := hE.trans hx6_9
      refine Wl.acts rfl rfl (Does.stL 5 rfl rfl rfl hb8 (by kernel_rfl) rfl rfl rfl) ?_
      rintro _ w6_10 ⟨hbn, hF6_10⟩
      replace hE := Ext.over hE hF6_10 hg8
      replace hb8 := hbn
      clear hbn
      have hD : BL w6_10 (fun _ => True) A2 2 c2' d2.areas := (((hb2.bdP.mono (P' := fun q => q ≠ b8) (fun q hq => by omega)).ext hx6_9).fr hF6_10).mono fun _ _ => trivial
      have hR2 := (((hR1.mono (P' := fun q => q ≠ b8) (fun q hq => by omega)).ext hx6_9).fr hF6_10)
      refine Wl.val rfl rfl rfl (Gives.assign rfl rfl) ?_
      refine Wl.nil ?_
      refine Wx.thenN (hK8 _ _ ?_)
      refine Wc.seq (fun K9 hK9 => ?_)
      refine Wc.keep [(0, _), (2, _), (7, _), (8, _), (9, _)] (.cons rfl (.cons rfl (.cons rfl (.cons rfl (.cons rfl (.nil)))))) ?_
      refine Wc.region ?_
      refine Wl.val rfl rfl rfl (Gives.ldW rfl (by kernel_rfl) rfl hb8 (by kernel_rfl)) ?_
      refine Wl.call rfl rfl rfl rfl Tryd.func20 rfl (by kernel_rfl) rfl (recoverP _ (hT.ext hE) A2 2 c2' d2 hD (by omega) (fun x hx => by have := a4 x hx; rw [List.length_append] at this; omega) 0) ?_
      rintro x5 w71 ⟨S5, m5, k5, rfl, hO5, hx71⟩
      refine ⟨_, rfl, ?_⟩
      rw [a3] at hO5
      have hB5 := (hO5.bv (P := fun _ => True) fun _ _ => trivial).bd
      replace hR2 := hR2.ext hx71
      have hz71 := hx71.size
      replace hb8 := hb8.ext hx71
      replace hE := hE.trans hx71
      refine Wl.val rfl rfl rfl (Gives.move rfl rfl) ?_
      refine Wl.val rfl rfl rfl (Gives.extract rfl rfl rfl) ?_
      refine Wl.val rfl rfl rfl (Gives.extract rfl rfl rfl) ?_
      refine Wl.val rfl rfl rfl (Gives.extract rfl rfl rfl) ?_
      refine Wl.val rfl rfl rfl (Gives.assign rfl rfl) ?_
      refine Wl.val rfl rfl rfl (Gives.assign rfl rfl) ?_
      refine Wl.val rfl rfl rfl (Gives.assign rfl rfl) ?_
      refine Wl.nil ?_
      refine Wx.thenN (hK9 _ _ ?_)
      refine Wc.seq (fun K10 hK10 => ?_)
      refine Wc.keep [(0, _), (2, _), (7, _), (9, _), (10, _), (11, _), (12, _)] (.cons rfl (.cons rfl (.cons rfl (.cons rfl (.cons rfl (.cons rfl (.cons rfl (.nil)))))))) ?_
      refine Wc.regionB (fun q => [0, 8].contains q) [] (.read 1 (.read 2 (.read 3 (.read 4 (.read 5 (.read 6 (.read 7 (.call true 0 (.call true 8 (.read 9 (.read 10 (.read 11 (.call false 12 (.call true 13 .tail .none) .none)))) (.call false 12 (.call true 8 (.read 9 (.read 10 (.read 11 (.call true 13 .tail .none)))) .none) .none)) (.call true 12 (.call true 0 (.call true 8 (.read 9 (.read 10 (.read 11 (.call true 13 .tail .none)))) .none) .none) .none))))))))) 14 (by kernel_rfl) (by kernel_rfl) (by kernel_rfl) ?_
      intro w8 hR8
      replace hb8 := hb8.ext hR8.ext
      replace hE := hE.trans hR8.ext
      have hO8_8 : Old w8.heap.size [] b8 := ⟨hb8.lt, trivial⟩
      have hX := Ext.refl w8
      refine RunE.read rfl rfl rfl rfl (fun wS _ => (Gives.move rfl rfl)) ?_
      refine RunE.read rfl rfl rfl rfl (fun wS _ => (Gives.move rfl rfl)) ?_
      refine RunE.read rfl rfl rfl rfl (fun wS _ => (Gives.conv rfl Tryd.underlying5 Tryd.underlying3 rfl (u8_in_i64 z))) ?_
      refine RunE.read rfl rfl rfl rfl (fun wS _ => (Gives.move rfl rfl)) ?_
      refine RunE.read rfl rfl rfl rfl (fun wS _ => (Gives.lenS rfl Tryd.underlying23 rfl)) ?_
      refine RunE.read rfl rfl rfl rfl (fun wS _ => (Gives.rem rfl rfl rfl (by omega) hjmod)) ?_
      refine RunE.read rfl rfl rfl rfl (fun wS _ => (Gives.cutHi rfl Tryd.underlying23 (by kernel_rfl) rfl j rfl rfl (by omega))) ?_
      refine RunE.freeC rfl rfl rfl rfl rfl Tryd.func23 rfl (by kernel_rfl) rfl (by first | exact newPP (fun q => q ≠ b13) _ (fun q hq => by have := hb13.lt; omega) 2 2 rfl | exact newPP (fun _ => True) _ (Anew.top _) 2 2 rfl) ?_ ?_
      · rintro x6 w80 ⟨A3, c3, d3, rfl, H3, hb3, hx80⟩
        refine ⟨_, rfl, ?_⟩
        obtain rfl : d3 = newS 2 := H3.out
        have hB5r := hB5.ext (hR8.ext.trans (hX.trans hx80))
        have hb3b := hb3.bdP
        replace hX := hX.trans hx80
        refine RunE.freeC rfl rfl rfl rfl rfl Tryd.func25 rfl (by kernel_rfl) rfl (by first | exact write_calls (fun q => q ≠ b13) _ (fun q hq => by have := hb13.lt; omega) A3 2 c3 (newS 2) (hb3b.mono fun q hq => by first | exact hq.1 | omega) (by omega) S1 j k1 ((recordS 1 p).take j) ((hR2.ext (hR8.ext.trans hX)).take (by omega)) (by omega) 1 (by decide) (by decide) (fun l hl => by have := (Lens.new 2 0) l hl; omega) | exact write_calls (fun _ => True) _ (Anew.top _) A3 2 c3 (newS 2) (hb3b.mono fun _ _ => trivial) (by omega) S1 j k1 ((recordS 1 p).take j) ((hR2.ext (hR8.ext.trans hX)).take (by omega)) (by omega) 1 (by decide) (by decide) (fun l hl => by have := (Lens.new 2 0) l hl; omega)) ?_ ?_
        · rintro x7 w88 ⟨A4, c4', d4, e4, rfl, H4, hb4, hx88⟩
          refine ⟨_, rfl, ?_⟩
          have hd4 := H4.out.1
          rw [← hd4] at c2 c4
          obtain rfl : e4 = 0 := by { rw [H4.out.2]; rw [htk] at c1; exact c1 }
          replace hb3b := hb3b.ext hx88
          replace hB5r := hB5r.ext hx88
          replace hX := hX.trans hx88
          refine RunE.read rfl rfl rfl rfl (fun wS _ => (Gives.move rfl rfl)) ?_
          refine RunE.read rfl rfl rfl rfl (fun wS _ => (Gives.extract rfl rfl rfl)) ?_
          refine RunE.read rfl rfl rfl rfl (fun wS _ => (Gives.extract rfl rfl rfl)) ?_
          refine RunE.turn rfl rfl rfl rfl (Does.alB (.agg #[(.slice none 0 0), (.int .i64 0), (.int .i64 0), (.int .i64 0), (.bool false)]) rfl (by kernel_rfl) rfl) ?_ RunE.none
          rintro _ w8_12 ⟨b13, rfl, hs13, hb13, hx8_12⟩
          refine ⟨hx8_12.fr, ?_⟩
          have hn8_13 : b8 ≠ b13 := (hb8.ext hX).ne hs13
          have hg13 : w.heap.size ≤ b13 := Nat.le_trans (hE.trans hX).size hs13
          have hN13 := Nat.le_trans hX.size hs13
          replace hb3b := hb3b.ext hx8_12
          replace hB5r := hB5r.ext hx8_12
          replace hX := hX.trans hx8_12
          replace hb8 := hb8.ext hX
          replace hE := hE.trans hX
          refine RunE.freeN rfl rfl rfl (Does.stL 5 rfl rfl rfl hb13 (by kernel_rfl) rfl rfl rfl) ?_ RunE.none
          rintro _ w8_13 ⟨hbn, hF8_13⟩
          replace hb8 := hb8.fr hF8_13 (by first | assumption | exact Ne.symm (by assumption))
          replace hE := Ext.over hE hF8_13 hg13
          replace hb13 := hbn
          clear hbn
          replace hX := Ext.refl w8_13
          have hD4 : BL w8_13 (fun _ => True) A4 2 c4' d4.areas := by first | exact (hb4.fr hF8_13).mono fun _ _ => trivial | exact (((hb4.bdP.mono (P' := fun q => q ≠ b13) (fun q hq => by omega)).ext hx8_12).fr hF8_13).mono fun _ _ => trivial
          have hB6 := (hB5r.mono (P' := fun q => q ≠ b13) (fun q hq => by have := hR8.ext.size; omega)).fr hF8_13
          refine RunE.tail rfl ?_
          replace hb8 := hb8.ext hX
          replace hb13 := hb13.ext hX
          replace hE := hE.trans hX
          refine Wl.val rfl rfl rfl (Gives.assign rfl rfl) ?_
          refine Wl.nil ?_
          refine Wx.thenN (hK10 _ _ ?_)
          refine Wc.seq (fun K11 hK11 => ?_)
          refine Wc.keep [(0, _), (9, _), (10, _), (11, _), (12, _), (13, _), (14, _)] (.cons rfl (.cons rfl (.cons rfl (.cons rfl (.cons rfl (.cons rfl (.cons rfl (.nil)))))))) ?_
          refine Wc.region ?_
          refine Wl.val rfl rfl rfl (Gives.ldW rfl (by kernel_rfl) rfl hb13 (by kernel_rfl)) ?_
          refine Wl.call rfl rfl rfl rfl Tryd.func20 rfl (by kernel_rfl) rfl (recoverP _ (hT.ext hE) A4 2 c4' d4 hD4 (by omega) (fun x hx => by have := c4 x hx; omega) 0) ?_
          rintro x8 w91 ⟨S6, m6, k6, rfl, hO6, hx91⟩
          refine ⟨_, rfl, ?_⟩
          replace hB6 := hB6.ext hx91
          replace hb8 := hb8.ext hx91
          replace hb13 := hb13.ext hx91
          replace hE := hE.trans hx91
          refine Wl.val rfl rfl rfl (Gives.move rfl rfl) ?_
          refine Wl.val rfl rfl rfl (Gives.extract rfl rfl rfl) ?_
          refine Wl.val rfl rfl rfl (Gives.extract rfl rfl rfl) ?_
          refine Wl.val rfl rfl rfl (Gives.extract rfl rfl rfl) ?_
          refine Wl.val rfl rfl rfl (Gives.assign rfl rfl) ?_
          refine Wl.val rfl rfl rfl (Gives.assign rfl rfl) ?_
          refine Wl.val rfl rfl rfl (Gives.assign rfl rfl) ?_
          refine Wl.nil ?_
          refine Wx.thenN (hK11 _ _ ?_)
          refine Wc.seq (fun K12 hK12 => ?_)
          refine Wc.keep [(0, _), (9, _), (10, _), (11, _), (12, _), (14, _), (17, _)] (.cons rfl (.cons rfl (.cons rfl (.cons rfl (.cons rfl (.cons rfl (.cons rfl (.nil)))))))) ?_
          refine Wc.region ?_
          refine Wl.val rfl rfl rfl (Gives.move rfl rfl) ?_
          refine Wl.val rfl rfl rfl (Gives.eql rfl rfl rfl) ?_
          refine Wl.val rfl rfl rfl (Gives.move rfl rfl) ?_
          refine Wl.guardT rfl rfl rfl rfl ?_
          refine Wl.val rfl rfl rfl (Gives.move rfl rfl) ?_
          refine Wl.val rfl rfl rfl (Gives.eql rfl rfl rfl) ?_
          refine Wl.val rfl rfl rfl (Gives.pickT rfl rfl rfl rfl) ?_
          refine Wl.val rfl rfl rfl (Gives.move rfl rfl) ?_
          refine Wl.guardT rfl rfl rfl (by rw [a2]; rfl) ?_
          refine Wl.val rfl rfl rfl (Gives.move rfl rfl) ?_
          refine Wl.val rfl rfl rfl (Gives.eql rfl rfl rfl) ?_
          refine Wl.val rfl rfl rfl (Gives.pickT rfl rfl rfl rfl) ?_
          refine Wl.val rfl rfl rfl (Gives.move rfl rfl) ?_
          refine Wl.guardT rfl rfl rfl (by rw [a3]; rfl) ?_
          refine Wl.val rfl rfl rfl (Gives.move rfl rfl) ?_
          refine Wl.val rfl rfl rfl (Gives.move rfl rfl) ?_
          refine Wl.call rfl rfl rfl rfl Tryd.func22 rfl (by kernel_rfl) rfl (same_calls _ _ _ _ _ _ _ _ _ hB6 (ha.ext hE)) ?_
          rintro x9 w1013 ⟨rfl, hq9⟩
          refine ⟨_, rfl, ?_⟩
          replace hb8 := hb8.ext hq9.ext
          replace hb13 := hb13.ext hq9.ext
          replace hE := hE.trans hq9.ext
          refine Wl.val rfl rfl rfl (Gives.pickT rfl rfl rfl rfl) ?_
          refine Wl.val rfl rfl rfl (Gives.move rfl rfl) ?_
          refine Wl.guardT rfl rfl rfl (by simp) ?_
          refine Wl.val rfl rfl rfl (Gives.move rfl rfl) ?_
          refine Wl.val rfl rfl rfl (Gives.eql rfl rfl rfl) ?_
          refine Wl.val rfl rfl rfl (Gives.pickT rfl rfl rfl rfl) ?_
          refine Wl.val rfl rfl rfl (Gives.move rfl rfl) ?_
          refine Wl.guardT rfl rfl rfl rfl ?_
          refine Wl.val rfl rfl rfl (Gives.move rfl rfl) ?_
          refine Wl.val rfl rfl rfl (Gives.eql rfl rfl rfl) ?_
          refine Wl.val rfl rfl rfl (Gives.pickT rfl rfl rfl rfl) ?_
          refine Wl.val rfl rfl rfl (Gives.assign rfl rfl) ?_
          refine Wl.nil ?_
          refine Wx.thenN (hK12 _ _ ?_)
          refine Wc.ret ?_
          refine Wx.ret [_] ⟨rfl, trivial⟩ ?_
          first | exact ⟨rfl, hE⟩ | exact ⟨ret_bool (by rw [c2]; rfl), hE⟩
        refine RunE.turn rfl rfl rfl rfl (Does.alB (.agg #[(.slice none 0 0), (.int .i64 0), (.int .i64 0), (.int .i64 0), (.bool false)]) rfl (by kernel_rfl) rfl) ?_ RunE.none
        rintro _ w8_12 ⟨b13, rfl, hs13, hb13, hx8_12⟩
        refine ⟨hx8_12.fr, ?_⟩
        have hn8_13 : b8 ≠ b13 := (hb8.ext hX).ne hs13
        have hg13 : w.heap.size ≤ b13 := Nat.le_trans (hE.trans hX).size hs13
        have hN13 := Nat.le_trans hX.size hs13
        replace hb3b := hb3b.ext hx8_12
        replace hB5r := hB5r.ext hx8_12
        replace hX := hX.trans hx8_12
        refine RunE.freeC rfl rfl rfl rfl rfl Tryd.func25 rfl (by kernel_rfl) rfl (by first | exact write_calls (fun q => q ≠ b13) _ (fun q hq => by have := hb13.lt; omega) A3 2 c3 (newS 2) (hb3b.mono fun q hq => by first | exact hq.1 | omega) (by omega) S1 j k1 ((recordS 1 p).take j) ((hR2.ext (hR8.ext.trans hX)).take (by omega)) (by omega) 1 (by decide) (by decide) (fun l hl => by have := (Lens.new 2 0) l hl; omega) | exact write_calls (fun _ => True) _ (Anew.top _) A3 2 c3 (newS 2) (hb3b.mono fun _ _ => trivial) (by omega) S1 j k1 ((recordS 1 p).take j) ((hR2.ext (hR8.ext.trans hX)).take (by omega)) (by omega) 1 (by decide) (by decide) (fun l hl => by have := (Lens.new 2 0) l hl; omega)) ?_ RunE.none
        rintro x7 w88 ⟨A4, c4', d4, e4, rfl, H4, hb4, hx88⟩
        refine ⟨_, rfl, ?_⟩
        have hd4 := H4.out.1
        rw [← hd4] at c2 c4
        obtain rfl : e4 = 0 := by { rw [H4.out.2]; rw [htk] at c1; exact c1 }
        replace hb3b := hb3b.ext hx88
        replace hB5r := hB5r.ext hx88
        replace hb13 := hb13.ext hx88
        replace hX := hX.trans hx88
        refine RunE.read rfl rfl rfl rfl (fun wS _ => (Gives.move rfl rfl)) ?_
        refine RunE.read rfl rfl rfl rfl (fun wS _ => (Gives.extract rfl rfl rfl)) ?_
        refine RunE.read rfl rfl rfl rfl (fun wS _ => (Gives.extract rfl rfl rfl)) ?_
        replace hb8 := hb8.ext hX
        replace hE := hE.trans hX
        refine RunE.freeN rfl rfl rfl (Does.stL 5 rfl rfl rfl hb13 (by kernel_rfl) rfl rfl rfl) ?_ RunE.none
        rintro _ w8_13 ⟨hbn, hF8_13⟩
        replace hb8 := hb8.fr hF8_13 (by first | assumption | exact Ne.symm (by assumption))
        replace hE := Ext.over hE hF8_13 hg13
        replace hb13 := hbn
        clear hbn
        replace hX := Ext.refl w8_13
        have hD4 : BL w8_13 (fun _ => True) A4 2 c4' d4.areas := by first | exact (hb4.fr hF8_13).mono fun _ _ => trivial | exact (((hb4.bdP.mono (P' := fun q => q ≠ b13) (fun q hq => by omega)).ext hx8_12).fr hF8_13).mono fun _ _ => trivial
        have hB6 := (hB5r.mono (P' := fun q => q ≠ b13) (fun q hq => by have := hR8.ext.size; omega)).fr hF8_13
        refine RunE.tail rfl ?_
        replace hb8 := hb8.ext hX
        replace hb13 := hb13.ext hX
        replace hE := hE.trans hX
        refine Wl.val rfl rfl rfl (Gives.assign rfl rfl) ?_
        refine Wl.nil ?_
        refine Wx.thenN (hK10 _ _ ?_)
        refine Wc.seq (fun K13 hK13 => ?_)
        refine Wc.keep [(0, _), (9, _), (10, _), (11, _), (12, _), (13, _), (14, _)] (.cons rfl (.cons rfl (.cons rfl (.cons rfl (.cons rfl (.cons rfl (.cons rfl (.nil)))))))) ?_
        refine Wc.region ?_
        refine Wl.val rfl rfl rfl (Gives.ldW rfl (by kernel_rfl) rfl hb13 (by kernel_rfl)) ?_
        refine Wl.call rfl rfl rfl rfl Tryd.func20 rfl (by kernel_rfl) rfl (recoverP _ (hT.ext hE) A4 2 c4' d4 hD4 (by omega) (fun x hx => by have := c4 x hx; omega) 0) ?_
        rintro x8 w91 ⟨S6, m6, k6, rfl, hO6, hx91⟩
        refine ⟨_, rfl, ?_⟩
        replace hB6 := hB6.ext hx91
        replace hb8 := hb8.ext hx91
        replace hb13 := hb13.ext hx91
        replace hE := hE.trans hx91
        refine Wl.val rfl rfl rfl (Gives.move rfl rfl) ?_
        refine Wl.val rfl rfl rfl (Gives.extract rfl rfl rfl) ?_
        refine Wl.val rfl rfl rfl (Gives.extract rfl rfl rfl) ?_
        refine Wl.val rfl rfl rfl (Gives.extract rfl rfl rfl) ?_
        refine Wl.val rfl rfl rfl (Gives.assign rfl rfl) ?_
        refine Wl.val rfl rfl rfl (Gives.assign rfl rfl) ?_
        refine Wl.val rfl rfl rfl (Gives.assign rfl rfl) ?_
        refine Wl.nil ?_
        refine Wx.thenN (hK13 _ _ ?_)
        refine Wc.seq (fun K14 hK14 => ?_)
        refine Wc.keep [(0, _), (9, _), (10, _), (11, _), (12, _), (14, _), (17, _)] (.cons rfl (.cons rfl (.cons rfl (.cons rfl (.cons rfl (.cons rfl (.cons rfl (.nil)))))))) ?_
        refine Wc.region ?_
        refine Wl.val rfl rfl rfl (Gives.move rfl rfl) ?_
        refine Wl.val rfl rfl rfl (Gives.eql rfl rfl rfl) ?_
        refine Wl.val rfl rfl rfl (Gives.move rfl rfl) ?_
        refine Wl.guardT rfl rfl rfl rfl ?_
        refine Wl.val rfl rfl rfl (Gives.move rfl rfl) ?_
        refine Wl.val rfl rfl rfl (Gives.eql rfl rfl rfl) ?_
        refine Wl.val rfl rfl rfl (Gives.pickT rfl rfl rfl rfl) ?_
        refine Wl.val rfl rfl rfl (Gives.move rfl rfl) ?_
        refine Wl.guardT rfl rfl rfl (by rw [a2]; rfl) ?_
        refine Wl.val rfl rfl rfl (Gives.move rfl rfl) ?_
        refine Wl.val rfl rfl rfl (Gives.eql rfl rfl rfl) ?_
        refine Wl.val rfl rfl rfl (Gives.pickT rfl rfl rfl rfl) ?_
        refine Wl.val rfl rfl rfl (Gives.move rfl rfl) ?_
        refine Wl.guardT rfl rfl rfl (by rw [a3]; rfl) ?_
        refine Wl.val rfl rfl rfl (Gives.move rfl rfl) ?_
        refine Wl.val rfl rfl rfl (Gives.move rfl rfl) ?_
        refine Wl.call rfl rfl rfl rfl Tryd.func22 rfl (by kernel_rfl) rfl (same_calls _ _ _ _ _ _ _ _ _ hB6 (ha.ext hE)) ?_
        rintro x9 w1013 ⟨rfl, hq9⟩
        refine ⟨_, rfl, ?_⟩
        replace hb8 := hb8.ext hq9.ext
        replace hb13 := hb13.ext hq9.ext
        replace hE := hE.trans hq9.ext
        refine Wl.val rfl rfl rfl (Gives.pickT rfl rfl rfl rfl) ?_
        refine Wl.val rfl rfl rfl (Gives.move rfl rfl) ?_
        refine Wl.guardT rfl rfl rfl (by simp) ?_
        refine Wl.val rfl rfl rfl (Gives.move rfl rfl) ?_
        refine Wl.val rfl rfl rfl (Gives.eql rfl rfl rfl) ?_
        refine Wl.val rfl rfl rfl (Gives.pickT rfl rfl rfl rfl) ?_
        refine Wl.val rfl rfl rfl (Gives.move rfl rfl) ?_
        refine Wl.guardT rfl rfl rfl rfl ?_
        refine Wl.val rfl rfl rfl (Gives.move rfl rfl) ?_
        refine Wl.val rfl rfl rfl (Gives.eql rfl rfl rfl) ?_
        refine Wl.val rfl rfl rfl (Gives.pickT rfl rfl rfl rfl) ?_
        refine Wl.val rfl rfl rfl (Gives.assign rfl rfl) ?_
        refine Wl.nil ?_
        refine Wx.thenN (hK14 _ _ ?_)
        refine Wc.ret ?_
        refine Wx.ret [_] ⟨rfl, trivial⟩ ?_
        first | exact ⟨rfl, hE⟩ | exact ⟨ret_bool (by rw [c2]; rfl), hE⟩
      refine RunE.free rfl rfl rfl rfl (Does.alB (.agg #[(.slice none 0 0), (.int .i64 0), (.int .i64 0), (.int .i64 0), (.bool false)]) rfl (by kernel_rfl) rfl) ?_ RunE.none
      rintro _ w8_12 ⟨b13, rfl, hs13, hb13, hx8_12⟩
      have hn8_13 : b8 ≠ b13 := (hb8.ext hX).ne hs13
      have hg13 : w.heap.size ≤ b13 := Nat.le_trans (hE.trans hX).size hs13
      have hN13 := Nat.le_trans hX.size hs13
      replace hX := hX.trans hx8_12
      refine RunE.freeC rfl rfl rfl rfl rfl Tryd.func23 rfl (by kernel_rfl) rfl (by first | exact newPP (fun q => q ≠ b13) _ (fun q hq => by have := hb13.lt; omega) 2 2 rfl | exact newPP (fun _ => True) _ (Anew.top _) 2 2 rfl) ?_ RunE.none
      rintro x6 w80 ⟨A3, c3, d3, rfl, H3, hb3, hx80⟩
      refine ⟨_, rfl, ?_⟩
      obtain rfl : d3 = newS 2 := H3.out
      have hB5r := hB5.ext (hR8.ext.trans (hX.trans hx80))
      have hb3b := hb3.bdP
      replace hb13 := hb13.ext hx80
      replace hX := hX.trans hx80
      refine RunE.freeC rfl rfl rfl rfl rfl Tryd.func25 rfl (by kernel_rfl) rfl (by first | exact write_calls (fun q => q ≠ b13) _ (fun q hq => by have := hb13.lt; omega) A3 2 c3 (newS 2) (hb3b.mono fun q hq => by first | exact hq.1 | omega) (by omega) S1 j k1 ((recordS 1 p).take j) ((hR2.ext (hR8.ext.trans hX)).take (by omega)) (by omega) 1 (by decide) (by decide) (fun l hl => by have := (Lens.new 2 0) l hl; omega) | exact write_calls (fun _ => True) _ (Anew.top _) A3 2 c3 (newS 2) (hb3b.mono fun _ _ => trivial) (by omega) S1 j k1 ((recordS 1 p).take j) ((hR2.ext (hR8.ext.trans hX)).take (by omega)) (by omega) 1 (by decide) (by decide) (fun l hl => by have := (Lens.new 2 0) l hl; omega)) ?_ RunE.none
      rintro x7 w88 ⟨A4, c4', d4, e4, rfl, H4, hb4, hx88⟩
      refine ⟨_, rfl, ?_⟩
      have hd4 := H4.out.1
      rw [← hd4] at c2 c4
      obtain rfl : e4 = 0 := by { rw [H4.out.2]; rw [htk] at c1; exact c1 }
      replace hb13 := hb13.ext hx88
      replace hb3b := hb3b.ext hx88
      replace hB5r := hB5r.ext hx88
      replace hX := hX.trans hx88
      refine RunE.read rfl rfl rfl rfl (fun wS _ => (Gives.move rfl rfl)) ?_
      refine RunE.read rfl rfl rfl rfl (fun wS _ => (Gives.extract rfl rfl rfl)) ?_
      refine RunE.read rfl rfl rfl rfl (fun wS _ => (Gives.extract rfl rfl rfl)) ?_
      replace hb8 := hb8.ext hX
      replace hE := hE.trans hX
      refine RunE.freeN rfl rfl rfl (Does.stL 5 rfl rfl rfl hb13 (by kernel_rfl) rfl rfl rfl) ?_ RunE.none
      rintro _ w8_13 ⟨hbn, hF8_13⟩
      replace hb8 := hb8.fr hF8_13 (by first | assumption | exact Ne.symm (by assumption))
      replace hE := Ext.over hE hF8_13 hg13
      replace hb13 := hbn
      clear hbn
      replace hX := Ext.refl w8_13
      have hD4 : BL w8_13 (fun _ => True) A4 2 c4' d4.areas := by first | exact (hb4.fr hF8_13).mono fun _ _ => trivial | exact (((hb4.bdP.mono (P' := fun q => q ≠ b13) (fun q hq => by omega)).ext hx8_12).fr hF8_13).mono fun _ _ => trivial
      have hB6 := (hB5r.mono (P' := fun q => q ≠ b13) (fun q hq => by have := hR8.ext.size; omega)).fr hF8_13
      refine RunE.tail rfl ?_
      replace hb8 := hb8.ext hX
      replace hb13 := hb13.ext hX
      replace hE := hE.trans hX
      refine Wl.val rfl rfl rfl (Gives.assign rfl rfl) ?_
      refine Wl.nil ?_
      refine Wx.thenN (hK10 _ _ ?_)
      refine Wc.seq (fun K15 hK15 => ?_)
      refine Wc.keep [(0, _), (9, _), (10, _), (11, _), (12, _), (13, _), (14, _)] (.cons rfl (.cons rfl (.cons rfl (.cons rfl (.cons rfl (.cons rfl (.cons rfl (.nil)))))))) ?_
      refine Wc.region ?_
      refine Wl.val rfl rfl rfl (Gives.ldW rfl (by kernel_rfl) rfl hb13 (by kernel_rfl)) ?_
      refine Wl.call rfl rfl rfl rfl Tryd.func20 rfl (by kernel_rfl) rfl (recoverP _ (hT.ext hE) A4 2 c4' d4 hD4 (by omega) (fun x hx => by have := c4 x hx; omega) 0) ?_
      rintro x8 w91 ⟨S6, m6, k6, rfl, hO6, hx91⟩
      refine ⟨_, rfl, ?_⟩
      replace hB6 := hB6.ext hx91
      replace hb8 := hb8.ext hx91
      replace hb13 := hb13.ext hx91
      replace hE := hE.trans hx91
      refine Wl.val rfl rfl rfl (Gives.move rfl rfl) ?_
      refine Wl.val rfl rfl rfl (Gives.extract rfl rfl rfl) ?_
      refine Wl.val rfl rfl rfl (Gives.extract rfl rfl rfl) ?_
      refine Wl.val rfl rfl rfl (Gives.extract rfl rfl rfl) ?_
      refine Wl.val rfl rfl rfl (Gives.assign rfl rfl) ?_
      refine Wl.val rfl rfl rfl (Gives.assign rfl rfl) ?_
      refine Wl.val rfl rfl rfl (Gives.assign rfl rfl) ?_
      refine Wl.nil ?_
      refine Wx.thenN (hK15 _ _ ?_)
      refine Wc.seq (fun K16 hK16 => ?_)
      refine Wc.keep [(0, _), (9, _), (10, _), (11, _), (12, _), (14, _), (17, _)] (.cons rfl (.cons rfl (.cons rfl (.cons rfl (.cons rfl (.cons rfl (.cons rfl (.nil)))))))) ?_
      refine Wc.region ?_
      refine Wl.val rfl rfl rfl (Gives.move rfl rfl) ?_
      refine Wl.val rfl rfl rfl (Gives.eql rfl rfl rfl) ?_
      refine Wl.val rfl rfl rfl (Gives.move rfl rfl) ?_
      refine Wl.guardT rfl rfl rfl rfl ?_
      refine Wl.val rfl rfl rfl (Gives.move rfl rfl) ?_
      refine Wl.val rfl rfl rfl (Gives.eql rfl rfl rfl) ?_
      refine Wl.val rfl rfl rfl (Gives.pickT rfl rfl rfl rfl) ?_
      refine Wl.val rfl rfl rfl (Gives.move rfl rfl) ?_
      refine Wl.guardT rfl rfl rfl (by rw [a2]; rfl) ?_
      refine Wl.val rfl rfl rfl (Gives.move rfl rfl) ?_
      refine Wl.val rfl rfl rfl (Gives.eql rfl rfl rfl) ?_
      refine Wl.val rfl rfl rfl (Gives.pickT rfl rfl rfl rfl) ?_
      refine Wl.val rfl rfl rfl (Gives.move rfl rfl) ?_
      refine Wl.guardT rfl rfl rfl (by rw [a3]; rfl) ?_
      refine Wl.val rfl rfl rfl (Gives.move rfl rfl) ?_
      refine Wl.val rfl rfl rfl (Gives.move rfl rfl) ?_
      refine Wl.call rfl rfl rfl rfl Tryd.func22 rfl (by kernel_rfl) rfl (same_calls _ _ _ _ _ _ _ _ _ hB6 (ha.ext hE)) ?_
      rintro x9 w1013 ⟨rfl, hq9⟩
      refine ⟨_, rfl, ?_⟩
      replace hb8 := hb8.ext hq9.ext
      replace hb13 := hb13.ext hq9.ext
      replace hE := hE.trans hq9.ext
      refine Wl.val rfl rfl rfl (Gives.pickT rfl rfl rfl rfl) ?_
      refine Wl.val rfl rfl rfl (Gives.move rfl rfl) ?_
      refine Wl.guardT rfl rfl rfl (by simp) ?_
      refine Wl.val rfl rfl rfl (Gives.move rfl rfl) ?_
      refine Wl.val rfl rfl rfl (Gives.eql rfl rfl rfl) ?_
      refine Wl.val rfl rfl rfl (Gives.pickT rfl rfl rfl rfl) ?_
      refine Wl.val rfl rfl rfl (Gives.move rfl rfl) ?_
      refine Wl.guardT rfl rfl rfl rfl ?_
      refine Wl.val rfl rfl rfl (Gives.move rfl rfl) ?_
      refine Wl.val rfl rfl rfl (Gives.eql rfl rfl rfl) ?_
      refine Wl.val rfl rfl rfl (Gives.pickT rfl rfl rfl rfl) ?_
      refine Wl.val rfl rfl rfl (Gives.assign rfl rfl) ?_
      refine Wl.nil ?_
      refine Wx.thenN (hK16 _ _ ?_)
      refine Wc.ret ?_
      refine Wx.ret [_] ⟨rfl, trivial⟩ ?_
      first | exact ⟨rfl, hE⟩ | exact ⟨ret_bool (by rw [c2]; rfl), hE⟩
  · (first | replace h23 := of_decide_eq_true h23 | replace h23 := nd_true h23 | skip)
    refine Wl.pass rfl rfl rfl ?_
    refine Wl.pass rfl rfl rfl ?_
    refine Wl.pass rfl rfl rfl ?_
    refine Wl.val rfl rfl rfl (Gives.pickT rfl rfl rfl rfl) ?_
    refine Wl.nil ?_
    refine Wx.thenN (hK5 _ _ ?_)
    refine Wc.condT rfl rfl ?_
    refine Wc.seq (fun K17 hK17 => ?_)
    refine Wc.keep [] (.nil) ?_
    refine Wc.region ?_
    refine Wl.val rfl rfl rfl (Gives.assign rfl rfl) ?_
    refine Wl.nil ?_
    refine Wx.thenN (hK17 _ _ ?_)
    refine Wc.ret ?_
    refine Wx.thenR ?_
    refine Wx.ret [_] ⟨rfl, trivial⟩ ?_
    first | exact ⟨rfl, hE⟩ | exact ⟨ret_bool (by rw [c2]; rfl), hE⟩
end Go.Proofs.YtbbeoojlgfegjaaDoor
