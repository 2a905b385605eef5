/- JrnG: merged. -/
import Derived.Test.YtbbeoojlgfegjaaDoorJrnE
import Derived.Test.YtbbeoojlgfegjaaDoorDiskM
/- Journals: Recover of the program. -/
namespace Go.Proofs.YtbbeoojlgfegjaaDoor
set_option linter.all false
open Go.RowKit
/-- an element of one cell, of an array by value -/
theorem Gives.idx1 {P : Program} {n : Nat} {e : Env} {w : World} {o : Oper} {t el : TypeId} {x y : Operand} {k : IntKind} {v : Value} {len i : Nat} {zi : Int} {cs : Array Value} (ho : o.op = .index t x y) (ht : P.underlying t = some (.array len el)) (hd : (match P.underlying el with | some (.struct _) | some (.array _ _) => false | some _ => true | none => false) = true) (hsz : (P.info? el).map (·.size) = some 1) (hx : ev e x = some (.agg cs)) (hy : ev e y = some (.int k zi)) (hz : zi = (i : Int)) (hlt : i < len) (hv : cs[i]? = some v) : Gives P n o e w v := .run fun q hq => by
  subst hz
  cases hu : P.underlying el with
  | none => simp [hu] at hd
  | some d =>
    cases hq' : P.info? el with
    | none => simp [hq'] at hsz
    | some f =>
      have hf : f.size = 1 := by simpa [hq'] using hsz
      have hagg : (isAgg el).run P w = .ok false w := by
        unfold isAgg
        rw [Sem.run_bind, run_underlying hu w]
        simp only [hu] at hd
        cases d <;> simp_all
      have h1 : (0 : Int) ≤ (i : Int) ∧ (i : Int) < (len : Int) := ⟨by omega, by omega⟩
      unfold execOp
      simp only [ho, hq.ev hx, hq.ev hy]
      simp [Instr.index, asIntOf, run_underlying ht, part, hagg, sizeOf, typeInfo, hq', hf, go_sem, hlt, hv]
def RecR (w : World) (j : Jr) (er : Int) (e : Ending) (w' : World) : Prop := ∃ S m k, e = .returned (.tuple #[.slice S m k, .int .i64 j.s, .int .i64 er]) ∧ OB w' w.heap.size 5 S m k j.p ∧ Ext w w'
theorem RecR.no {w w' : World} {d : Dk} {base er : Int} (h : recoverE d base = er) (h0 : er ≠ 0) (hE : Ext w w') : RecR w (recoverJ d base) (recoverE d base) (.returned (resV [.slice none 0 0, .int .i64 0, .int .i64 er])) w' := by
  unfold recoverJ
  rw [if_neg (by rw [h]; exact h0), h]
  exact ⟨none, 0, 0, rfl, OB.nil_ _ _ _, hE⟩
theorem RecR.yes {w w' : World} {d : Dk} {base s : Int} {S : Option Addr} {m k : Nat} (h : recoverE d base = 0) (hs : s = (recS d base).s) (hO : OB w' w.heap.size 5 S m k (recS d base).p) (hE : Ext w w') : RecR w (recoverJ d base) (recoverE d base) (.returned (resV [.slice S m k, .int .i64 s, .int .i64 0])) w' := by
  unfold recoverJ
  rw [if_pos h, h, hs]
  exact ⟨S, m, k, rfl, hO, hE⟩
theorem rec_bad {d : Dk} {base : Int} (h : basedS base = false) : recoverE d base = 1 := by unfold recoverE; rw [if_pos h]
theorem rec_e0 {d : Dk} {base : Int} (h : basedS base = true) (h0 : readE d base ≠ 0) : recoverE d base = readE d base := by unfold recoverE; rw [if_neg (by simp [h]), if_pos h0]
theorem rec_e1 {d : Dk} {base : Int} (h : basedS base = true) (h0 : readE d base = 0) (h1 : readE d (base + 1) ≠ 0) : recoverE d base = readE d (base + 1) := by unfold recoverE; rw [if_neg (by simp [h]), if_neg (by simp [h0]), if_pos h1]
theorem rec_fin {d : Dk} {base : Int} (h : basedS base = true) (h0 : readE d base = 0) (h1 : readE d (base + 1) = 0) : recoverE d base = if (recS d base).ok = true then 0 else 30 := by unfold recoverE; rw [if_neg (by simp [h]), if_neg (by simp [h0]), if_neg (by simp [h1])]
/-- the best of the first i areas -/
def bestN (d : Dk) (base : Int) : Nat → Jr
  | 0 => noJr
  | i + 1 => bestS (bestN d base i) (parseS (readS d (base + i)) i)
theorem bestN2 (d : Dk) (base : Int) : bestN d base 2 = recS d base := by
  unfold recS
  show bestS (bestS noJr (parseS (readS d (base + ((0 : Nat) : Int))) ((0 : Nat) : Int))) (parseS (readS d (base + ((1 : Nat) : Int))) ((1 : Nat) : Int)) = _
  rw [show base + ((0 : Nat) : Int) = base by omega]; rfl
theorem read_le {d : Dk} {a : Int} {L : Nat} (hs : ∀ l ∈ d.areas, l.length ≤ L) : (readS d a).length ≤ L := by
  unfold readS
  split
  · simp
  · split
    · simp
    · rw [List.getD]
      cases hq : d.areas[a.toNat]? with
      | none => simp
      | some l => exact hs l (List.mem_of_getElem? hq)
theorem best_y {a b : Jr} (h : b.ok = true) (h2 : a.s < b.s) : bestS a b = b := by unfold bestS; rw [h, decide_eq_true h2]; rfl
theorem best_n {a b : Jr} (h : ¬ (b.ok = true ∧ a.s < b.s)) : bestS a b = a := by unfold bestS; rw [if_neg]; simpa using h
set_option maxRecDepth 10000 in
set_option maxHeartbeats 1000000 in
theorem recoverP {P : Nat → Prop} (w : World) (hT : Tab w) (A : Option Addr) (n c : Nat) (d : Dk) (ha : BL w P A n c d.areas) (hn : n ≤ 64) (hs : ∀ l ∈ d.areas, l.length ≤ 1000000) (base : Int) :
    Calls Tryd.prog 20 #[.agg #[.slice A n c, .int .i64 d.wr, .int .i64 d.ct, .int .i64 d.tn, .bool d.off], .int .i64 base] w (RecR w (recoverJ d base) (recoverE d base)) := by
  refine calls_enter Tryd.func20 rfl Tryd.ntmps20 rfl ?_
  have hE : Ext w w := Ext.refl w
  refine Wc.seq (fun K1 hK1 => ?_)
  refine Wc.keep [(0, _), (1, _)] (.cons rfl (.cons rfl (.nil))) ?_
  refine Wc.region ?_
  refine Wl.does rfl rfl rfl (Does.boxA rfl rfl) ?_
  rintro _ w0_0 ⟨b2, rfl, hs2, hb2, hx0_0⟩
  have hg2 : w.heap.size ≤ b2 := Nat.le_trans hE.size hs2
  replace hE := hE.trans hx0_0
  refine Wl.val rfl rfl rfl (Gives.assign rfl rfl) ?_
  refine Wl.val rfl rfl rfl (Gives.assign rfl rfl) ?_
  refine Wl.val rfl rfl rfl (Gives.assign rfl rfl) ?_
  refine Wl.nil ?_
  refine Wx.thenN (hK1 _ _ ?_)
  refine Wc.seq (fun K2 hK2 => ?_)
  refine Wc.seq (fun K3 hK3 => ?_)
  refine Wc.keep [(1, _), (2, _), (4, _), (5, _)] (.cons rfl (.cons rfl (.cons rfl (.cons rfl (.nil))))) ?_
  refine Wc.region ?_
  refine Wl.val rfl rfl rfl (Gives.move rfl rfl) ?_
  refine Wl.call rfl rfl rfl rfl Tryd.func31 rfl (by kernel_rfl) rfl (based_calls _ base) ?_
  rintro x0 w16 ⟨rfl, hx0⟩
  refine ⟨_, rfl, ?_⟩
  replace hb2 := hb2.ext hx0
  replace hE := hE.trans hx0
  refine Wl.val rfl rfl rfl (Gives.not rfl rfl) ?_
  refine Wl.nil ?_
  refine Wx.thenN (hK3 _ _ ?_)
  refine Wc.cond _ rfl (fun h17 => ?_) (fun h17 => ?_)
  · (first | replace h17 := of_decide_eq_true h17 | replace h17 := nd_true h17 | skip)
    refine Wc.seq (fun K4 hK4 => ?_)
    refine Wc.keep [] (.nil) ?_
    refine Wc.region ?_
    refine Wl.val rfl rfl rfl (Gives.assign rfl rfl) ?_
    refine Wl.val rfl rfl rfl (Gives.assign rfl rfl) ?_
    refine Wl.val rfl rfl rfl (Gives.assign rfl rfl) ?_
    refine Wl.nil ?_
    refine Wx.thenN (hK4 _ _ ?_)
    refine Wc.ret ?_
    refine Wx.thenR ?_
    refine Wx.ret [_, _, _] ⟨rfl, ⟨rfl, ⟨rfl, trivial⟩⟩⟩ ?_
    exact RecR.no (rec_bad (by simpa using h17)) (by decide) hE
  · (first | replace h17 := of_decide_eq_false h17 | replace h17 := nd_false h17 | skip)
    refine Wc.skip ?_
    refine Wx.thenN (hK2 _ _ ?_)
    refine Wc.seq (fun K5 hK5 => ?_)
    refine Wc.keep [(1, _), (2, _), (4, _), (5, _)] (.cons rfl (.cons rfl (.cons rfl (.cons rfl (.nil))))) ?_
    have hbs : basedS base = true := by simpa using h17
    have hbs2 := hbs
    unfold basedS at hbs2
    rw [Bool.and_eq_true, decide_eq_true_eq, decide_eq_true_eq] at hbs2
    refine Wc.region ?_
    refine Wl.does rfl rfl rfl (Does.alB (.agg #[(.slice none 0 0), (.slice none 0 0)]) rfl (by kernel_rfl) rfl) ?_
    rintro _ w3_0 ⟨b7, rfl, hs7, hb7, hx3_0⟩
    have hn2_7 : b2 ≠ b7 := hb2.ne hs7
    have hg7 : w.heap.size ≤ b7 := Nat.le_trans hE.size hs7
    replace hb2 := hb2.ext hx3_0
    replace hE := hE.trans hx3_0
    refine Wl.nil ?_
    refine Wx.thenN (hK5 _ _ ?_)
    refine Wc.seq (fun K6 hK6 => ?_)
    refine Wc.seq (fun K7 hK7 => ?_)
    refine Wc.keep [(1, _), (2, _), (4, _), (5, _), (7, _)] (.cons rfl (.cons rfl (.cons rfl (.cons rfl (.cons rfl (.nil)))))) ?_
    refine Wc.region ?_
    refine Wl.val rfl rfl rfl (Gives.move rfl rfl) ?_
    refine Wl.nil ?_
    refine Wx.thenN (hK7 _ _ ?_)
    refine Wc.block ?_
    refine Wc.keep [(1, _), (2, _), (4, _), (5, _), (7, _), (18, _)] (.cons rfl (.cons rfl (.cons rfl (.cons rfl (.cons rfl (.cons rfl (.nil))))))) ?_
    refine Wc.loopC (ι := Nat × (Option Addr × Nat × Nat) × (Option Addr × Nat × Nat)) [(1, _), (2, _), (7, _)] (fun | (i, _, _) => [(18, .int .i64 (i : Int)), (4, .slice none 0 0), (5, .int .i64 0)]) (fun | (i, (S0, m0, k0), (S1, m1, k1)), wr => i ≤ 2 ∧ (0 < i → readE d base = 0 ∧ BV wr (fun q => q ≠ b7) S0 m0 k0 (readS d base)) ∧ (1 < i → readE d (base + 1) = 0 ∧ BV wr (fun q => q ≠ b7) S1 m1 k1 (readS d (base + 1))) ∧ Blk wr b2 28 #[.slice A n c, .int .i64 d.wr, .int .i64 d.ct, .int .i64 d.tn, .bool d.off] ∧ Blk wr b7 55 #[.slice S0 m0 k0, .slice S1 m1 k1] ∧ Ext w wr) (fun | (i, _, _) => 2 - i) ((0, (none, 0, 0), (none, 0, 0))) (.cons (by first | exact rfl | exact look_int rfl (by omega) | exact look_slice rfl (by omega)) (.cons (by first | exact rfl | exact look_int rfl (by omega) | exact look_slice rfl (by omega)) (.cons (by first | exact rfl | exact look_int rfl (by omega) | exact look_slice rfl (by omega)) (.cons rfl (.cons rfl (.cons rfl (.nil))))))) (⟨by omega, fun h => absurd h (by omega), fun h => absurd h (by omega), hb2, hb7, hE⟩) ?_
    intro ⟨i, ⟨S0, m0, k0⟩, ⟨S1, m1, k1⟩⟩ wr1 hJ KL1 hKL1
    clear hb2 hb7 hE
    obtain ⟨hi, hr0, hr1, hb2, hb7, hE⟩ := hJ
    refine Wc.seq (fun K8 hK8 => ?_)
    refine Wc.keep [(1, _), (2, _), (4, _), (5, _), (7, _), (18, _)] (.cons rfl (.cons rfl (.cons rfl (.cons rfl (.cons rfl (.cons rfl (.nil))))))) ?_
    refine Wc.region ?_
    refine Wl.val rfl rfl rfl (Gives.lss rfl rfl rfl) ?_
    refine Wl.nil ?_
    refine Wx.thenN (hK8 _ _ ?_)
    refine Wc.seq (fun K9 hK9 => ?_)
    refine Wc.cond _ rfl (fun h19 => ?_) (fun h19 => ?_)
    · (first | replace h19 := of_decide_eq_true h19 | replace h19 := nd_true h19 | skip)
      refine Wc.skip ?_
      refine Wx.thenN (hK9 _ _ ?_)
      refine Wc.seq (fun K10 hK10 => ?_)
      refine Wc.block ?_
      refine Wc.seq (fun K11 hK11 => ?_)
      refine Wc.keep [(1, _), (2, _), (4, _), (5, _), (7, _), (18, _)] (.cons rfl (.cons rfl (.cons rfl (.cons rfl (.cons rfl (.cons rfl (.nil))))))) ?_
      refine Wc.region ?_
      refine Wl.val rfl rfl rfl (Gives.move rfl rfl) ?_
      refine Wl.val rfl rfl rfl (Gives.assign rfl rfl) ?_
      refine Wl.nil ?_
      refine Wx.thenN (hK11 _ _ ?_)
      refine Wc.seq (fun K12 hK12 => ?_)
      refine Wc.keep [(1, _), (2, _), (4, _), (5, _), (7, _), (8, _), (18, _)] (.cons rfl (.cons rfl (.cons rfl (.cons rfl (.cons rfl (.cons rfl (.cons rfl (.nil)))))))) ?_
      refine Wc.region ?_
      refine Wl.val rfl rfl rfl (Gives.move rfl rfl) ?_
      refine Wl.val rfl rfl rfl (Gives.ldW rfl (by kernel_rfl) rfl hb2 (by kernel_rfl)) ?_
      refine Wl.val rfl rfl rfl (Gives.move rfl rfl) ?_
      refine Wl.val rfl rfl rfl (Gives.move rfl rfl) ?_
      refine Wl.val rfl rfl rfl (Gives.add rfl rfl rfl (by first | exact IntWalk.i64_in _ (by omega) | exact u64_in _ (by omega) | exact u32_in _ (by omega) | exact u8_in _ (by omega) | exact rfl)) ?_
      refine Wl.call rfl rfl rfl rfl Tryd.func36 rfl (by kernel_rfl) rfl (readP_calls _ A n c d (ha.ext hE) hn (fun l hl => by have := hs l hl; omega) (base + i)) ?_
      rintro x1 w75 ⟨S, m, k, l1, e1, rfl, H1, hO1, hx1⟩
      refine ⟨_, rfl, ?_⟩
      have hz7 := hb7.lt
      replace hb2 := hb2.ext hx1
      replace hb7 := hb7.ext hx1
      replace hE := hE.trans hx1
      refine Wl.val rfl rfl rfl (Gives.move rfl rfl) ?_
      refine Wl.val rfl rfl rfl (Gives.extract rfl rfl rfl) ?_
      refine Wl.val rfl rfl rfl (Gives.extract rfl rfl rfl) ?_
      refine Wl.val rfl rfl rfl (Gives.ixA (i := _) rfl Tryd.underlying55 (by kernel_rfl) rfl rfl rfl (by omega)) ?_
      refine Wl.acts rfl rfl (Does.stC (i := 0 + i) rfl rfl rfl hb7 (by kernel_rfl) (by show 0 + i < 2; omega) rfl) ?_
      rintro _ w710 ⟨hb7n, hF710⟩
      replace hb2 := hb2.fr hF710 (by first | assumption | exact Ne.symm (by assumption))
      replace hE := Ext.over hE hF710 hg7
      replace hb7 := hb7n
      clear hb7n
      have hBn : BV w710 (fun q => q ≠ b7) S m k l1 := (hO1.bv (P := fun q => q ≠ b7) fun q hq => by omega).fr hF710
      replace hr0 : 0 < i → readE d base = 0 ∧ BV w710 (fun q => q ≠ b7) S0 m0 k0 (readS d base) := fun h => ⟨(hr0 h).1, ((hr0 h).2.ext hx1).fr hF710⟩
      replace hr1 : 1 < i → readE d (base + 1) = 0 ∧ BV w710 (fun q => q ≠ b7) S1 m1 k1 (readS d (base + 1)) := fun h => ⟨(hr1 h).1, ((hr1 h).2.ext hx1).fr hF710⟩
      refine Wl.val rfl rfl rfl (Gives.assign rfl rfl) ?_
      refine Wl.nil ?_
      refine Wx.thenN (hK12 _ _ ?_)
      refine Wc.seq (fun K13 hK13 => ?_)
      refine Wc.keep [(1, _), (2, _), (4, _), (5, _), (6, _), (7, _), (18, _)] (.cons rfl (.cons rfl (.cons rfl (.cons rfl (.cons rfl (.cons rfl (.cons rfl (.nil)))))))) ?_
      refine Wc.region ?_
      refine Wl.val rfl rfl rfl (Gives.move rfl rfl) ?_
      refine Wl.val rfl rfl rfl (Gives.neq rfl rfl rfl) ?_
      refine Wl.nil ?_
      refine Wx.thenN (hK13 _ _ ?_)
      refine Wc.cond _ rfl (fun h32 => ?_) (fun h32 => ?_)
      · (first | replace h32 := of_decide_eq_true h32 | replace h32 := nd_true h32 | skip)
        refine Wc.seq (fun K14 hK14 => ?_)
        refine Wc.keep [(6, _)] (.cons rfl (.nil)) ?_
        refine Wc.region ?_
        refine Wl.val rfl rfl rfl (Gives.move rfl rfl) ?_
        refine Wl.val rfl rfl rfl (Gives.assign rfl rfl) ?_
        refine Wl.val rfl rfl rfl (Gives.assign rfl rfl) ?_
        refine Wl.val rfl rfl rfl (Gives.assign rfl rfl) ?_
        refine Wl.nil ?_
        refine Wx.thenN (hK14 _ _ ?_)
        refine Wc.ret ?_
        refine Wx.blockR ?_
        refine Wx.thenR ?_
        refine Wx.thenR ?_
        refine Wx.blockR ?_
        refine Wx.thenR ?_
        refine Wx.ret [_, _, _] ⟨rfl, ⟨rfl, ⟨rfl, trivial⟩⟩⟩ ?_
        obtain ⟨hl1, he1⟩ := H1.out
        rcases (show i = 0 ∨ i = 1 by omega) with rfl | rfl
        · have hq : base + ((0 : Nat) : Int) = base := by omega
          rw [hq] at he1
          exact RecR.no ((rec_e0 hbs (by omega)).trans he1.symm) (by omega) hE
        · have hq : base + ((1 : Nat) : Int) = base + 1 := by omega
          rw [hq] at he1
          exact RecR.no ((rec_e1 hbs (hr0 (by omega)).1 (by omega)).trans he1.symm) (by omega) hE
      · (first | replace h32 := of_decide_eq_false h32 | replace h32 := nd_false h32 | skip)
        refine Wc.skip ?_
        refine Wx.blockN ?_
        refine Wx.thenN (hK10 _ _ ?_)
        refine Wc.keep [(1, _), (2, _), (4, _), (5, _), (7, _), (18, _)] (.cons rfl (.cons rfl (.cons rfl (.cons rfl (.cons rfl (.cons rfl (.nil))))))) ?_
        refine Wc.region ?_
        refine Wl.val rfl rfl rfl (Gives.add rfl rfl rfl (by first | exact IntWalk.i64_in _ (by omega) | exact u64_in _ (by omega) | exact u32_in _ (by omega) | exact u8_in _ (by omega) | exact rfl)) ?_
        refine Wl.val rfl rfl rfl (Gives.move rfl rfl) ?_
        refine Wl.nil ?_
        refine Wx.thenN ?_
        obtain ⟨hl1, he1⟩ := H1.out
        rcases (show i = 0 ∨ i = 1 by omega) with rfl | rfl
        · refine hKL1 (0 + 1, (S, m, k), (S1, m1, k1)) _ _ (.cons (by first | exact rfl | exact look_int rfl (by omega) | exact look_slice rfl (by omega)) (.cons (by first | exact rfl | exact look_int rfl (by omega) | exact look_slice rfl (by omega)) (.cons (by first | exact rfl | exact look_int rfl (by omega) | exact look_slice rfl (by omega)) (.cons rfl (.cons rfl (.cons rfl (.nil))))))) ⟨by omega, fun _ => ⟨?_, ?_⟩, fun h => absurd h (by omega), hb2, hb7, hE⟩ (by show 2 - (0 + 1) < 2 - 0; omega)
          · have : base + ((0 : Nat) : Int) = base := by omega
            rw [this] at he1
            rw [← he1]; omega
          · have : base + ((0 : Nat) : Int) = base := by omega
            rw [this] at hl1
            rw [← hl1]; exact hBn
        · refine hKL1 (1 + 1, (S0, m0, k0), (S, m, k)) _ _ (.cons (by first | exact rfl | exact look_int rfl (by omega) | exact look_slice rfl (by omega)) (.cons (by first | exact rfl | exact look_int rfl (by omega) | exact look_slice rfl (by omega)) (.cons (by first | exact rfl | exact look_int rfl (by omega) | exact look_slice rfl (by omega)) (.cons rfl (.cons rfl (.cons rfl (.nil))))))) ⟨by omega, fun _ => hr0 (by omega), fun _ => ⟨?_, ?_⟩, hb2, hb7, hE⟩ (by show 2 - (1 + 1) < 2 - 1; omega)
          · have : base + ((1 : Nat) : Int) = base + 1 := by omega
            rw [this] at he1
            rw [← he1]; omega
          · have : base + ((1 : Nat) : Int) = base + 1 := by omega
            rw [this] at hl1
            rw [← hl1]; exact hBn
    · (first | replace h19 := of_decide_eq_false h19 | replace h19 := nd_false h19 | skip)
      refine Wc.exit ?_
      refine Wx.thenE ?_
      refine Wx.thenE ?_
      refine Wx.hit ?_
      refine Wx.thenN (hK6 _ _ ?_)
      refine Wc.seq (fun K15 hK15 => ?_)
      refine Wc.keep [(4, _), (5, _), (7, _)] (.cons rfl (.cons rfl (.cons rfl (.nil)))) ?_
      obtain rfl : i = 2 := by omega
      obtain ⟨hE0, hA0⟩ := hr0 (by omega)
      obtain ⟨hE1, hA1⟩ := hr1 (by omega)
      have hfin := rec_fin hbs hE0 hE1
      clear hr0 hr1 hi
      have hX0 := Ext.refl wr1
      refine Wc.region ?_
      refine Wl.val rfl rfl rfl (Gives.assign rfl rfl) ?_
      refine Wl.nil ?_
      refine Wx.thenN (hK15 _ _ ?_)
      refine Wc.seq (fun K16 hK16 => ?_)
      refine Wc.seq (fun K17 hK17 => ?_)
      refine Wc.keep [(4, _), (5, _), (7, _), (9, _)] (.cons rfl (.cons rfl (.cons rfl (.cons rfl (.nil))))) ?_
      refine Wc.region ?_
      refine Wl.val rfl rfl rfl (Gives.ldW rfl (by kernel_rfl) rfl hb7 (by kernel_rfl)) ?_
      refine Wl.val rfl rfl rfl (Gives.move rfl rfl) ?_
      refine Wl.nil ?_
      refine Wx.thenN (hK17 _ _ ?_)
      refine Wc.block ?_
      refine Wc.keep [(4, _), (5, _), (9, _), (35, _), (36, _)] (.cons rfl (.cons rfl (.cons rfl (.cons rfl (.cons rfl (.nil)))))) ?_
      refine Wc.loopC (ι := Nat × (Option Addr × Nat × Nat) × Int × Bool) [(35, _)] (fun | (i, (S, m, k), s, ok) => [(36, .int .i64 (i : Int)), (4, .slice S m k), (5, .int .i64 s), (9, .bool ok)]) (fun | (i, (S, m, k), s, ok), wr => i ≤ 2 ∧ s = (bestN d base i).s ∧ ok = (bestN d base i).ok ∧ OB wr w.heap.size 5 S m k (bestN d base i).p ∧ Ext wr1 wr ∧ Ext w wr) (fun | (i, _, _, _) => 2 - i) ((0, (none, 0, 0), 0, false)) (.cons (by first | exact rfl | exact look_int rfl (by omega) | exact look_slice rfl (by omega)) (.cons (by first | exact rfl | exact look_int rfl (by omega) | exact look_slice rfl (by omega)) (.cons (by first | exact rfl | exact look_int rfl (by omega) | exact look_slice rfl (by omega)) (.cons (by first | exact rfl | exact look_int rfl (by omega) | exact look_slice rfl (by omega)) (.cons rfl (.nil)))))) (⟨by omega, rfl, rfl, OB.nil_ _ _ _, hX0, hE⟩) ?_
      intro ⟨i, ⟨S, m, k⟩, s, ok⟩ wr2 hJ KL2 hKL2
      clear hE hX0
      obtain ⟨hi, hs1, hok, hO, hX0, hE⟩ := hJ
      refine Wc.seq (fun K18 hK18 => ?_)
      refine Wc.keep [(4, _), (5, _), (9, _), (35, _), (36, _)] (.cons rfl (.cons rfl (.cons rfl (.cons rfl (.cons rfl (.nil)))))) ?_
      refine Wc.region ?_
      refine Wl.val rfl rfl rfl (Gives.lss rfl rfl rfl) ?_
      refine Wl.nil ?_
      refine Wx.thenN (hK18 _ _ ?_)
      refine Wc.seq (fun K19 hK19 => ?_)
      refine Wc.cond _ rfl (fun h37 => ?_) (fun h37 => ?_)
      · (first | replace h37 := of_decide_eq_true h37 | replace h37 := nd_true h37 | skip)
        refine Wc.skip ?_
        refine Wx.thenN (hK19 _ _ ?_)
        refine Wc.seq (fun K20 hK20 => ?_)
        refine Wc.block ?_
        refine Wc.seq (fun K21 hK21 => ?_)
        refine Wc.keep [(4, _), (5, _), (9, _), (35, _), (36, _)] (.cons rfl (.cons rfl (.cons rfl (.cons rfl (.cons rfl (.nil)))))) ?_
        obtain ⟨Si, mi, ki, hv, hBi⟩ : ∃ Si mi ki, (#[Value.slice S0 m0 k0, Value.slice S1 m1 k1])[i]? = some (.slice Si mi ki) ∧ BV wr2 (fun q => q ≠ b7) Si mi ki (readS d (base + i)) := by
          rcases (show i = 0 ∨ i = 1 by omega) with rfl | rfl
          · exact ⟨S0, m0, k0, rfl, by rw [show base + ((0 : Nat) : Int) = base by omega]; exact hA0.ext hX0⟩
          · exact ⟨S1, m1, k1, rfl, by rw [show base + ((1 : Nat) : Int) = base + 1 by omega]; exact hA1.ext hX0⟩
        have hmi : mi ≤ 1000000 := by have h1 := hBi.len; have h2 := read_le (d := d) (a := base + i) hs; omega
        refine Wc.region ?_
        refine Wl.val rfl rfl rfl (Gives.move rfl rfl) ?_
        refine Wl.val rfl rfl rfl (Gives.idx1 (i := i) rfl Tryd.underlying55 (by kernel_rfl) (by kernel_rfl) rfl rfl rfl (by omega) hv) ?_
        refine Wl.val rfl rfl rfl (Gives.assign rfl rfl) ?_
        refine Wl.val rfl rfl rfl (Gives.assign rfl rfl) ?_
        refine Wl.nil ?_
        refine Wx.thenN (hK21 _ _ ?_)
        refine Wc.seq (fun K22 hK22 => ?_)
        refine Wc.keep [(4, _), (5, _), (9, _), (10, _), (11, _), (35, _), (36, _)] (.cons rfl (.cons rfl (.cons rfl (.cons rfl (.cons rfl (.cons rfl (.cons rfl (.nil)))))))) ?_
        refine Wc.region ?_
        refine Wl.val rfl rfl rfl (Gives.move rfl rfl) ?_
        refine Wl.val rfl rfl rfl (Gives.move rfl rfl) ?_
        refine Wl.call rfl rfl rfl rfl Tryd.func37 rfl (by kernel_rfl) rfl (parseP _ (hT.ext hE) Si mi ki _ hBi hmi i) ?_
        rintro x2 w152 ⟨S5, m5, k5, rfl, hO5, hx5⟩
        refine ⟨_, rfl, ?_⟩
        replace hO5 := hO5.mono hE.size
        replace hO := hO.ext hx5
        replace hX0 := hX0.trans hx5
        generalize hjr : parseS (readS d (base + i)) i = jr at *
        replace hE := hE.trans hx5
        refine Wl.val rfl rfl rfl (Gives.move rfl rfl) ?_
        refine Wl.val rfl rfl rfl (Gives.extract rfl rfl rfl) ?_
        refine Wl.val rfl rfl rfl (Gives.extract rfl rfl rfl) ?_
        refine Wl.val rfl rfl rfl (Gives.extract rfl rfl rfl) ?_
        refine Wl.val rfl rfl rfl (Gives.assign rfl rfl) ?_
        refine Wl.val rfl rfl rfl (Gives.assign rfl rfl) ?_
        refine Wl.val rfl rfl rfl (Gives.assign rfl rfl) ?_
        refine Wl.nil ?_
        refine Wx.thenN (hK22 _ _ ?_)
        refine Wc.seq (fun K23 hK23 => ?_)
        refine Wc.keep [(4, _), (5, _), (9, _), (12, _), (13, _), (14, _), (35, _), (36, _)] (.cons rfl (.cons rfl (.cons rfl (.cons rfl (.cons rfl (.cons rfl (.cons rfl (.cons rfl (.nil))))))))) ?_
        refine Wc.region ?_
        refine Wl.val rfl rfl rfl (Gives.move rfl rfl) ?_
        refine Wl.val rfl rfl rfl (Gives.move rfl rfl) ?_
        refine Wl.guard rfl rfl rfl (fun h48 => ?_) (fun h48 => ?_)
        · (first | replace h48 := of_decide_eq_true h48 | replace h48 := nd_true h48 | skip)
          refine Wl.val rfl rfl rfl (Gives.move rfl rfl) ?_
          refine Wl.val rfl rfl rfl (Gives.move rfl rfl) ?_
          refine Wl.val rfl rfl rfl (Gives.gtr rfl rfl rfl) ?_
          refine Wl.val rfl rfl rfl (Gives.pickT rfl rfl rfl rfl) ?_
          refine Wl.nil ?_
          refine Wx.thenN (hK23 _ _ ?_)
          refine Wc.cond _ rfl (fun h52 => ?_) (fun h52 => ?_)
          · (first | replace h52 := of_decide_eq_true h52 | replace h52 := nd_true h52 | skip)
            refine Wc.keep [(12, _), (13, _), (35, _), (36, _)] (.cons rfl (.cons rfl (.cons rfl (.cons rfl (.nil))))) ?_
            refine Wc.region ?_
            refine Wl.val rfl rfl rfl (Gives.move rfl rfl) ?_
            refine Wl.val rfl rfl rfl (Gives.move rfl rfl) ?_
            refine Wl.val rfl rfl rfl (Gives.assign rfl rfl) ?_
            refine Wl.val rfl rfl rfl (Gives.assign rfl rfl) ?_
            refine Wl.val rfl rfl rfl (Gives.assign rfl rfl) ?_
            refine Wl.nil ?_
            refine Wx.blockN ?_
            refine Wx.thenN (hK20 _ _ ?_)
            refine Wc.keep [(4, _), (5, _), (9, _), (35, _), (36, _)] (.cons rfl (.cons rfl (.cons rfl (.cons rfl (.cons rfl (.nil)))))) ?_
            refine Wc.region ?_
            refine Wl.val rfl rfl rfl (Gives.add rfl rfl rfl (by first | exact IntWalk.i64_in _ (by omega) | exact u64_in _ (by omega) | exact u32_in _ (by omega) | exact u8_in _ (by omega) | exact rfl)) ?_
            refine Wl.val rfl rfl rfl (Gives.move rfl rfl) ?_
            refine Wl.nil ?_
            refine Wx.thenN ?_
            have hbe : bestN d base (i + 1) = jr := by show bestS (bestN d base i) (parseS (readS d (base + i)) i) = jr; rw [hjr]; exact best_y (by simp_all) (by first | omega | simp_all)
            refine hKL2 (i + 1, (S5, m5, k5), _, true) _ _ (.cons (by first | exact rfl | exact look_int rfl (by omega) | exact look_slice rfl (by omega)) (.cons (by first | exact rfl | exact look_int rfl (by omega) | exact look_slice rfl (by omega)) (.cons (by first | exact rfl | exact look_int rfl (by omega) | exact look_slice rfl (by omega)) (.cons (by first | exact rfl | exact look_int rfl (by omega) | exact look_slice rfl (by omega)) (.cons rfl (.nil)))))) ⟨by omega, by rw [hbe], by rw [hbe]; simp_all, by rw [hbe]; exact hO5, hX0, hE⟩ (by show 2 - (i + 1) < 2 - i; omega)
          · (first | replace h52 := of_decide_eq_false h52 | replace h52 := nd_false h52 | skip)
            refine Wc.skip ?_
            refine Wx.blockN ?_
            refine Wx.thenN (hK20 _ _ ?_)
            refine Wc.keep [(4, _), (5, _), (9, _), (35, _), (36, _)] (.cons rfl (.cons rfl (.cons rfl (.cons rfl (.cons rfl (.nil)))))) ?_
            refine Wc.region ?_
            refine Wl.val rfl rfl rfl (Gives.add rfl rfl rfl (by first | exact IntWalk.i64_in _ (by omega) | exact u64_in _ (by omega) | exact u32_in _ (by omega) | exact u8_in _ (by omega) | exact rfl)) ?_
            refine Wl.val rfl rfl rfl (Gives.move rfl rfl) ?_
            refine Wl.nil ?_
            refine Wx.thenN ?_
            have hbe : bestN d base (i + 1) = bestN d base i := by show bestS (bestN d base i) (parseS (readS d (base + i)) i) = _; rw [hjr]; exact best_n (by rintro ⟨q1, q2⟩; first | omega | simp_all)
            refine hKL2 (i + 1, (S, m, k), s, ok) _ _ (.cons (by first | exact rfl | exact look_int rfl (by omega) | exact look_slice rfl (by omega)) (.cons (by first | exact rfl | exact look_int rfl (by omega) | exact look_slice rfl (by omega)) (.cons (by first | exact rfl | exact look_int rfl (by omega) | exact look_slice rfl (by omega)) (.cons (by first | exact rfl | exact look_int rfl (by omega) | exact look_slice rfl (by omega)) (.cons rfl (.nil)))))) ⟨by omega, by rw [hbe]; exact hs1, by rw [hbe]; exact hok, by rw [hbe]; exact hO, hX0, hE⟩ (by show 2 - (i + 1) < 2 - i; omega)
        · (first | replace h48 := of_decide_eq_false h48 | replace h48 := nd_false h48 | skip)
          refine Wl.pass rfl rfl rfl ?_
          refine Wl.pass rfl rfl rfl ?_
          refine Wl.pass rfl rfl rfl ?_
          refine Wl.val rfl rfl rfl (Gives.pickF rfl rfl rfl rfl) ?_
          refine Wl.nil ?_
          refine Wx.thenN (hK23 _ _ ?_)
          refine Wc.condF rfl rfl ?_
          refine Wc.skip ?_
          refine Wx.blockN ?_
          refine Wx.thenN (hK20 _ _ ?_)
          refine Wc.keep [(4, _), (5, _), (9, _), (35, _), (36, _)] (.cons rfl (.cons rfl (.cons rfl (.cons rfl (.cons rfl (.nil)))))) ?_
          refine Wc.region ?_
          refine Wl.val rfl rfl rfl (Gives.add rfl rfl rfl (by first | exact IntWalk.i64_in _ (by omega) | exact u64_in _ (by omega) | exact u32_in _ (by omega) | exact u8_in _ (by omega) | exact rfl)) ?_
          refine Wl.val rfl rfl rfl (Gives.move rfl rfl) ?_
          refine Wl.nil ?_
          refine Wx.thenN ?_
          have hbe : bestN d base (i + 1) = bestN d base i := by show bestS (bestN d base i) (parseS (readS d (base + i)) i) = _; rw [hjr]; exact best_n (by rintro ⟨q1, q2⟩; first | omega | simp_all)
          refine hKL2 (i + 1, (S, m, k), s, ok) _ _ (.cons (by first | exact rfl | exact look_int rfl (by omega) | exact look_slice rfl (by omega)) (.cons (by first | exact rfl | exact look_int rfl (by omega) | exact look_slice rfl (by omega)) (.cons (by first | exact rfl | exact look_int rfl (by omega) | exact look_slice rfl (by omega)) (.cons (by first | exact rfl | exact look_int rfl (by omega) | exact look_slice rfl (by omega)) (.cons rfl (.nil)))))) ⟨by omega, by rw [hbe]; exact hs1, by rw [hbe]; exact hok, by rw [hbe]; exact hO, hX0, hE⟩ (by show 2 - (i + 1) < 2 - i; omega)
      · (first | replace h37 := of_decide_eq_false h37 | replace h37 := nd_false h37 | skip)
        refine Wc.exit ?_
        refine Wx.thenE ?_
        refine Wx.thenE ?_
        refine Wx.hit ?_
        refine Wx.thenN (hK16 _ _ ?_)
        refine Wc.seq (fun K24 hK24 => ?_)
        refine Wc.seq (fun K25 hK25 => ?_)
        refine Wc.keep [(4, _), (5, _), (9, _)] (.cons rfl (.cons rfl (.cons rfl (.nil)))) ?_
        refine Wc.region ?_
        refine Wl.val rfl rfl rfl (Gives.move rfl rfl) ?_
        refine Wl.val rfl rfl rfl (Gives.not rfl rfl) ?_
        refine Wl.nil ?_
        refine Wx.thenN (hK25 _ _ ?_)
        refine Wc.cond _ rfl (fun h57 => ?_) (fun h57 => ?_)
        · (first | replace h57 := of_decide_eq_true h57 | replace h57 := nd_true h57 | skip)
          refine Wc.seq (fun K26 hK26 => ?_)
          refine Wc.keep [] (.nil) ?_
          refine Wc.region ?_
          refine Wl.val rfl rfl rfl (Gives.assign rfl rfl) ?_
          refine Wl.val rfl rfl rfl (Gives.assign rfl rfl) ?_
          refine Wl.val rfl rfl rfl (Gives.assign rfl rfl) ?_
          refine Wl.nil ?_
          refine Wx.thenN (hK26 _ _ ?_)
          refine Wc.ret ?_
          refine Wx.thenR ?_
          refine Wx.ret [_, _, _] ⟨rfl, ⟨rfl, ⟨rfl, trivial⟩⟩⟩ ?_
          obtain rfl : i = 2 := by omega
          rw [bestN2] at hok
          exact RecR.no (by rw [hfin, ← hok, if_neg (by simpa using h57)]) (by decide) hE
        · (first | replace h57 := of_decide_eq_false h57 | replace h57 := nd_false h57 | skip)
          refine Wc.skip ?_
          refine Wx.thenN (hK24 _ _ ?_)
          refine Wc.seq (fun K27 hK27 => ?_)
          refine Wc.keep [(4, _), (5, _)] (.cons rfl (.cons rfl (.nil))) ?_
          refine Wc.region ?_
          refine Wl.val rfl rfl rfl (Gives.move rfl rfl) ?_
          refine Wl.val rfl rfl rfl (Gives.move rfl rfl) ?_
          refine Wl.val rfl rfl rfl (Gives.assign rfl rfl) ?_
          refine Wl.val rfl rfl rfl (Gives.assign rfl rfl) ?_
          refine Wl.val rfl rfl rfl (Gives.assign rfl rfl) ?_
          refine Wl.nil ?_
          refine Wx.thenN (hK27 _ _ ?_)
          refine Wc.ret ?_
          refine Wx.ret [_, _, _] ⟨rfl, ⟨rfl, ⟨rfl, trivial⟩⟩⟩ ?_
          obtain rfl : i = 2 := by omega
          rw [bestN2] at hok hs1 hO
          exact RecR.yes (by rw [hfin, ← hok, if_pos (by simpa using h57)]) hs1 hO hE
end Go.Proofs.YtbbeoojlgfegjaaDoor
/- Journals: Recover of the reference. -/
namespace Go.Proofs.YtbbeoojlgfegjaaDoor
set_option linter.all false
open Go.RowKit
theorem par_pos {l : List UInt8} {k : Int} (h : (parseS l k).ok = true) : 1 ≤ (parseS l k).s := by
  unfold parseS at *
  split at h
  · rename_i hk
    rw [if_pos hk]
    obtain ⟨s, tail, h1, h2, _⟩ := ok_inv hk
    show 1 ≤ (ra2 l).2
    omega
  · cases h
theorem based_no {b : Int} (h : ¬ (0 ≤ b ∧ b ≤ 1000)) : basedS b = false := by
  unfold basedS
  rw [Bool.and_eq_false_iff, decide_eq_false_iff_not, decide_eq_false_iff_not]
  omega
theorem based_ok {b : Int} (h : 0 ≤ b ∧ b ≤ 1000) : basedS b = true := by
  unfold basedS
  rw [decide_eq_true h.1, decide_eq_true h.2]; rfl
set_option maxRecDepth 10000 in
set_option maxHeartbeats 1000000 in
theorem recover15 {P : Nat → Prop} (w : World) (A : Option Addr) (n c : Nat) (d : Dk) (ha : BL w P A n c d.areas) (hn : n ≤ 64) (hs : ∀ l ∈ d.areas, l.length ≤ 1000000) (base : Int) :
    Calls Tryd.prog 21 #[.agg #[.slice A n c, .int .i64 d.wr, .int .i64 d.ct, .int .i64 d.tn, .bool d.off], .int .i64 base] w (RecR w (recoverJ d base) (recoverE d base)) := by
  refine calls_enter Tryd.func21 rfl Tryd.ntmps21 rfl ?_
  have hE : Ext w w := Ext.refl w
  refine Wc.seq (fun K1 hK1 => ?_)
  refine Wc.keep [(0, _), (1, _)] (.cons rfl (.cons rfl (.nil))) ?_
  refine Wc.region ?_
  refine Wl.does rfl rfl rfl (Does.boxA rfl rfl) ?_
  rintro _ w0_0 ⟨b2, rfl, hs2, hb2, hx0_0⟩
  have hg2 : w.heap.size ≤ b2 := Nat.le_trans hE.size hs2
  replace hE := hE.trans hx0_0
  refine Wl.val rfl rfl rfl (Gives.assign rfl rfl) ?_
  refine Wl.val rfl rfl rfl (Gives.assign rfl rfl) ?_
  refine Wl.val rfl rfl rfl (Gives.assign rfl rfl) ?_
  refine Wl.nil ?_
  refine Wx.thenN (hK1 _ _ ?_)
  refine Wc.seq (fun K2 hK2 => ?_)
  refine Wc.seq (fun K3 hK3 => ?_)
  refine Wc.keep [(1, _), (2, _)] (.cons rfl (.cons rfl (.nil))) ?_
  refine Wc.region ?_
  refine Wl.val rfl rfl rfl (Gives.move rfl rfl) ?_
  refine Wl.val rfl rfl rfl (Gives.lss rfl rfl rfl) ?_
  refine Wl.val rfl rfl rfl (Gives.move rfl rfl) ?_
  refine Wl.guard rfl rfl rfl (fun h18 => ?_) (fun h18 => ?_)
  · (first | replace h18 := of_decide_eq_false h18 | replace h18 := nd_false h18 | skip)
    refine Wl.val rfl rfl rfl (Gives.move rfl rfl) ?_
    refine Wl.val rfl rfl rfl (Gives.gtr rfl rfl rfl) ?_
    refine Wl.val rfl rfl rfl (Gives.pickF rfl rfl rfl rfl) ?_
    refine Wl.nil ?_
    refine Wx.thenN (hK3 _ _ ?_)
    refine Wc.cond _ rfl (fun h21 => ?_) (fun h21 => ?_)
    · (first | replace h21 := of_decide_eq_true h21 | replace h21 := nd_true h21 | skip)
      refine Wc.seq (fun K4 hK4 => ?_)
      refine Wc.keep [] (.nil) ?_
      refine Wc.region ?_
      refine Wl.val rfl rfl rfl (Gives.assign rfl rfl) ?_
      refine Wl.val rfl rfl rfl (Gives.assign rfl rfl) ?_
      refine Wl.val rfl rfl rfl (Gives.assign rfl rfl) ?_
      refine Wl.nil ?_
      refine Wx.thenN (hK4 _ _ ?_)
      refine Wc.ret ?_
      refine Wx.thenR ?_
      refine Wx.ret [_, _, _] ⟨rfl, ⟨rfl, ⟨rfl, trivial⟩⟩⟩ ?_
      exact RecR.no (rec_bad (based_no (by omega))) (by decide) hE
    · (first | replace h21 := of_decide_eq_false h21 | replace h21 := nd_false h21 | skip)
      refine Wc.skip ?_
      refine Wx.thenN (hK2 _ _ ?_)
      refine Wc.seq (fun K5 hK5 => ?_)
      refine Wc.keep [(1, _), (2, _)] (.cons rfl (.cons rfl (.nil))) ?_
      have hbs : basedS base = true := based_ok (by omega)
      refine Wc.region ?_
      refine Wl.val rfl rfl rfl (Gives.assign rfl rfl) ?_
      refine Wl.nil ?_
      refine Wx.thenN (hK5 _ _ ?_)
      refine Wc.seq (fun K6 hK6 => ?_)
      refine Wc.keep [(1, _), (2, _), (7, _)] (.cons rfl (.cons rfl (.cons rfl (.nil)))) ?_
      refine Wc.region ?_
      refine Wl.val rfl rfl rfl (Gives.assign rfl rfl) ?_
      refine Wl.val rfl rfl rfl (Gives.assign rfl rfl) ?_
      refine Wl.nil ?_
      refine Wx.thenN (hK6 _ _ ?_)
      refine Wc.seq (fun K7 hK7 => ?_)
      refine Wc.seq (fun K8 hK8 => ?_)
      refine Wc.keep [(1, _), (2, _), (7, _), (8, _), (9, _)] (.cons rfl (.cons rfl (.cons rfl (.cons rfl (.cons rfl (.nil)))))) ?_
      refine Wc.region ?_
      refine Wl.val rfl rfl rfl (Gives.assign rfl rfl) ?_
      refine Wl.nil ?_
      refine Wx.thenN (hK8 _ _ ?_)
      refine Wc.block ?_
      refine Wc.keep [(1, _), (2, _), (7, _), (8, _), (9, _), (10, _)] (.cons rfl (.cons rfl (.cons rfl (.cons rfl (.cons rfl (.cons rfl (.nil))))))) ?_
      refine Wc.loopC (ι := Nat × (Option Addr × Nat × Nat) × Int × Bool) [(1, _), (2, _)] (fun | (i, (S, m, k), s, ok) => [(10, .int .i64 (i : Int)), (7, .slice S m k), (8, .int .i64 s), (9, .bool ok)]) (fun | (i, (S, m, k), s, ok), wr => i ≤ 2 ∧ (0 < i → readE d base = 0) ∧ (1 < i → readE d (base + 1) = 0) ∧ s = (bestN d base i).s ∧ ok = (bestN d base i).ok ∧ (ok = false → s = 0) ∧ OB wr w.heap.size 5 S m k (bestN d base i).p ∧ Blk wr b2 28 #[.slice A n c, .int .i64 d.wr, .int .i64 d.ct, .int .i64 d.tn, .bool d.off] ∧ Ext w wr) (fun | (i, _, _, _) => 2 - i) ((0, (none, 0, 0), 0, false)) (.cons (by first | exact rfl | exact look_int rfl (by omega) | exact look_slice rfl (by omega)) (.cons (by first | exact rfl | exact look_int rfl (by omega) | exact look_slice rfl (by omega)) (.cons (by first | exact rfl | exact look_int rfl (by omega) | exact look_slice rfl (by omega)) (.cons (by first | exact rfl | exact look_int rfl (by omega) | exact look_slice rfl (by omega)) (.cons rfl (.cons rfl (.nil))))))) (⟨by omega, fun h => absurd h (by omega), fun h => absurd h (by omega), rfl, rfl, fun _ => rfl, OB.nil_ _ _ _, hb2, hE⟩) ?_
      intro ⟨i, ⟨S, m, k⟩, s, ok⟩ wr1 hJ KL1 hKL1
      clear hb2 hE
      obtain ⟨hi, hr0, hr1, hs1, hok, hz, hO, hb2, hE⟩ := hJ
      refine Wc.seq (fun K9 hK9 => ?_)
      refine Wc.seq (fun K10 hK10 => ?_)
      refine Wc.keep [(1, _), (2, _), (7, _), (8, _), (9, _), (10, _)] (.cons rfl (.cons rfl (.cons rfl (.cons rfl (.cons rfl (.cons rfl (.nil))))))) ?_
      refine Wc.region ?_
      refine Wl.val rfl rfl rfl (Gives.move rfl rfl) ?_
      refine Wl.val rfl rfl rfl (Gives.lss rfl rfl rfl) ?_
      refine Wl.nil ?_
      refine Wx.thenN (hK10 _ _ ?_)
      refine Wc.cond _ rfl (fun h23 => ?_) (fun h23 => ?_)
      · (first | replace h23 := of_decide_eq_true h23 | replace h23 := nd_true h23 | skip)
        refine Wc.skip ?_
        refine Wx.thenN (hK9 _ _ ?_)
        refine Wc.seq (fun K11 hK11 => ?_)
        refine Wc.block ?_
        refine Wc.seq (fun K12 hK12 => ?_)
        refine Wc.keep [(1, _), (2, _), (7, _), (8, _), (9, _), (10, _)] (.cons rfl (.cons rfl (.cons rfl (.cons rfl (.cons rfl (.cons rfl (.nil))))))) ?_
        refine Wc.region ?_
        refine Wl.val rfl rfl rfl (Gives.ldW rfl (by kernel_rfl) rfl hb2 (by kernel_rfl)) ?_
        refine Wl.val rfl rfl rfl (Gives.move rfl rfl) ?_
        refine Wl.val rfl rfl rfl (Gives.move rfl rfl) ?_
        refine Wl.val rfl rfl rfl (Gives.add rfl rfl rfl (by first | exact IntWalk.i64_in _ (by omega) | exact u64_in _ (by omega) | exact u32_in _ (by omega) | exact u8_in _ (by omega) | exact rfl)) ?_
        refine Wl.call rfl rfl rfl rfl Tryd.func38 rfl (by kernel_rfl) rfl (readR_calls _ A n c d (ha.ext hE) hn (fun l hl => by have := hs l hl; omega) (base + i)) ?_
        rintro x1 w84 ⟨S4, m4, k4, l4, e4, rfl, H4, hO4, hx4⟩
        refine ⟨_, rfl, ?_⟩
        replace hO := hO.ext hx4
        obtain ⟨rfl, he4⟩ := H4.out
        have hm4 : m4 ≤ 1000000 := by { have h1 := hO4.len; have h2 := read_le (d := d) (a := base + i) hs; omega }
        replace hb2 := hb2.ext hx4
        replace hE := hE.trans hx4
        refine Wl.val rfl rfl rfl (Gives.move rfl rfl) ?_
        refine Wl.val rfl rfl rfl (Gives.extract rfl rfl rfl) ?_
        refine Wl.val rfl rfl rfl (Gives.extract rfl rfl rfl) ?_
        refine Wl.val rfl rfl rfl (Gives.assign rfl rfl) ?_
        refine Wl.val rfl rfl rfl (Gives.assign rfl rfl) ?_
        refine Wl.nil ?_
        refine Wx.thenN (hK12 _ _ ?_)
        refine Wc.seq (fun K13 hK13 => ?_)
        refine Wc.seq (fun K14 hK14 => ?_)
        refine Wc.keep [(1, _), (2, _), (7, _), (8, _), (9, _), (10, _), (11, _), (12, _)] (.cons rfl (.cons rfl (.cons rfl (.cons rfl (.cons rfl (.cons rfl (.cons rfl (.cons rfl (.nil))))))))) ?_
        refine Wc.region ?_
        refine Wl.val rfl rfl rfl (Gives.move rfl rfl) ?_
        refine Wl.val rfl rfl rfl (Gives.neq rfl rfl rfl) ?_
        refine Wl.nil ?_
        refine Wx.thenN (hK14 _ _ ?_)
        refine Wc.cond _ rfl (fun h35 => ?_) (fun h35 => ?_)
        · (first | replace h35 := of_decide_eq_true h35 | replace h35 := nd_true h35 | skip)
          refine Wc.seq (fun K15 hK15 => ?_)
          refine Wc.keep [(12, _)] (.cons rfl (.nil)) ?_
          refine Wc.region ?_
          refine Wl.val rfl rfl rfl (Gives.move rfl rfl) ?_
          refine Wl.val rfl rfl rfl (Gives.assign rfl rfl) ?_
          refine Wl.val rfl rfl rfl (Gives.assign rfl rfl) ?_
          refine Wl.val rfl rfl rfl (Gives.assign rfl rfl) ?_
          refine Wl.nil ?_
          refine Wx.thenN (hK15 _ _ ?_)
          refine Wc.ret ?_
          refine Wx.thenR ?_
          refine Wx.blockR ?_
          refine Wx.thenR ?_
          refine Wx.thenR ?_
          refine Wx.blockR ?_
          refine Wx.thenR ?_
          refine Wx.ret [_, _, _] ⟨rfl, ⟨rfl, ⟨rfl, trivial⟩⟩⟩ ?_
          rcases (show i = 0 ∨ i = 1 by omega) with rfl | rfl
          · have hq : base + ((0 : Nat) : Int) = base := by omega
            rw [hq] at he4
            exact RecR.no ((rec_e0 hbs (by omega)).trans he4.symm) (by omega) hE
          · have hq : base + ((1 : Nat) : Int) = base + 1 := by omega
            rw [hq] at he4
            exact RecR.no ((rec_e1 hbs (hr0 (by omega)) (by omega)).trans he4.symm) (by omega) hE
        · (first | replace h35 := of_decide_eq_false h35 | replace h35 := nd_false h35 | skip)
          refine Wc.skip ?_
          refine Wx.thenN (hK13 _ _ ?_)
          refine Wc.seq (fun K16 hK16 => ?_)
          refine Wc.keep [(1, _), (2, _), (7, _), (8, _), (9, _), (10, _), (11, _)] (.cons rfl (.cons rfl (.cons rfl (.cons rfl (.cons rfl (.cons rfl (.cons rfl (.nil)))))))) ?_
          refine Wc.region ?_
          refine Wl.val rfl rfl rfl (Gives.move rfl rfl) ?_
          refine Wl.val rfl rfl rfl (Gives.move rfl rfl) ?_
          refine Wl.call rfl rfl rfl rfl Tryd.func39 rfl (by kernel_rfl) rfl (validR _ S4 m4 k4 _ (hO4.bv (P := fun _ => True) fun _ _ => trivial) hm4 i) ?_
          rintro x2 w112 ⟨S5, m5, k5, rfl, hO5, hx5⟩
          refine ⟨_, rfl, ?_⟩
          replace hO5 := hO5.mono hE.size
          replace hO := hO.ext hx5
          have hpp := par_pos (l := readS d (base + i)) (k := i)
          generalize hjr : parseS (readS d (base + i)) i = jr at *
          replace hb2 := hb2.ext hx5
          replace hE := hE.trans hx5
          refine Wl.val rfl rfl rfl (Gives.move rfl rfl) ?_
          refine Wl.val rfl rfl rfl (Gives.extract rfl rfl rfl) ?_
          refine Wl.val rfl rfl rfl (Gives.extract rfl rfl rfl) ?_
          refine Wl.val rfl rfl rfl (Gives.extract rfl rfl rfl) ?_
          refine Wl.val rfl rfl rfl (Gives.assign rfl rfl) ?_
          refine Wl.val rfl rfl rfl (Gives.assign rfl rfl) ?_
          refine Wl.val rfl rfl rfl (Gives.assign rfl rfl) ?_
          refine Wl.nil ?_
          refine Wx.thenN (hK16 _ _ ?_)
          refine Wc.seq (fun K17 hK17 => ?_)
          refine Wc.keep [(1, _), (2, _), (7, _), (8, _), (9, _), (10, _), (13, _), (14, _), (15, _)] (.cons rfl (.cons rfl (.cons rfl (.cons rfl (.cons rfl (.cons rfl (.cons rfl (.cons rfl (.cons rfl (.nil)))))))))) ?_
          have hr0' : 0 < i + 1 → readE d base = 0 := fun _ => by
            rcases Nat.eq_zero_or_pos i with h | h
            · subst h; have hq : base + ((0 : Nat) : Int) = base := by omega
              rw [hq] at he4; omega
            · exact hr0 h
          have hr1' : 1 < i + 1 → readE d (base + 1) = 0 := fun h => by
            obtain rfl : i = 1 := by omega
            have hq : base + ((1 : Nat) : Int) = base + 1 := by omega
            rw [hq] at he4; omega
          refine Wc.region ?_
          refine Wl.val rfl rfl rfl (Gives.move rfl rfl) ?_
          refine Wl.val rfl rfl rfl (Gives.move rfl rfl) ?_
          refine Wl.guard rfl rfl rfl (fun h45 => ?_) (fun h45 => ?_)
          · (first | replace h45 := of_decide_eq_true h45 | replace h45 := nd_true h45 | skip)
            refine Wl.val rfl rfl rfl (Gives.move rfl rfl) ?_
            refine Wl.val rfl rfl rfl (Gives.not rfl rfl) ?_
            refine Wl.val rfl rfl rfl (Gives.move rfl rfl) ?_
            refine Wl.guard rfl rfl rfl (fun h48 => ?_) (fun h48 => ?_)
            · (first | replace h48 := of_decide_eq_false h48 | replace h48 := nd_false h48 | skip)
              refine Wl.val rfl rfl rfl (Gives.move rfl rfl) ?_
              refine Wl.val rfl rfl rfl (Gives.move rfl rfl) ?_
              refine Wl.val rfl rfl rfl (Gives.gtr rfl rfl rfl) ?_
              refine Wl.val rfl rfl rfl (Gives.pickF rfl rfl rfl rfl) ?_
              refine Wl.val rfl rfl rfl (Gives.pickT rfl rfl rfl rfl) ?_
              refine Wl.nil ?_
              refine Wx.thenN (hK17 _ _ ?_)
              refine Wc.cond _ rfl (fun h53 => ?_) (fun h53 => ?_)
              · (first | replace h53 := of_decide_eq_true h53 | replace h53 := nd_true h53 | skip)
                refine Wc.keep [(1, _), (2, _), (10, _), (13, _), (14, _)] (.cons rfl (.cons rfl (.cons rfl (.cons rfl (.cons rfl (.nil)))))) ?_
                refine Wc.region ?_
                refine Wl.val rfl rfl rfl (Gives.move rfl rfl) ?_
                refine Wl.val rfl rfl rfl (Gives.move rfl rfl) ?_
                refine Wl.val rfl rfl rfl (Gives.assign rfl rfl) ?_
                refine Wl.val rfl rfl rfl (Gives.assign rfl rfl) ?_
                refine Wl.val rfl rfl rfl (Gives.assign rfl rfl) ?_
                refine Wl.nil ?_
                refine Wx.blockN ?_
                refine Wx.thenN (hK11 _ _ ?_)
                refine Wc.keep [(1, _), (2, _), (7, _), (8, _), (9, _), (10, _)] (.cons rfl (.cons rfl (.cons rfl (.cons rfl (.cons rfl (.cons rfl (.nil))))))) ?_
                refine Wc.region ?_
                refine Wl.val rfl rfl rfl (Gives.move rfl rfl) ?_
                refine Wl.val rfl rfl rfl (Gives.add rfl rfl rfl (by first | exact IntWalk.i64_in _ (by omega) | exact u64_in _ (by omega) | exact u32_in _ (by omega) | exact u8_in _ (by omega) | exact rfl)) ?_
                refine Wl.val rfl rfl rfl (Gives.assign rfl rfl) ?_
                refine Wl.nil ?_
                refine Wx.thenN ?_
                have hbe : bestN d base (i + 1) = jr := by show bestS (bestN d base i) (parseS (readS d (base + i)) i) = jr; rw [hjr]; exact best_y (by simp_all) (by first | omega | simp_all)
                refine hKL1 (i + 1, (S5, m5, k5), _, true) _ _ (.cons (by first | exact rfl | exact look_int rfl (by omega) | exact look_slice rfl (by omega)) (.cons (by first | exact rfl | exact look_int rfl (by omega) | exact look_slice rfl (by omega)) (.cons (by first | exact rfl | exact look_int rfl (by omega) | exact look_slice rfl (by omega)) (.cons (by first | exact rfl | exact look_int rfl (by omega) | exact look_slice rfl (by omega)) (.cons rfl (.cons rfl (.nil))))))) ⟨by omega, hr0', hr1', by rw [hbe], by rw [hbe]; simp_all, (fun h => by cases h), by rw [hbe]; exact hO5, hb2, hE⟩ (by show 2 - (i + 1) < 2 - i; omega)
              · (first | replace h53 := of_decide_eq_false h53 | replace h53 := nd_false h53 | skip)
                refine Wc.skip ?_
                refine Wx.blockN ?_
                refine Wx.thenN (hK11 _ _ ?_)
                refine Wc.keep [(1, _), (2, _), (7, _), (8, _), (9, _), (10, _)] (.cons rfl (.cons rfl (.cons rfl (.cons rfl (.cons rfl (.cons rfl (.nil))))))) ?_
                refine Wc.region ?_
                refine Wl.val rfl rfl rfl (Gives.move rfl rfl) ?_
                refine Wl.val rfl rfl rfl (Gives.add rfl rfl rfl (by first | exact IntWalk.i64_in _ (by omega) | exact u64_in _ (by omega) | exact u32_in _ (by omega) | exact u8_in _ (by omega) | exact rfl)) ?_
                refine Wl.val rfl rfl rfl (Gives.assign rfl rfl) ?_
                refine Wl.nil ?_
                refine Wx.thenN ?_
                have hbe : bestN d base (i + 1) = bestN d base i := by show bestS (bestN d base i) (parseS (readS d (base + i)) i) = _; rw [hjr]; exact best_n (by rintro ⟨q1, q2⟩; first | omega | simp_all)
                refine hKL1 (i + 1, (S, m, k), s, ok) _ _ (.cons (by first | exact rfl | exact look_int rfl (by omega) | exact look_slice rfl (by omega)) (.cons (by first | exact rfl | exact look_int rfl (by omega) | exact look_slice rfl (by omega)) (.cons (by first | exact rfl | exact look_int rfl (by omega) | exact look_slice rfl (by omega)) (.cons (by first | exact rfl | exact look_int rfl (by omega) | exact look_slice rfl (by omega)) (.cons rfl (.cons rfl (.nil))))))) ⟨by omega, hr0', hr1', by rw [hbe]; exact hs1, by rw [hbe]; exact hok, hz, by rw [hbe]; exact hO, hb2, hE⟩ (by show 2 - (i + 1) < 2 - i; omega)
            · (first | replace h48 := of_decide_eq_true h48 | replace h48 := nd_true h48 | skip)
              refine Wl.pass rfl rfl rfl ?_
              refine Wl.pass rfl rfl rfl ?_
              refine Wl.pass rfl rfl rfl ?_
              refine Wl.val rfl rfl rfl (Gives.pickT rfl rfl rfl rfl) ?_
              refine Wl.val rfl rfl rfl (Gives.pickT rfl rfl rfl rfl) ?_
              refine Wl.nil ?_
              refine Wx.thenN (hK17 _ _ ?_)
              refine Wc.condT rfl rfl ?_
              refine Wc.keep [(1, _), (2, _), (10, _), (13, _), (14, _)] (.cons rfl (.cons rfl (.cons rfl (.cons rfl (.cons rfl (.nil)))))) ?_
              refine Wc.region ?_
              refine Wl.val rfl rfl rfl (Gives.move rfl rfl) ?_
              refine Wl.val rfl rfl rfl (Gives.move rfl rfl) ?_
              refine Wl.val rfl rfl rfl (Gives.assign rfl rfl) ?_
              refine Wl.val rfl rfl rfl (Gives.assign rfl rfl) ?_
              refine Wl.val rfl rfl rfl (Gives.assign rfl rfl) ?_
              refine Wl.nil ?_
              refine Wx.blockN ?_
              refine Wx.thenN (hK11 _ _ ?_)
              refine Wc.keep [(1, _), (2, _), (7, _), (8, _), (9, _), (10, _)] (.cons rfl (.cons rfl (.cons rfl (.cons rfl (.cons rfl (.cons rfl (.nil))))))) ?_
              refine Wc.region ?_
              refine Wl.val rfl rfl rfl (Gives.move rfl rfl) ?_
              refine Wl.val rfl rfl rfl (Gives.add rfl rfl rfl (by first | exact IntWalk.i64_in _ (by omega) | exact u64_in _ (by omega) | exact u32_in _ (by omega) | exact u8_in _ (by omega) | exact rfl)) ?_
              refine Wl.val rfl rfl rfl (Gives.assign rfl rfl) ?_
              refine Wl.nil ?_
              refine Wx.thenN ?_
              have hz0 : s = 0 := hz (by simpa using h48)
              have hjk : jr.ok = true := by simp_all
              have hbe : bestN d base (i + 1) = jr := by show bestS (bestN d base i) (parseS (readS d (base + i)) i) = jr; rw [hjr]; exact best_y hjk (by have := hpp hjk; omega)
              refine hKL1 (i + 1, (S5, m5, k5), _, true) _ _ (.cons (by first | exact rfl | exact look_int rfl (by omega) | exact look_slice rfl (by omega)) (.cons (by first | exact rfl | exact look_int rfl (by omega) | exact look_slice rfl (by omega)) (.cons (by first | exact rfl | exact look_int rfl (by omega) | exact look_slice rfl (by omega)) (.cons (by first | exact rfl | exact look_int rfl (by omega) | exact look_slice rfl (by omega)) (.cons rfl (.cons rfl (.nil))))))) ⟨by omega, hr0', hr1', by rw [hbe], by rw [hbe]; exact hjk.symm, (fun h => by cases h), by rw [hbe]; exact hO5, hb2, hE⟩ (by show 2 - (i + 1) < 2 - i; omega)
          · (first | replace h45 := of_decide_eq_false h45 | replace h45 := nd_false h45 | skip)
            refine Wl.pass rfl rfl rfl ?_
            refine Wl.pass rfl rfl rfl ?_
            refine Wl.pass rfl rfl rfl ?_
            refine Wl.pass rfl rfl rfl ?_
            refine Wl.pass rfl rfl rfl ?_
            refine Wl.pass rfl rfl rfl ?_
            refine Wl.pass rfl rfl rfl ?_
            refine Wl.val rfl rfl rfl (Gives.pickF rfl rfl rfl rfl) ?_
            refine Wl.nil ?_
            refine Wx.thenN (hK17 _ _ ?_)
            refine Wc.condF rfl rfl ?_
            refine Wc.skip ?_
            refine Wx.blockN ?_
            refine Wx.thenN (hK11 _ _ ?_)
            refine Wc.keep [(1, _), (2, _), (7, _), (8, _), (9, _), (10, _)] (.cons rfl (.cons rfl (.cons rfl (.cons rfl (.cons rfl (.cons rfl (.nil))))))) ?_
            refine Wc.region ?_
            refine Wl.val rfl rfl rfl (Gives.move rfl rfl) ?_
            refine Wl.val rfl rfl rfl (Gives.add rfl rfl rfl (by first | exact IntWalk.i64_in _ (by omega) | exact u64_in _ (by omega) | exact u32_in _ (by omega) | exact u8_in _ (by omega) | exact rfl)) ?_
            refine Wl.val rfl rfl rfl (Gives.assign rfl rfl) ?_
            refine Wl.nil ?_
            refine Wx.thenN ?_
            have hbe : bestN d base (i + 1) = bestN d base i := by show bestS (bestN d base i) (parseS (readS d (base + i)) i) = _; rw [hjr]; exact best_n (by rintro ⟨q1, q2⟩; first | omega | simp_all)
            refine hKL1 (i + 1, (S, m, k), s, ok) _ _ (.cons (by first | exact rfl | exact look_int rfl (by omega) | exact look_slice rfl (by omega)) (.cons (by first | exact rfl | exact look_int rfl (by omega) | exact look_slice rfl (by omega)) (.cons (by first | exact rfl | exact look_int rfl (by omega) | exact look_slice rfl (by omega)) (.cons (by first | exact rfl | exact look_int rfl (by omega) | exact look_slice rfl (by omega)) (.cons rfl (.cons rfl (.nil))))))) ⟨by omega, hr0', hr1', by rw [hbe]; exact hs1, by rw [hbe]; exact hok, hz, by rw [hbe]; exact hO, hb2, hE⟩ (by show 2 - (i + 1) < 2 - i; omega)
      · (first | replace h23 := of_decide_eq_false h23 | replace h23 := nd_false h23 | skip)
        refine Wc.exit ?_
        refine Wx.thenE ?_
        refine Wx.thenE ?_
        refine Wx.hit ?_
        refine Wx.thenN (hK7 _ _ ?_)
        refine Wc.seq (fun K18 hK18 => ?_)
        refine Wc.seq (fun K19 hK19 => ?_)
        refine Wc.keep [(7, _), (8, _), (9, _)] (.cons rfl (.cons rfl (.cons rfl (.nil)))) ?_
        obtain rfl : i = 2 := by omega
        have hfin := rec_fin hbs (hr0 (by omega)) (hr1 (by omega))
        rw [bestN2] at hok hs1 hO
        refine Wc.region ?_
        refine Wl.val rfl rfl rfl (Gives.move rfl rfl) ?_
        refine Wl.val rfl rfl rfl (Gives.not rfl rfl) ?_
        refine Wl.nil ?_
        refine Wx.thenN (hK19 _ _ ?_)
        refine Wc.cond _ rfl (fun h57 => ?_) (fun h57 => ?_)
        · (first | replace h57 := of_decide_eq_true h57 | replace h57 := nd_true h57 | skip)
          refine Wc.seq (fun K20 hK20 => ?_)
          refine Wc.keep [] (.nil) ?_
          refine Wc.region ?_
          refine Wl.val rfl rfl rfl (Gives.assign rfl rfl) ?_
          refine Wl.val rfl rfl rfl (Gives.assign rfl rfl) ?_
          refine Wl.val rfl rfl rfl (Gives.assign rfl rfl) ?_
          refine Wl.nil ?_
          refine Wx.thenN (hK20 _ _ ?_)
          refine Wc.ret ?_
          refine Wx.thenR ?_
          refine Wx.ret [_, _, _] ⟨rfl, ⟨rfl, ⟨rfl, trivial⟩⟩⟩ ?_
          exact RecR.no (by rw [hfin, ← hok, if_neg (by simpa using h57)]) (by decide) hE
        · (first | replace h57 := of_decide_eq_false h57 | replace h57 := nd_false h57 | skip)
          refine Wc.skip ?_
          refine Wx.thenN (hK18 _ _ ?_)
          refine Wc.seq (fun K21 hK21 => ?_)
          refine Wc.keep [(7, _), (8, _)] (.cons rfl (.cons rfl (.nil))) ?_
          refine Wc.region ?_
          refine Wl.val rfl rfl rfl (Gives.move rfl rfl) ?_
          refine Wl.val rfl rfl rfl (Gives.move rfl rfl) ?_
          refine Wl.val rfl rfl rfl (Gives.assign rfl rfl) ?_
          refine Wl.val rfl rfl rfl (Gives.assign rfl rfl) ?_
          refine Wl.val rfl rfl rfl (Gives.assign rfl rfl) ?_
          refine Wl.nil ?_
          refine Wx.thenN (hK21 _ _ ?_)
          refine Wc.ret ?_
          refine Wx.ret [_, _, _] ⟨rfl, ⟨rfl, ⟨rfl, trivial⟩⟩⟩ ?_
          exact RecR.yes (by rw [hfin, ← hok, if_pos (by simpa using h57)]) hs1 hO hE
  · (first | replace h18 := of_decide_eq_true h18 | replace h18 := nd_true h18 | skip)
    refine Wl.pass rfl rfl rfl ?_
    refine Wl.pass rfl rfl rfl ?_
    refine Wl.val rfl rfl rfl (Gives.pickT rfl rfl rfl rfl) ?_
    refine Wl.nil ?_
    refine Wx.thenN (hK3 _ _ ?_)
    refine Wc.condT rfl rfl ?_
    refine Wc.seq (fun K22 hK22 => ?_)
    refine Wc.keep [] (.nil) ?_
    refine Wc.region ?_
    refine Wl.val rfl rfl rfl (Gives.assign rfl rfl) ?_
    refine Wl.val rfl rfl rfl (Gives.assign rfl rfl) ?_
    refine Wl.val rfl rfl rfl (Gives.assign rfl rfl) ?_
    refine Wl.nil ?_
    refine Wx.thenN (hK22 _ _ ?_)
    refine Wc.ret ?_
    refine Wx.thenR ?_
    refine Wx.ret [_, _, _] ⟨rfl, ⟨rfl, ⟨rfl, trivial⟩⟩⟩ ?_
    exact RecR.no (rec_bad (based_no (by omega))) (by decide) hE
end Go.Proofs.YtbbeoojlgfegjaaDoor
/- Journals: the laws' helpers. -/
namespace Go.Proofs.YtbbeoojlgfegjaaDoor
set_option linter.all false
open Go.RowKit
theorem newJP (w : World) (k : Int) (n : Nat) (hn : min k.toNat 64 = n) : Calls Tryd.prog 23 #[.int .i64 k] w (DOne (fun _ => True) w n (newS k)) := by subst hn; exact newP_calls _ w (Anew.top _) k
theorem newJR (w : World) (k : Int) (n : Nat) (hn : min k.toNat 64 = n) : Calls Tryd.prog 30 #[.int .i64 k] w (DOne (fun _ => True) w n (newS k)) := by subst hn; exact newR_calls _ w (Anew.top _) k
set_option maxRecDepth 10000 in
set_option maxHeartbeats 1000000 in
theorem awakeJ (w : World) (hT : Tab w) : Calls Tryd.prog 9 #[] w fun e w' => e = .returned (.bool true) ∧ Ext w w' := by
  obtain ⟨aj1, aj2, aj3, aj4⟩ := awake_jrn
  generalize hd0 : newS 2 = dn at *
  have hdw : 0 ≤ dn.wr ∧ dn.wr < 4611686018427387904 ∧ Lens dn 1000 := by subst hd0; exact ⟨by decide, by decide, Lens.new 2 1000⟩
  refine calls_enter Tryd.func9 rfl Tryd.ntmps9 rfl ?_
  have hE : Ext w w := Ext.refl w
  refine Wc.seq (fun K1 hK1 => ?_)
  refine Wc.keep [] (.nil) ?_
  refine Wc.region ?_
  refine Wl.val rfl rfl rfl (Gives.assign rfl rfl) ?_
  refine Wl.nil ?_
  refine Wx.thenN (hK1 _ _ ?_)
  refine Wc.seq (fun K2 hK2 => ?_)
  refine Wc.keep [] (.nil) ?_
  refine Wc.region ?_
  refine Wl.call rfl rfl rfl rfl Tryd.func23 rfl (by kernel_rfl) rfl (newJP _ 2 2 rfl) ?_
  rintro x1 w11 ⟨A1, c1, d1, rfl, H1, hb1, hx1⟩
  refine ⟨_, rfl, ?_⟩
  obtain rfl : d1 = dn := H1.out.trans hd0
  replace hE := hE.trans hx1
  refine Wl.does rfl rfl rfl (Does.lit rfl Tryd.underlying23 infoB2 rfl rfl rfl rfl rfl) ?_
  rintro _ w12 ⟨g12, rfl, hs12, hk12, hx12⟩
  have hB5 : BV w12 (fun _ => True) (some ⟨g12, 0, none⟩) 1 1 [5] := (mb1 5 hk12 rfl).bv trivial rfl (Nat.le_refl _) (by omega)
  replace hb1 := hb1.ext hx12
  replace hE := hE.trans hx12
  refine Wl.call rfl rfl rfl rfl Tryd.func14 rfl (by kernel_rfl) rfl (commitP (fun _ => True) _ (hT.ext hE) (Anew.top _) A1 2 c1 d1 hb1 (by omega) _ 1 1 [5] hB5 (by omega) 0 1 hdw.1 hdw.2.1 (fun l hl => by have := hdw.2.2 l hl; omega)) ?_
  rintro x2 w13 ⟨A2, c2, d2, e2, rfl, H2, hb2, hx13⟩
  refine ⟨_, rfl, ?_⟩
  obtain ⟨rfl, rfl⟩ := H2.out
  replace hE := hE.trans hx13
  refine Wl.val rfl rfl rfl (Gives.move rfl rfl) ?_
  refine Wl.val rfl rfl rfl (Gives.extract rfl rfl rfl) ?_
  refine Wl.val rfl rfl rfl (Gives.extract rfl rfl rfl) ?_
  refine Wl.does rfl rfl rfl (Does.alB (.agg #[(.slice none 0 0), (.int .i64 0), (.int .i64 0), (.int .i64 0), (.bool false)]) rfl (by kernel_rfl) rfl) ?_
  rintro _ w1_6 ⟨b1, rfl, hs1, hb1, hx1_6⟩
  have hg1 : w.heap.size ≤ b1 := Nat.le_trans hE.size hs1
  replace hE := hE.trans hx1_6
  refine Wl.acts rfl rfl (Does.stL 5 rfl rfl rfl hb1 (by kernel_rfl) rfl rfl rfl) ?_
  rintro _ w1_7 ⟨hbn, hF1_7⟩
  replace hE := Ext.over hE hF1_7 hg1
  replace hb1 := hbn
  clear hbn
  have hb3 := ((hb2.bd.mono (P' := fun k => k ≠ b1) (fun k hk => by omega)).ext hx1_6).fr hF1_7
  refine Wl.val rfl rfl rfl (Gives.assign rfl rfl) ?_
  refine Wl.nil ?_
  refine Wx.thenN (hK2 _ _ ?_)
  refine Wc.seq (fun K3 hK3 => ?_)
  refine Wc.keep [(1, _), (2, _)] (.cons rfl (.cons rfl (.nil))) ?_
  refine Wc.region ?_
  refine Wl.val rfl rfl rfl (Gives.ldW rfl (by kernel_rfl) rfl hb1 (by kernel_rfl)) ?_
  refine Wl.call rfl rfl rfl rfl Tryd.func20 rfl (by kernel_rfl) rfl (recoverP _ (hT.ext hE) A2 2 c2 _ hb3 (by omega) (fun l hl => by have := aj4 l hl; omega) 0) ?_
  rintro x3 w21 ⟨S, m, k, rfl, hO, hx21⟩
  refine ⟨_, rfl, ?_⟩
  rw [aj3] at hO
  have hm1 : m = 1 := hO.len.symm
  obtain ⟨gS, rfl, hgS⟩ := hO.head (by omega)
  have hcell := (hO.bv (P := fun _ => True) fun _ _ => trivial).cellAt (i := 0) (x := 5) rfl
  replace hb1 := hb1.ext hx21
  replace hE := hE.trans hx21
  refine Wl.val rfl rfl rfl (Gives.move rfl rfl) ?_
  refine Wl.val rfl rfl rfl (Gives.extract rfl rfl rfl) ?_
  refine Wl.val rfl rfl rfl (Gives.extract rfl rfl rfl) ?_
  refine Wl.val rfl rfl rfl (Gives.extract rfl rfl rfl) ?_
  refine Wl.val rfl rfl rfl (Gives.assign rfl rfl) ?_
  refine Wl.val rfl rfl rfl (Gives.assign rfl rfl) ?_
  refine Wl.val rfl rfl rfl (Gives.assign rfl rfl) ?_
  refine Wl.nil ?_
  refine Wx.thenN (hK3 _ _ ?_)
  refine Wc.seq (fun K4 hK4 => ?_)
  refine Wc.keep [(2, _), (3, _), (4, _), (5, _)] (.cons rfl (.cons rfl (.cons rfl (.cons rfl (.nil))))) ?_
  refine Wc.region ?_
  refine Wl.val rfl rfl rfl (Gives.move rfl rfl) ?_
  refine Wl.val rfl rfl rfl (Gives.eql rfl rfl rfl) ?_
  refine Wl.val rfl rfl rfl (Gives.move rfl rfl) ?_
  refine Wl.guardT rfl rfl rfl (decide_eq_true aj1) ?_
  refine Wl.val rfl rfl rfl (Gives.move rfl rfl) ?_
  refine Wl.val rfl rfl rfl (Gives.eql rfl rfl rfl) ?_
  refine Wl.val rfl rfl rfl (Gives.pickT rfl rfl rfl rfl) ?_
  refine Wl.val rfl rfl rfl (Gives.move rfl rfl) ?_
  refine Wl.guardT rfl rfl rfl (decide_eq_true aj2) ?_
  refine Wl.val rfl rfl rfl (Gives.move rfl rfl) ?_
  refine Wl.val rfl rfl rfl (Gives.eql rfl rfl rfl) ?_
  refine Wl.val rfl rfl rfl (Gives.pickT rfl rfl rfl rfl) ?_
  refine Wl.val rfl rfl rfl (Gives.move rfl rfl) ?_
  refine Wl.guardT rfl rfl rfl (decide_eq_true (by rw [aj3])) ?_
  refine Wl.val rfl rfl rfl (Gives.move rfl rfl) ?_
  refine Wl.val rfl rfl rfl (Gives.lenS rfl Tryd.underlying23 rfl) ?_
  refine Wl.val rfl rfl rfl (Gives.eql rfl rfl rfl) ?_
  refine Wl.val rfl rfl rfl (Gives.pickT rfl rfl rfl rfl) ?_
  refine Wl.val rfl rfl rfl (Gives.move rfl rfl) ?_
  refine Wl.guardT rfl rfl rfl (decide_eq_true (by omega)) ?_
  refine Wl.val rfl rfl rfl (Gives.move rfl rfl) ?_
  refine Wl.val rfl rfl rfl (Gives.ixS (i := 0) rfl Tryd.underlying23 (by kernel_rfl) rfl rfl rfl (by omega)) ?_
  refine Wl.val rfl rfl rfl (Gives.ldC rfl (by kernel_rfl) rfl hcell) ?_
  refine Wl.val rfl rfl rfl (Gives.eql rfl rfl rfl) ?_
  refine Wl.val rfl rfl rfl (Gives.pickT rfl rfl rfl rfl) ?_
  refine Wl.val rfl rfl rfl (Gives.assign rfl rfl) ?_
  refine Wl.nil ?_
  refine Wx.thenN (hK4 _ _ ?_)
  refine Wc.ret ?_
  refine Wx.ret [_] ⟨rfl, trivial⟩ ?_
  exact ⟨rfl, hE⟩
/-- few and short payloads -/
theorem fewJ {P : Nat → Prop} (w : World) (A : Option Addr) (n c : Nat) (l : List (List UInt8)) (ha : BL w P A n c l) :
    Calls Tryd.prog 10 #[.slice A n c] w fun e w' => ∃ b, e = .returned (.bool b) ∧ (b = true → n < 10 ∧ ∀ x ∈ l, x.length ≤ 60) ∧ Ext w w' := by
  have hl := ha.len
  have hle := ha.le
  refine calls_enter Tryd.func10 rfl Tryd.ntmps10 rfl ?_
  have hE : Ext w w := Ext.refl w
  refine Wc.seq (fun K1 hK1 => ?_)
  refine Wc.keep [(0, _)] (.cons rfl (.nil)) ?_
  refine Wc.region ?_
  refine Wl.val rfl rfl rfl (Gives.assign rfl rfl) ?_
  refine Wl.nil ?_
  refine Wx.thenN (hK1 _ _ ?_)
  refine Wc.seq (fun K2 hK2 => ?_)
  refine Wc.seq (fun K3 hK3 => ?_)
  refine Wc.keep [(0, _)] (.cons rfl (.nil)) ?_
  refine Wc.region ?_
  refine Wl.val rfl rfl rfl (Gives.assign rfl rfl) ?_
  refine Wl.nil ?_
  refine Wx.thenN (hK3 _ _ ?_)
  refine Wc.block ?_
  refine Wc.keep [(0, _), (3, _)] (.cons rfl (.cons rfl (.nil))) ?_
  refine Wc.loopC (ι := Nat) [(0, _)] (fun i => [(3, .int .i64 (i : Int))]) (fun i wr => i ≤ n ∧ i ≤ 10 ∧ (∀ j < i, ∀ x, l[j]? = some x → x.length ≤ 60) ∧ Ext w wr) (fun i => n - i) (0) (.cons (by first | exact rfl | exact look_int rfl (by omega) | exact look_slice rfl (by omega)) (.cons rfl (.nil))) (⟨by omega, by omega, fun j hj => absurd hj (by omega), hE⟩) ?_
  intro i wr1 hJ KL1 hKL1
  clear hE
  obtain ⟨hi, hi2, hall, hE⟩ := hJ
  refine Wc.seq (fun K4 hK4 => ?_)
  refine Wc.seq (fun K5 hK5 => ?_)
  refine Wc.keep [(0, _), (3, _)] (.cons rfl (.cons rfl (.nil))) ?_
  refine Wc.region ?_
  refine Wl.val rfl rfl rfl (Gives.move rfl rfl) ?_
  refine Wl.val rfl rfl rfl (Gives.move rfl rfl) ?_
  refine Wl.val rfl rfl rfl (Gives.lenS rfl Tryd.underlying22 rfl) ?_
  refine Wl.val rfl rfl rfl (Gives.lss rfl rfl rfl) ?_
  refine Wl.val rfl rfl rfl (Gives.move rfl rfl) ?_
  refine Wl.guard rfl rfl rfl (fun h8 => ?_) (fun h8 => ?_)
  · (first | replace h8 := of_decide_eq_true h8 | replace h8 := nd_true h8 | skip)
    refine Wl.val rfl rfl rfl (Gives.move rfl rfl) ?_
    refine Wl.val rfl rfl rfl (Gives.lss rfl rfl rfl) ?_
    refine Wl.val rfl rfl rfl (Gives.pickT rfl rfl rfl rfl) ?_
    refine Wl.nil ?_
    refine Wx.thenN (hK5 _ _ ?_)
    refine Wc.cond _ rfl (fun h11 => ?_) (fun h11 => ?_)
    · (first | replace h11 := of_decide_eq_true h11 | replace h11 := nd_true h11 | skip)
      refine Wc.skip ?_
      refine Wx.thenN (hK4 _ _ ?_)
      refine Wc.seq (fun K6 hK6 => ?_)
      refine Wc.block ?_
      refine Wc.seq (fun K7 hK7 => ?_)
      refine Wc.keep [(0, _), (3, _)] (.cons rfl (.cons rfl (.nil))) ?_
      obtain ⟨xb, xo, rfl, hbw, f, fA, fn, fc, hz, hcell, hF⟩ := (ha.ext hE).at'' (show i < n by omega)
      have hfl := hF.len
      refine Wc.region ?_
      refine Wl.val rfl rfl rfl (Gives.move rfl rfl) ?_
      refine Wl.val rfl rfl rfl (Gives.move rfl rfl) ?_
      refine Wl.val rfl rfl rfl (Gives.ixS (i := _) rfl Tryd.underlying22 (by kernel_rfl) rfl rfl rfl (by omega)) ?_
      refine Wl.val rfl rfl rfl (Gives.ldC rfl (by kernel_rfl) rfl hcell) ?_
      refine Wl.val rfl rfl rfl (Gives.lenS rfl Tryd.underlying23 rfl) ?_
      refine Wl.val rfl rfl rfl (Gives.gtr rfl rfl rfl) ?_
      refine Wl.nil ?_
      refine Wx.thenN (hK7 _ _ ?_)
      refine Wc.cond _ rfl (fun h19 => ?_) (fun h19 => ?_)
      · (first | replace h19 := of_decide_eq_true h19 | replace h19 := nd_true h19 | skip)
        refine Wc.seq (fun K8 hK8 => ?_)
        refine Wc.keep [] (.nil) ?_
        refine Wc.region ?_
        refine Wl.val rfl rfl rfl (Gives.assign rfl rfl) ?_
        refine Wl.nil ?_
        refine Wx.thenN (hK8 _ _ ?_)
        refine Wc.ret ?_
        refine Wx.blockR ?_
        refine Wx.thenR ?_
        refine Wx.thenR ?_
        refine Wx.blockR ?_
        refine Wx.thenR ?_
        refine Wx.ret [_] ⟨rfl, trivial⟩ ?_
        exact ⟨false, rfl, (fun h => by cases h), hE⟩
      · (first | replace h19 := of_decide_eq_false h19 | replace h19 := nd_false h19 | skip)
        refine Wc.skip ?_
        refine Wx.blockN ?_
        refine Wx.thenN (hK6 _ _ ?_)
        refine Wc.keep [(0, _), (3, _)] (.cons rfl (.cons rfl (.nil))) ?_
        refine Wc.region ?_
        refine Wl.val rfl rfl rfl (Gives.move rfl rfl) ?_
        refine Wl.val rfl rfl rfl (Gives.add rfl rfl rfl (by first | exact IntWalk.i64_in _ (by omega) | exact u64_in _ (by omega) | exact u32_in _ (by omega) | exact u8_in _ (by omega) | exact rfl)) ?_
        refine Wl.val rfl rfl rfl (Gives.assign rfl rfl) ?_
        refine Wl.nil ?_
        refine Wx.thenN ?_
        refine hKL1 (i + 1) _ _ (.cons (by first | exact rfl | exact look_int rfl (by omega) | exact look_slice rfl (by omega)) (.cons rfl (.nil))) ⟨by omega, by omega, fun j hj x hx => by
          rcases Nat.lt_or_ge j i with h | h
          · exact hall j h x hx
          · obtain rfl : j = i := by omega
            rw [hz] at hx; cases hx; omega, hE⟩ (by show n - (i + 1) < n - i; omega)
    · (first | replace h11 := of_decide_eq_false h11 | replace h11 := nd_false h11 | skip)
      refine Wc.exit ?_
      refine Wx.thenE ?_
      refine Wx.thenE ?_
      refine Wx.hit ?_
      refine Wx.thenN (hK2 _ _ ?_)
      refine Wc.seq (fun K9 hK9 => ?_)
      refine Wc.keep [(0, _)] (.cons rfl (.nil)) ?_
      refine Wc.region ?_
      refine Wl.val rfl rfl rfl (Gives.move rfl rfl) ?_
      refine Wl.val rfl rfl rfl (Gives.lenS rfl Tryd.underlying22 rfl) ?_
      refine Wl.val rfl rfl rfl (Gives.lss rfl rfl rfl) ?_
      refine Wl.val rfl rfl rfl (Gives.assign rfl rfl) ?_
      refine Wl.nil ?_
      refine Wx.thenN (hK9 _ _ ?_)
      refine Wc.ret ?_
      refine Wx.ret [_] ⟨rfl, trivial⟩ ?_
      exact ⟨_, rfl, (fun h => by
        have h10 : (n : Int) < 10 := by simpa using h
        refine ⟨by omega, fun x hx => ?_⟩
        obtain ⟨j, hj⟩ := List.getElem?_of_mem hx
        have hjl := (List.getElem?_eq_some_iff.1 hj).1
        exact hall j (by omega) x hj), hE⟩
  · (first | replace h8 := of_decide_eq_false h8 | replace h8 := nd_false h8 | skip)
    refine Wl.pass rfl rfl rfl ?_
    refine Wl.pass rfl rfl rfl ?_
    refine Wl.val rfl rfl rfl (Gives.pickF rfl rfl rfl rfl) ?_
    refine Wl.nil ?_
    refine Wx.thenN (hK5 _ _ ?_)
    refine Wc.condF rfl rfl ?_
    refine Wc.exit ?_
    refine Wx.thenE ?_
    refine Wx.thenE ?_
    refine Wx.hit ?_
    refine Wx.thenN (hK2 _ _ ?_)
    refine Wc.seq (fun K10 hK10 => ?_)
    refine Wc.keep [(0, _)] (.cons rfl (.nil)) ?_
    refine Wc.region ?_
    refine Wl.val rfl rfl rfl (Gives.move rfl rfl) ?_
    refine Wl.val rfl rfl rfl (Gives.lenS rfl Tryd.underlying22 rfl) ?_
    refine Wl.val rfl rfl rfl (Gives.lss rfl rfl rfl) ?_
    refine Wl.val rfl rfl rfl (Gives.assign rfl rfl) ?_
    refine Wl.nil ?_
    refine Wx.thenN (hK10 _ _ ?_)
    refine Wc.ret ?_
    refine Wx.ret [_] ⟨rfl, trivial⟩ ?_
    exact ⟨_, rfl, (fun h => by
      have h10 : (n : Int) < 10 := by simpa using h
      refine ⟨by omega, fun x hx => ?_⟩
      obtain ⟨j, hj⟩ := List.getElem?_of_mem hx
      have hjl := (List.getElem?_eq_some_iff.1 hj).1
      exact hall j (by omega) x hj), hE⟩
end Go.Proofs.YtbbeoojlgfegjaaDoor
/- Journals: a chain of commits. -/
namespace Go.Proofs.YtbbeoojlgfegjaaDoor
set_option linter.all false
open Go.RowKit
theorem cell_goJ {w0 wc wS : World} {b o : Nat} {v : Value} (h : w0.cell? ⟨b, o, none⟩ = some v) (hb : b < w0.heap.size) (hX : Ext w0 wc) (hS : Fr (Old w0.heap.size []) wc wS) : wS.cell? ⟨b, o, none⟩ = some v :=
  (World.cell?_of_block (w := wc) (a := ⟨b, o, none⟩) (hS.block b (Nat.lt_of_lt_of_le hb hX.size) ⟨hb, trivial⟩)).trans ((hX.cells.1 b o hb).trans h)
theorem newRP (P : Nat → Prop) (w : World) (hP : Anew w P) (k : Int) (n : Nat) (hn : min k.toNat 64 = n) : Calls Tryd.prog 30 #[.int .i64 k] w (DOne P w n (newS k)) := by subst hn; exact newR_calls P w hP k
/-- the disk of a chain, and how many commits it saw -/
def ChR (w : World) (d : Dk) (n : Nat) (e : Ending) (w' : World) : Prop := ∃ A' c' d', e = .returned (.tuple #[.agg #[.slice A' 6 c', .int .i64 (d').wr, .int .i64 (d').ct, .int .i64 (d').tn, .bool (d').off], .int .i64 (n : Int)]) ∧ Hid (d' = d) ∧ BL w' (fun _ => True) A' 6 c' d'.areas ∧ Ext w w'
set_option maxRecDepth 10000 in
set_option maxHeartbeats 1000000 in
theorem chainJ {P : Nat → Prop} (w : World) (A : Option Addr) (n c : Nat) (l : List (List UInt8)) (ha : BL w P A n c l) (hn : n ≤ 10) (hx : ∀ x ∈ l, x.length ≤ 1000) (k : Nat) (hk : k ≤ 4) :
    Calls Tryd.prog 12 #[.slice A n c, .int .i64 (k : Int)] w (ChR w (chainS k l n) n) := by
  have hl := ha.len
  have hle := ha.le
  have hat := ha.bd
  refine calls_enter Tryd.func12 rfl Tryd.ntmps12 rfl ?_
  have hE : Ext w w := Ext.refl w
  refine Wc.seq (fun K1 hK1 => ?_)
  refine Wc.keep [(0, _), (1, _)] (.cons rfl (.cons rfl (.nil))) ?_
  refine Wc.region ?_
  refine Wl.does rfl rfl rfl (Does.alB (.agg #[(.slice none 0 0), (.int .i64 0), (.int .i64 0), (.int .i64 0), (.bool false)]) rfl (by kernel_rfl) rfl) ?_
  rintro _ w0_0 ⟨b4, rfl, hs4, hb4, hx0_0⟩
  have hg4 : w.heap.size ≤ b4 := Nat.le_trans hE.size hs4
  replace hE := hE.trans hx0_0
  refine Wl.val rfl rfl rfl (Gives.assign rfl rfl) ?_
  refine Wl.nil ?_
  refine Wx.thenN (hK1 _ _ ?_)
  refine Wc.seq (fun K2 hK2 => ?_)
  refine Wc.keep [(0, _), (1, _), (4, _)] (.cons rfl (.cons rfl (.cons rfl (.nil)))) ?_
  refine Wc.region ?_
  refine Wl.call rfl rfl rfl rfl Tryd.func30 rfl (by kernel_rfl) rfl (newRP (fun q => q ≠ b4) _ (fun q hq => by have := hb4.lt; omega) 6 6 rfl) ?_
  rintro x1 w10 ⟨A1, c1, d1, rfl, H1, hb1, hx1⟩
  refine ⟨_, rfl, ?_⟩
  obtain rfl : d1 = chainS k l 0 := H1.out
  have hz4 := hb4.lt
  have hz5 := hx1.size
  replace hb4 := hb4.ext hx1
  replace hE := hE.trans hx1
  refine Wl.does rfl rfl rfl (Does.alB (.agg #[(.slice none 0 0), (.int .i64 0), (.int .i64 0), (.int .i64 0), (.bool false)]) rfl (by kernel_rfl) rfl) ?_
  rintro _ w1_1 ⟨b6, rfl, hs6, hb6, hx1_1⟩
  have hn4_6 : b4 ≠ b6 := hb4.ne hs6
  have hg6 : w.heap.size ≤ b6 := Nat.le_trans hE.size hs6
  replace hb4 := hb4.ext hx1_1
  replace hE := hE.trans hx1_1
  refine Wl.acts rfl rfl (Does.stL 5 rfl rfl rfl hb6 (by kernel_rfl) rfl rfl rfl) ?_
  rintro _ w1_2 ⟨hbn, hF1_2⟩
  replace hb4 := hb4.fr hF1_2 (by first | assumption | exact Ne.symm (by assumption))
  replace hE := Ext.over hE hF1_2 hg6
  replace hb6 := hbn
  clear hbn
  have hb1' : BL w1_2 (fun q => q ≠ b6 ∧ q ≠ b4) A1 6 c1 (chainS k l 0).areas := ((hb1.bdP.mono (fun q hq => ⟨by omega, hq.1⟩)).ext hx1_1).fr (hF1_2.mono fun q hq => hq.1)
  refine Wl.nil ?_
  refine Wx.thenN (hK2 _ _ ?_)
  refine Wc.seq (fun K3 hK3 => ?_)
  refine Wc.keep [(0, _), (1, _), (4, _), (6, _)] (.cons rfl (.cons rfl (.cons rfl (.cons rfl (.nil))))) ?_
  refine Wc.region ?_
  refine Wl.val rfl rfl rfl (Gives.assign rfl rfl) ?_
  refine Wl.nil ?_
  refine Wx.thenN (hK3 _ _ ?_)
  refine Wc.seq (fun K4 hK4 => ?_)
  refine Wc.seq (fun K5 hK5 => ?_)
  refine Wc.keep [(0, _), (1, _), (4, _), (6, _), (7, _)] (.cons rfl (.cons rfl (.cons rfl (.cons rfl (.cons rfl (.nil)))))) ?_
  refine Wc.region ?_
  refine Wl.val rfl rfl rfl (Gives.assign rfl rfl) ?_
  refine Wl.nil ?_
  refine Wx.thenN (hK5 _ _ ?_)
  refine Wc.block ?_
  refine Wc.keep [(0, _), (1, _), (4, _), (6, _), (7, _), (8, _)] (.cons rfl (.cons rfl (.cons rfl (.cons rfl (.cons rfl (.cons rfl (.nil))))))) ?_
  refine Wc.loopC (ι := Nat × Option Addr × Nat) [(0, _), (1, _), (4, _), (6, _)] (fun | (i, _, _) => [(8, .int .i64 (i : Int)), (7, .int .i64 (i : Int))]) (fun | (i, A2, c2), wr => i ≤ n ∧ BL wr (fun q => q ≠ b6 ∧ q ≠ b4) A2 6 c2 (chainS k l i).areas ∧ Blk wr b4 28 #[.slice none 0 0, .int .i64 0, .int .i64 0, .int .i64 0, .bool false] ∧ Blk wr b6 28 #[.slice A2 6 c2, .int .i64 (chainS k l i).wr, .int .i64 (chainS k l i).ct, .int .i64 (chainS k l i).tn, .bool (chainS k l i).off] ∧ Ext w wr) (fun | (i, _, _) => n - i) ((0, A1, c1)) (.cons (by first | exact rfl | exact look_int rfl (by omega) | exact look_slice rfl (by omega)) (.cons (by first | exact rfl | exact look_int rfl (by omega) | exact look_slice rfl (by omega)) (.cons rfl (.cons rfl (.cons rfl (.cons rfl (.nil))))))) (⟨by omega, hb1', hb4, hb6, hE⟩) ?_
  intro ⟨i, A2, c2⟩ wr1 hJ KL1 hKL1
  clear hb4 hb6 hE
  obtain ⟨hi, hbl, hb4, hb6, hE⟩ := hJ
  obtain ⟨hJI, hwr⟩ := chain_inv k hk l (fun x hx' => by have := hx x hx'; omega) i (by omega) (by omega)
  have hlens := chain_lens k hk l 2000 (by omega) (fun x hx' => by have := hx x hx'; omega) (fun x hx' => by have := hx x hx'; omega) i (by omega) (by omega)
  refine Wc.seq (fun K6 hK6 => ?_)
  refine Wc.seq (fun K7 hK7 => ?_)
  refine Wc.keep [(0, _), (1, _), (4, _), (6, _), (7, _), (8, _)] (.cons rfl (.cons rfl (.cons rfl (.cons rfl (.cons rfl (.cons rfl (.nil))))))) ?_
  refine Wc.region ?_
  refine Wl.val rfl rfl rfl (Gives.move rfl rfl) ?_
  refine Wl.val rfl rfl rfl (Gives.move rfl rfl) ?_
  refine Wl.val rfl rfl rfl (Gives.lenS rfl Tryd.underlying22 rfl) ?_
  refine Wl.val rfl rfl rfl (Gives.lss rfl rfl rfl) ?_
  refine Wl.nil ?_
  refine Wx.thenN (hK7 _ _ ?_)
  refine Wc.cond _ rfl (fun h13 => ?_) (fun h13 => ?_)
  · (first | replace h13 := of_decide_eq_true h13 | replace h13 := nd_true h13 | skip)
    refine Wc.skip ?_
    refine Wx.thenN (hK6 _ _ ?_)
    refine Wc.seq (fun K8 hK8 => ?_)
    refine Wc.block ?_
    refine Wc.seq (fun K9 hK9 => ?_)
    refine Wc.keep [(0, _), (1, _), (4, _), (6, _), (7, _), (8, _)] (.cons rfl (.cons rfl (.cons rfl (.cons rfl (.cons rfl (.cons rfl (.nil))))))) ?_
    refine Wc.region ?_
    refine Wl.val rfl rfl rfl (Gives.move rfl rfl) ?_
    refine Wl.val rfl rfl rfl (Gives.add rfl rfl rfl (by first | exact IntWalk.i64_in _ (by omega) | exact u64_in _ (by omega) | exact u32_in _ (by omega) | exact u8_in _ (by omega) | exact rfl)) ?_
    refine Wl.val rfl rfl rfl (Gives.assign rfl rfl) ?_
    refine Wl.nil ?_
    refine Wx.thenN (hK9 _ _ ?_)
    refine Wc.keep [(0, _), (1, _), (4, _), (6, _), (7, _), (8, _)] (.cons rfl (.cons rfl (.cons rfl (.cons rfl (.cons rfl (.cons rfl (.nil))))))) ?_
    refine Wc.regionB (fun q => [0, 6, 7].contains q) [] (.read 0 (.read 1 (.read 2 (.read 3 (.read 4 (.read 5 (.read 6 (.call true 7 (.read 8 (.read 9 (.read 10 (.call true 11 .tail .none)))) .none)))))))) 12 (by kernel_rfl) (by kernel_rfl) (by kernel_rfl) ?_
    intro w7 hR7
    replace hb4 := hb4.ext hR7.ext
    replace hb6 := hb6.ext hR7.ext
    replace hE := hE.trans hR7.ext
    have hO7_4 : Old w7.heap.size [] b4 := ⟨hb4.lt, trivial⟩
    have hO7_6 : Old w7.heap.size [] b6 := ⟨hb6.lt, trivial⟩
    have hX := Ext.refl w7
    obtain ⟨xb, xo, rfl, hbw, f, fA, fn, fc, hz, hcell, hF⟩ := (hat.ext hE).at'' (show i < n by omega)
    have hfl := hF.len
    refine RunE.readM rfl rfl rfl rfl rfl (fun wS hS => (Gives.ldW rfl (by kernel_rfl) rfl ((hb6.ext hX).fr hS hO7_6) (by kernel_rfl))) ?_
    refine RunE.read rfl rfl rfl rfl (fun wS _ => (Gives.move rfl rfl)) ?_
    refine RunE.read rfl rfl rfl rfl (fun wS _ => (Gives.move rfl rfl)) ?_
    refine RunE.read rfl rfl rfl rfl (fun wS _ => (Gives.move rfl rfl)) ?_
    refine RunE.read rfl rfl rfl rfl (fun wS _ => (Gives.move rfl rfl)) ?_
    refine RunE.read rfl rfl rfl rfl (fun wS _ => (Gives.ixS (i := _) rfl Tryd.underlying22 (by kernel_rfl) rfl rfl rfl (by omega))) ?_
    refine RunE.readM rfl rfl rfl rfl rfl (fun wS hS => (Gives.ldC rfl (by kernel_rfl) rfl (cell_goJ hcell hbw hX hS))) ?_
    refine RunE.freeC rfl rfl rfl rfl rfl Tryd.func15 rfl (by kernel_rfl) rfl (commit15 (fun q => q ≠ b6 ∧ q ≠ b4) _ (fun q hq => by have := hb4.lt; have := hb6.lt; omega) A2 6 c2 (chainS k l i) (hbl.ext hR7.ext) (by omega) fA fn fc f hF (by have := hx f (List.mem_of_getElem? hz); omega) k ((i : Int) + 1) (by omega) (by omega) (fun x hx' => by have := hlens x hx'; omega)) ?_ RunE.none
    rintro x2 w77 ⟨A3, c3, d3, e3, rfl, H3, hb3, hx77⟩
    refine ⟨_, rfl, ?_⟩
    obtain rfl : d3 = chainS k l (i + 1) := by { rw [H3.out.1]; show _ = commitS (chainS k l i) k ((i + 1 : Nat) : Int) (l.getD i []); rw [show l.getD i [] = f by simp [List.getD, hz]]; rfl }
    replace hX := hX.trans hx77
    refine RunE.read rfl rfl rfl rfl (fun wS _ => (Gives.move rfl rfl)) ?_
    refine RunE.read rfl rfl rfl rfl (fun wS _ => (Gives.extract rfl rfl rfl)) ?_
    refine RunE.read rfl rfl rfl rfl (fun wS _ => (Gives.extract rfl rfl rfl)) ?_
    replace hb4 := hb4.ext hX
    replace hb6 := hb6.ext hX
    replace hE := hE.trans hX
    refine RunE.freeN rfl rfl rfl (Does.stL 5 rfl rfl rfl hb6 (by kernel_rfl) rfl rfl rfl) ?_ RunE.none
    rintro _ w7_11 ⟨hbn, hF7_11⟩
    replace hb4 := hb4.fr hF7_11 (by first | assumption | exact Ne.symm (by assumption))
    replace hE := Ext.over hE hF7_11 hg6
    replace hb6 := hbn
    clear hbn
    replace hX := Ext.refl w7_11
    have hb3' := hb3.fr (hF7_11.mono fun q hq => hq.1)
    refine RunE.tail rfl ?_
    replace hb4 := hb4.ext hX
    replace hb6 := hb6.ext hX
    replace hE := hE.trans hX
    refine Wl.nil ?_
    refine Wx.blockN ?_
    refine Wx.thenN (hK8 _ _ ?_)
    refine Wc.keep [(0, _), (1, _), (4, _), (6, _), (7, _), (8, _)] (.cons rfl (.cons rfl (.cons rfl (.cons rfl (.cons rfl (.cons rfl (.nil))))))) ?_
    refine Wc.region ?_
    refine Wl.val rfl rfl rfl (Gives.move rfl rfl) ?_
    refine Wl.val rfl rfl rfl (Gives.add rfl rfl rfl (by first | exact IntWalk.i64_in _ (by omega) | exact u64_in _ (by omega) | exact u32_in _ (by omega) | exact u8_in _ (by omega) | exact rfl)) ?_
    refine Wl.val rfl rfl rfl (Gives.assign rfl rfl) ?_
    refine Wl.nil ?_
    refine Wx.thenN ?_
    refine hKL1 (i + 1, A3, c3) _ _ (.cons (by first | exact rfl | exact look_int rfl (by omega) | exact look_slice rfl (by omega)) (.cons (by first | exact rfl | exact look_int rfl (by omega) | exact look_slice rfl (by omega)) (.cons rfl (.cons rfl (.cons rfl (.cons rfl (.nil))))))) ⟨by omega, hb3', hb4, hb6, hE⟩ (by show n - (i + 1) < n - i; omega)
  · (first | replace h13 := of_decide_eq_false h13 | replace h13 := nd_false h13 | skip)
    refine Wc.exit ?_
    refine Wx.thenE ?_
    refine Wx.thenE ?_
    refine Wx.hit ?_
    refine Wx.thenN (hK4 _ _ ?_)
    refine Wc.seq (fun K10 hK10 => ?_)
    refine Wc.keep [(4, _), (6, _), (7, _)] (.cons rfl (.cons rfl (.cons rfl (.nil)))) ?_
    obtain rfl : i = n := by omega
    refine Wc.region ?_
    refine Wl.val rfl rfl rfl (Gives.ldW rfl (by kernel_rfl) rfl hb6 (by kernel_rfl)) ?_
    refine Wl.val rfl rfl rfl (Gives.move rfl rfl) ?_
    refine Wl.acts rfl rfl (Does.stL 5 rfl rfl rfl hb4 (by kernel_rfl) rfl rfl rfl) ?_
    rintro _ w8_2 ⟨hbn, hF8_2⟩
    replace hb6 := hb6.fr hF8_2 (by first | assumption | exact Ne.symm (by assumption))
    replace hE := Ext.over hE hF8_2 hg4
    replace hb4 := hbn
    clear hbn
    have hbf := (hbl.fr (hF8_2.mono fun q hq => hq.2)).mono (P' := fun _ => True) fun _ _ => trivial
    refine Wl.val rfl rfl rfl (Gives.assign rfl rfl) ?_
    refine Wl.nil ?_
    refine Wx.thenN (hK10 _ _ ?_)
    refine Wc.ret ?_
    refine Wx.ret [_, _] ⟨⟨_, rfl, res_blk hb4 Tryd.underlying28 rfl (by kernel_rfl)⟩, ⟨rfl, trivial⟩⟩ ?_
    exact ⟨A2, c2, _, rfl, rfl, hbf, hE⟩
end Go.Proofs.YtbbeoojlgfegjaaDoor
