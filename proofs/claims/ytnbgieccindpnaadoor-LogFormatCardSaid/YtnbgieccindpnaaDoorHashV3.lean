/- The reference's SHA-256: the sum. -/
import Derived.Test.YtnbgieccindpnaaDoorHashV2
import Derived.Test.YtnbgieccindpnaaDoorVc4
namespace Go.Proofs.YtnbgieccindpnaaDoor
set_option linter.all false
set_option maxRecDepth 20000
open Go.RowKit
theorem info64 : (Tryd.prog.info? 121).bind (·.zero) = some (.agg (u32s (List.replicate 64 0)).toArray) := by kernel_rfl
theorem infoW : (Tryd.prog.info? 98).map (fun i => (i.zero, i.size, i.bytes)) = some (some (.int .u32 0), 1, 4) := by kernel_rfl
theorem infoW2 : (Tryd.prog.info? 98).map (fun i => (i.zero, i.size)) = some (some (.int .u32 0), 1) := by kernel_rfl
theorem u32s_set (l : List UInt32) (i : Nat) (x : UInt32) : (u32s l).toArray.setIfInBounds i (.int .u32 (x.toNat : Int)) = (u32s (l.set i x)).toArray := by
  apply Array.ext'
  simp [u32s, List.map_set]
theorem rotrZ (w : World) (x : UInt32) (z : Int) (h1 : 1 ≤ z) (h2 : z ≤ 31) :
    Calls Tryd.prog 102 #[.int .u32 (x.toNat : Int), .int .u64 z] w fun e w' => e = .returned (.int .u32 ((rr x z.toNat).toNat : Int)) ∧ w = w' := by
  obtain ⟨m, rfl⟩ := Int.eq_ofNat_of_zero_le (show 0 ≤ z by omega)
  exact rotr_calls w x m (by omega) (by omega)
theorem Does.stW {P : Program} {n : Nat} {e : Env} {w : World} {o : Oper} {x y : Operand} {t t' : TypeId} {g i : Nat} {l : List UInt32} {v : UInt32} (ho : o.op = .store t x y) (hx : ev e x = some (.pointer (some ⟨g, i, none⟩))) (hy : ev e y = some (.int .u32 (v.toNat : Int))) (hg : WB w g t' l) (hi : (P.info? t).map (·.size) = some 1) (hlt : i < l.length) :
    Does P n o e w (fun _ w' => WB w' g t' (l.set i v) ∧ Fr (fun k => k ≠ g) w w') :=
  (Does.stC ho hx hy hg hi (by simpa [u32s] using hlt) rfl).mono fun _ w' ⟨h1, h2⟩ => ⟨by unfold WB; rw [← u32s_set]; exact h1, h2⟩
theorem WB.cell0 {w : World} {g : Nat} {t : TypeId} {l : List UInt32} (h : WB w g t l) {i : Nat} {x : UInt32} (hx : l[i]? = some x) : w.cell? ⟨g, 0 + i, none⟩ = some (.int .u32 (x.toNat : Int)) := by rw [Nat.zero_add]; exact h.cell hx
theorem gw_some (l : List UInt32) (i : Nat) (h : i < l.length) : l[i]? = some (gw l i) := by unfold gw; simp [h]
theorem sched_lo (b : List UInt8) (t : Nat) (h : t < 16) : schedS b (t + 1) = (schedS b t).set t (wordS b t) := by
  show schedStep b (schedS b t) t = _
  unfold schedStep; rw [if_pos h]
theorem sched_hi (b : List UInt8) (t : Nat) (h : 16 ≤ t) : schedS b (t + 1) = (schedS b t).set t (((sg1 (gw (schedS b t) (t - 2)) + gw (schedS b t) (t - 7)) + sg0 (gw (schedS b t) (t - 15))) + gw (schedS b t) (t - 16)) := by
  show schedStep b (schedS b t) t = _
  unfold schedStep; rw [if_neg (by omega)]
/-- What stands ahead of the blocks. -/
structure SumA (w0 w : World) (gk gh : Nat) (X : Option Addr) (xn xc : Nat) (x : List UInt8) (s : S8) : Prop where
  k : WB w gk 121 consts
  h : WB w gh 98 s.l
  x : BV w (fun q => q ≠ gh) X xn xc x
  ext : Ext w0 w
  kl : w0.heap.size ≤ gk
  hl : w0.heap.size ≤ gh
  ne : gk ≠ gh
def addK (a b : List UInt32) (i : Nat) : List UInt32 := List.zipWith (· + ·) (a.take i) (b.take i) ++ a.drop i
theorem addK_step (a b : List UInt32) (i : Nat) (x y : UInt32) (hx : a[i]? = some x) (hy : b[i]? = some y) : addK a b (i + 1) = (addK a b i).set i (x + y) := by
  have ha := (List.getElem?_eq_some_iff.1 hx)
  have hb := (List.getElem?_eq_some_iff.1 hy)
  obtain ⟨ha1, ha2⟩ := ha
  obtain ⟨hb1, hb2⟩ := hb
  unfold addK
  rw [List.take_succ_eq_append_getElem ha1, List.take_succ_eq_append_getElem hb1, List.zipWith_append (by simp; omega), ha2, hb2]
  have hl : (List.zipWith (· + ·) (a.take i) (b.take i)).length = i := by simp; omega
  rw [List.set_append_right _ _ (by omega), hl, Nat.sub_self, List.append_assoc]
  congr 1
  rw [List.drop_eq_getElem_cons ha1]
  rfl
theorem addK_at (a b : List UInt32) (i : Nat) (hi : i < a.length) (hb : a.length ≤ b.length) : (addK a b i)[i]? = a[i]? := by
  unfold addK
  have hl : (List.zipWith (· + ·) (a.take i) (b.take i)).length = i := by simp; omega
  rw [List.getElem?_append_right (by omega), hl, Nat.sub_self]; simp
theorem addK_len (a b : List UInt32) (i : Nat) (hb : a.length = b.length) : (addK a b i).length = a.length := by unfold addK; simp; omega
theorem Quiet.cell {w w' : World} (h : Quiet w w') (p : Addr) : w'.cell? p = w.cell? p := by obtain ⟨q, rfl⟩ := h; rfl
theorem UV.cells {w : World} {P : Nat → Prop} {n c : Nat} {A : Option Addr} {l : List UInt32} (h : UV w P A n c l) (hn : 0 < n) : ∃ b off, A = some ⟨b, off, none⟩ ∧ ∀ i x, l[i]? = some x → w.cell? ⟨b, off + i, none⟩ = some (.int .u32 (x.toNat : Int)) := by
  obtain ⟨b, off, rfl, _, _, hc⟩ := h.2.2.2 hn
  exact ⟨b, off, rfl, fun i x hx => hc i _ (by simp [u32s, hx])⟩
theorem roundsS_succ (w : List UInt32) (s : S8) (t : Nat) : roundsS w s (t + 1) = roundS (roundsS w s t) (gw consts t) (gw w t) := rfl
set_option maxRecDepth 100000 in
set_option maxHeartbeats 4000000 in
theorem sum256R_calls {P : Nat → Prop} (w : World) (A : Option Addr) (n c : Nat) (l : List UInt8) (ha : BV w P A n c l) (hn : n ≤ 1099511627776) :
    Calls Tryd.prog 80 #[.slice A n c] w fun e w' => ∃ S k, e = .returned (.slice S 32 k) ∧ OB w' w.heap.size 5 S 32 k (sha256S l) ∧ Ext w w' := by
  refine calls_enter Tryd.func80 rfl Tryd.ntmps80 rfl ?_
  refine vs fun K1 hK1 => vR [(0, _)] ?_
  refine vA ?_
  refine vn (hK1 _ _ ?_)
  refine vs fun K2 hK2 => vR [(0, _)] ?_
  refine Wl.call rfl rfl rfl rfl Tryd.func101 rfl (by kernel_rfl) rfl (constants_calls _) ?_
  rintro x w1 ⟨rfl, hE1⟩
  refine ⟨_, rfl, ?_⟩
  refine Wl.does rfl rfl rfl (Does.alB (.agg (u32s (List.replicate 64 0)).toArray) rfl info64 rfl) ?_
  rintro _ w2 ⟨gk, rfl, hgk, hk2, hE2⟩
  refine Wl.acts rfl rfl (Does.stB rfl rfl rfl hk2 (by kernel_rfl) (by kernel_rfl) (u32s_all _)) ?_
  rintro _ w3 ⟨hk3, hF3⟩
  have hgk0 : w.heap.size ≤ gk := by have := hE1.size; omega
  have hEa : Ext w w3 := Ext.over (hE1.trans hE2) hF3 hgk0
  refine vn (hK2 _ _ ?_)
  refine vs fun K3 hK3 => vR [(0, _), (3, _)] ?_
  refine Wl.does rfl rfl rfl (Does.lit rfl Tryd.underlying103 infoW2 rfl rfl rfl rfl rfl) ?_
  rintro _ w4 ⟨gh, rfl, hgh, hh4, hE4⟩
  replace hh4 : WB w4 gh 98 iv256.l := hh4
  refine vA ?_
  refine vn (hK3 _ _ ?_)
  refine vs fun K4 hK4 => vR [(0, _), (3, _), (4, _)] ?_
  refine vM ?_
  refine Wl.call rfl rfl rfl rfl Tryd.func97 rfl (by kernel_rfl) rfl (padR_calls w4 A n c l (ha.ext (hEa.trans hE4)) (by omega)) ?_
  rintro x5 w5 ⟨X, xn, xc, rfl, hO5, hE5⟩
  refine ⟨_, rfl, ?_⟩
  refine vA ?_
  refine vn (hK4 _ _ ?_)
  refine Wc.seq (fun K5 hK5 => ?_)
  refine vs fun K6 hK6 => vR [(3, _), (4, _), (5, _)] ?_
  refine vA ?_
  refine Wl.nil ?_
  have hgh5 := hh4.lt
  have hxl := hO5.len
  have hxm := padS_mod l
  obtain ⟨N, hN⟩ : ∃ N, xn = 64 * N := ⟨xn / 64, by omega⟩
  have hS0 : SumA w w5 gk gh X xn xc (padS l) iv256 := ⟨WB.ext hk3 (hE4.trans hE5), hh4.ext hE5, OB.bv (P := fun q => q ≠ gh) hO5 (fun q hq => by omega), hEa.trans (hE4.trans hE5), hgk0, by have := hEa.size; omega, by have := Blk.lt hk3; omega⟩
  generalize hx : padS l = x at *
  have hal := ha.len
  refine Wx.thenN (hK6 _ _ ?_)
  refine Wc.block ?_
  refine vK [(3, _), (4, _), (5, _), (6, _)] ?_
  refine Wc.loopC (ι := Nat) [(3, _), (4, _), (5, _)] (fun k => [(6, .int .i64 ((64 * k : Nat) : Int))]) (fun k wr => k ≤ N ∧ SumA w wr gk gh X xn xc x (blocksS x iv256 k)) (fun k => N - k) (0) (.co (.cons rfl (.cons rfl (.cons rfl (.nil))))) (⟨Nat.zero_le _, hS0⟩) ?_
  intro k wr hJ KL1 hKL1
  obtain ⟨hk, hS⟩ := hJ
  clear hS0
  refine Wc.seq (fun K7 hK7 => ?_)
  refine vs fun K8 hK8 => vR [(3, _), (4, _), (5, _), (6, _)] ?_
  refine vM ?_
  refine vM ?_
  refine vl (Gives.lenS rfl Tryd.underlying22 rfl) ?_
  refine vl (Gives.lss rfl rfl rfl) ?_
  refine vn (hK8 _ _ ?_)
  refine Wc.cond _ rfl (fun hat => ?_) (fun hat => ?_)
  · first | replace hat := dT hat | replace hat := nT hat | skip
    refine Wc.skip ?_
    refine Wx.thenN (hK7 _ _ ?_)
    refine Wc.seq (fun K9 hK9 => ?_)
    refine Wc.block ?_
    refine vs fun K10 hK10 => vR [(3, _), (4, _), (5, _), (6, _)] ?_
    refine Wl.does rfl rfl rfl (Does.alB (.agg (u32s (List.replicate 64 0)).toArray) rfl info64 rfl) ?_
    rintro _ w6 ⟨g, rfl, hg, hg6, hE6⟩
    replace hg6 : WB w6 g 121 (schedS ((x.drop (64 * k)).take 64) 0) := hg6
    refine vn (hK10 _ _ ?_)
    refine Wc.seq (fun K11 hK11 => ?_)
    refine vs fun K12 hK12 => vR [(3, _), (4, _), (5, _), (6, _), (7, _)] ?_
    refine vA ?_
    refine Wl.nil ?_
    have hbl : ((x.drop (64 * k)).take 64).length = 64 := by rw [List.length_take, List.length_drop, hxl]; omega
    have hxo2 : BV w6 (fun q => q ≠ g ∧ q ≠ gh) X xn xc x := (hS.x.offs _ (fun q h hq => ⟨by omega, h⟩)).ext hE6
    have hxo : BV w6 (fun q => q ≠ g) X xn xc x := hxo2.mono (fun q h => h.1)
    have hgh6 := hS.h.lt
    have hgk6 := hS.k.lt
    obtain ⟨B, hB⟩ : ∃ B, B = (x.drop (64 * k)).take 64 := ⟨_, rfl⟩
    rw [← hB] at hg6 hbl
    refine Wx.thenN (hK12 _ _ ?_)
    refine Wc.block ?_
    refine vK [(3, _), (4, _), (5, _), (6, _), (7, _), (8, _)] ?_
    refine Wc.loopC (ι := Nat) [(3, _), (4, _), (5, _), (6, _), (7, _)] (fun t => [(8, .int .i64 (t : Int))]) (fun t wi => t ≤ 64 ∧ WB wi g 121 (schedS B t) ∧ Fr (fun q => q ≠ g) w6 wi) (fun t => 64 - t) (0) (.co (.cons rfl (.cons rfl (.cons rfl (.cons rfl (.cons rfl (.nil))))))) (⟨by omega, hg6, Fr.refl _ _⟩) ?_
    intro t wi hJ KL2 hKL2
    obtain ⟨ht, hgt, hF⟩ := hJ
    have hsl := schedS_len B t
    refine Wc.seq (fun K13 hK13 => ?_)
    refine vs fun K14 hK14 => vR [(3, _), (4, _), (5, _), (6, _), (7, _), (8, _)] ?_
    refine vM ?_
    refine vl (Gives.lss rfl rfl rfl) ?_
    refine vn (hK14 _ _ ?_)
    refine Wc.cond _ rfl (fun h29 => ?_) (fun h29 => ?_)
    · first | replace h29 := dT h29 | replace h29 := nT h29 | skip
      refine Wc.skip ?_
      refine Wx.thenN (hK13 _ _ ?_)
      refine Wc.seq (fun K15 hK15 => ?_)
      refine Wc.block ?_
      refine Wc.seq (fun K16 hK16 => ?_)
      refine vs fun K17 hK17 => vR [(3, _), (4, _), (5, _), (6, _), (7, _), (8, _)] ?_
      refine vM ?_
      refine vl (Gives.lss rfl rfl rfl) ?_
      refine vn (hK17 _ _ ?_)
      refine Wc.cond _ rfl (fun h33 => ?_) (fun h33 => ?_)
      · first | replace h33 := dT h33 | replace h33 := nT h33 | skip
        refine vs fun K18 hK18 => vR [(3, _), (4, _), (5, _), (6, _), (7, _), (8, _)] ?_
        refine vM ?_
        refine vM ?_
        refine vM ?_
        refine vM ?_
        refine vAdd ?_
        refine vl (Gives.cut rfl Tryd.underlying22 (by kernel_rfl) rfl (64 * k) 64 rfl rfl rfl (by omega) (by have := hxo.le; omega)) ?_
        have hcut : BV wi (fun q => q ≠ g) (cutAddr X xc (64 * k) 1) 64 (xc - 64 * k) B := by
          have := BV.cut2 (hxo.fr hF) (show 64 * k ≤ 64 * k + 64 by omega) (show 64 * k + 64 ≤ xn by omega)
          rw [List.drop_take] at this
          rw [hB]
          simpa using this
        refine vM ?_
        refine Wl.call rfl rfl rfl rfl Tryd.func98 rfl (by kernel_rfl) rfl (word_calls2 wi _ 64 _ B hcut t (by omega)) ?_
        rintro x12 w12 ⟨rfl, hq12⟩
        refine ⟨_, rfl, ?_⟩
        refine vl (Gives.ixA (i := t) rfl Tryd.underlying121 (by kernel_rfl) rfl rfl (by omega) (by omega)) ?_
        refine Wl.acts rfl rfl (Does.stW rfl rfl rfl (hgt.ext hq12.ext) (by kernel_rfl) (by rw [hsl]; omega)) ?_
        rintro _ w13 ⟨hg13, hF13⟩
        refine vn (hK18 _ _ ?_)
        refine Wc.exit ?_
        refine Wx.thenE ?_
        refine Wx.hit ?_
        refine Wx.thenN (hK15 _ _ ?_)
        refine vR [(3, _), (4, _), (5, _), (6, _), (7, _), (8, _)] ?_
        refine vM ?_
        refine vAdd ?_
        refine vA ?_
        refine Wl.nil ?_
        refine Wx.thenN ?_
        refine hKL2 (t + 1) _ _ (.co (.cons rfl (.cons rfl (.cons rfl (.cons rfl (.cons rfl (.nil))))))) ⟨by omega, by rw [sched_lo _ _ (by omega)]; simpa using hg13, (hF.ext hq12.ext).trans hF13⟩ (by omega)
      first | replace h33 := dF h33 | replace h33 := nF h33 | skip
      refine Wc.skip ?_
      refine Wx.thenN (hK16 _ _ ?_)
      refine vs fun K19 hK19 => vK [(3, _), (4, _), (5, _), (6, _), (7, _), (8, _)] ?_
      refine Wc.regionD (fun _ => true) Eq (.read 0 (.read 1 (.read 2 (.read 3 (.read 4 (.read 5 (.read 6 (.read 7 (.read 8 (.read 9 (.read 10 (.read 11 (.read 12 (.read 13 (.read 14 (.read 15 .tail)))))))))))))))) 16 (by kernel_rfl) (by kernel_rfl) (by kernel_rfl) (fun _ => rfl) (fun _ _ _ h k => h.trans k) Quiet ⟨1, rfl⟩ ?_
      intro w13 hR13
      have hc13 : ∀ i x, (schedS B t)[i]? = some x → w13.cell? ⟨g, 0 + i, none⟩ = some (.int .u32 (x.toNat : Int)) := fun i x hx => (hR13.cell _).trans (hgt.cell0 hx)
      refine rE rfl (Gives.move rfl rfl) ?_
      refine rE rfl (gSub rfl rfl rfl) ?_
      refine rE rfl (Gives.ixA (i := t - 15) rfl Tryd.underlying121 (by kernel_rfl) rfl rfl (by omega) (by omega)) ?_
      refine rE rfl (Gives.ldC rfl (by kernel_rfl) rfl (hc13 _ _ (gw_some _ (t - 15) (by omega)))) ?_
      refine rE rfl (Gives.call rfl Tryd.func102 rfl (by kernel_rfl) rfl (rotrZ _ _ _ (by omega) (by omega))) ?_
      refine rE rfl (Gives.move rfl rfl) ?_
      refine rE rfl (gSub rfl rfl rfl) ?_
      refine rE rfl (Gives.ixA (i := t - 15) rfl Tryd.underlying121 (by kernel_rfl) rfl rfl (by omega) (by omega)) ?_
      refine rE rfl (Gives.ldC rfl (by kernel_rfl) rfl (hc13 _ _ (gw_some _ (t - 15) (by omega)))) ?_
      refine rE rfl (Gives.call rfl Tryd.func102 rfl (by kernel_rfl) rfl (rotrZ _ _ _ (by omega) (by omega))) ?_
      refine rE rfl (Gives.u32xor rfl rfl rfl) ?_
      refine rE rfl (Gives.move rfl rfl) ?_
      refine rE rfl (gSub rfl rfl rfl) ?_
      refine rE rfl (Gives.ixA (i := t - 15) rfl Tryd.underlying121 (by kernel_rfl) rfl rfl (by omega) (by omega)) ?_
      refine rE rfl (Gives.ldC rfl (by kernel_rfl) rfl (hc13 _ _ (gw_some _ (t - 15) (by omega)))) ?_
      refine rE rfl (Gives.u32shr 3 rfl rfl rfl (by omega)) ?_
      refine RunE.tail rfl ?_
      refine vl (Gives.u32xor rfl rfl rfl) ?_
      refine vA ?_
      refine vn (hK19 _ _ ?_)
      refine vs fun K20 hK20 => vK [(3, _), (4, _), (5, _), (6, _), (7, _), (8, _), (9, _)] ?_
      refine Wc.regionD (fun _ => true) Eq (.read 0 (.read 1 (.read 2 (.read 3 (.read 4 (.read 5 (.read 6 (.read 7 (.read 8 (.read 9 (.read 10 (.read 11 (.read 12 (.read 13 (.read 14 (.read 15 .tail)))))))))))))))) 16 (by kernel_rfl) (by kernel_rfl) (by kernel_rfl) (fun _ => rfl) (fun _ _ _ h k => h.trans k) Quiet ⟨1, rfl⟩ ?_
      intro w14 hR14
      have hc14 : ∀ i x, (schedS B t)[i]? = some x → w14.cell? ⟨g, 0 + i, none⟩ = some (.int .u32 (x.toNat : Int)) := fun i x hx => (hR14.cell _).trans ((hR13.cell _).trans (hgt.cell0 hx))
      refine rE rfl (Gives.move rfl rfl) ?_
      refine rE rfl (gSub rfl rfl rfl) ?_
      refine rE rfl (Gives.ixA (i := t - 2) rfl Tryd.underlying121 (by kernel_rfl) rfl rfl (by omega) (by omega)) ?_
      refine rE rfl (Gives.ldC rfl (by kernel_rfl) rfl (hc14 _ _ (gw_some _ (t - 2) (by omega)))) ?_
      refine rE rfl (Gives.call rfl Tryd.func102 rfl (by kernel_rfl) rfl (rotrZ _ _ _ (by omega) (by omega))) ?_
      refine rE rfl (Gives.move rfl rfl) ?_
      refine rE rfl (gSub rfl rfl rfl) ?_
      refine rE rfl (Gives.ixA (i := t - 2) rfl Tryd.underlying121 (by kernel_rfl) rfl rfl (by omega) (by omega)) ?_
      refine rE rfl (Gives.ldC rfl (by kernel_rfl) rfl (hc14 _ _ (gw_some _ (t - 2) (by omega)))) ?_
      refine rE rfl (Gives.call rfl Tryd.func102 rfl (by kernel_rfl) rfl (rotrZ _ _ _ (by omega) (by omega))) ?_
      refine rE rfl (Gives.u32xor rfl rfl rfl) ?_
      refine rE rfl (Gives.move rfl rfl) ?_
      refine rE rfl (gSub rfl rfl rfl) ?_
      refine rE rfl (Gives.ixA (i := t - 2) rfl Tryd.underlying121 (by kernel_rfl) rfl rfl (by omega) (by omega)) ?_
      refine rE rfl (Gives.ldC rfl (by kernel_rfl) rfl (hc14 _ _ (gw_some _ (t - 2) (by omega)))) ?_
      refine rE rfl (Gives.u32shr 10 rfl rfl rfl (by omega)) ?_
      refine RunE.tail rfl ?_
      refine vl (Gives.u32xor rfl rfl rfl) ?_
      refine vA ?_
      refine vn (hK20 _ _ ?_)
      refine vK [(3, _), (4, _), (5, _), (6, _), (7, _), (8, _), (9, _), (10, _)] ?_
      refine Wc.regionD (fun _ => true) Eq (.read 0 (.read 1 (.read 2 (.read 3 (.read 4 (.read 5 (.read 6 (.read 7 (.read 8 (.read 9 (.read 10 (.read 11 (.read 12 (.read 13 .tail)))))))))))))) 14 (by kernel_rfl) (by kernel_rfl) (by kernel_rfl) (fun _ => rfl) (fun _ _ _ h k => h.trans k) Quiet ⟨1, rfl⟩ ?_
      intro w15 hR15
      have hc15 : ∀ i x, (schedS B t)[i]? = some x → w15.cell? ⟨g, 0 + i, none⟩ = some (.int .u32 (x.toNat : Int)) := fun i x hx => (hR15.cell _).trans ((hR14.cell _).trans ((hR13.cell _).trans (hgt.cell0 hx)))
      have hQ15 : Quiet wi w15 := (hR13.trans hR14).trans hR15
      refine rE rfl (Gives.move rfl rfl) ?_
      refine rE rfl (Gives.move rfl rfl) ?_
      refine rE rfl (Gives.move rfl rfl) ?_
      refine rE rfl (gSub rfl rfl rfl) ?_
      refine rE rfl (Gives.ixA (i := t - 7) rfl Tryd.underlying121 (by kernel_rfl) rfl rfl (by omega) (by omega)) ?_
      refine rE rfl (Gives.ldC rfl (by kernel_rfl) rfl (hc15 _ _ (gw_some _ (t - 7) (by omega)))) ?_
      refine rE rfl (Gives.u32add rfl rfl rfl) ?_
      refine rE rfl (Gives.move rfl rfl) ?_
      refine rE rfl (Gives.u32add rfl rfl rfl) ?_
      refine rE rfl (Gives.move rfl rfl) ?_
      refine rE rfl (gSub rfl rfl rfl) ?_
      refine rE rfl (Gives.ixA (i := t - 16) rfl Tryd.underlying121 (by kernel_rfl) rfl rfl (by omega) (by omega)) ?_
      refine rE rfl (Gives.ldC rfl (by kernel_rfl) rfl (hc15 _ _ (gw_some _ (t - 16) (by omega)))) ?_
      refine rE rfl (Gives.u32add rfl rfl rfl) ?_
      refine RunE.tail rfl ?_
      refine vl (Gives.ixA (i := t) rfl Tryd.underlying121 (by kernel_rfl) rfl rfl (by omega) (by omega)) ?_
      refine Wl.acts rfl rfl (Does.stW rfl rfl rfl (hgt.ext hQ15.ext) (by kernel_rfl) (by rw [hsl]; omega)) ?_
      rintro _ w16 ⟨hg16, hF16⟩
      refine Wl.nil ?_
      refine Wx.blockN ?_
      refine Wx.thenN (hK15 _ _ ?_)
      refine vR [(3, _), (4, _), (5, _), (6, _), (7, _), (8, _)] ?_
      refine vM ?_
      refine vAdd ?_
      refine vA ?_
      refine Wl.nil ?_
      refine Wx.thenN ?_
      refine hKL2 (t + 1) _ _ (.co (.cons rfl (.cons rfl (.cons rfl (.cons rfl (.cons rfl (.nil))))))) ⟨by omega, by rw [sched_hi _ _ (by omega)]; rw [Nat.zero_add] at hg16; exact hg16, (hF.ext hQ15.ext).trans hF16⟩ (by omega)
    first | replace h29 := dF h29 | replace h29 := nF h29 | skip
    refine Wc.exit ?_
    refine Wx.thenE ?_
    refine Wx.thenE ?_
    refine Wx.hit ?_
    refine Wx.thenN (hK11 _ _ ?_)
    refine vs fun K21 hK21 => vK [(3, _), (4, _), (5, _), (6, _), (7, _)] ?_
    obtain rfl : t = 64 := by omega
    clear hsl h29 ht
    have hh16 : WB wi gh 98 (blocksS x iv256 k).l := (hS.h.ext hE6).fr hF (by omega)
    have hk16 : WB wi gk 121 consts := (hS.k.ext hE6).fr hF (by omega)
    obtain ⟨s, hs⟩ : ∃ s, s = blocksS x iv256 k := ⟨_, rfl⟩
    rw [← hs] at hh16
    have hghi : gh < wi.heap.size := hh16.lt
    refine Wc.region ?_
    refine Wl.does rfl rfl rfl (Does.lit (vs := []) rfl Tryd.underlying103 infoW2 rfl rfl rfl rfl rfl) ?_
    rintro _ w17 ⟨ge, rfl, hge, hke, hE17⟩
    refine vM ?_
    refine Wl.does rfl rfl rfl (Does.appG (S := fun _ => True) rfl Tryd.underlying103 infoW rfl (by decide) rfl rfl (Blk.own (xs := []) hke hge rfl rfl (by omega)) ((hh16.ext hE17).uv (P := fun _ => True) trivial rfl (Nat.le_refl _) (by omega)) (u32s_one _) (by omega) (by omega) hE17.size) ?_
    rintro _ w18 ⟨V, vc, rfl, hV, hB18⟩
    have hE18 : Ext wi w18 := Ext.step hE17 hB18 (Nat.le_refl _)
    have hUV0 : UV w18 (fun q => q ≠ gh) V 8 vc s.l := by
      have := Row.of_own (P := fun q => q ≠ gh) hV (fun q hq => by omega)
      simpa [UV] using this
    clear hV hB18 hke
    refine vA ?_
    refine vn (hK21 _ _ ?_)
    refine Wc.seq (fun K22 hK22 => ?_)
    refine vs fun K23 hK23 => vR [(3, _), (4, _), (5, _), (6, _), (7, _), (11, _)] ?_
    refine vA ?_
    refine vn (hK23 _ _ ?_)
    refine Wc.block ?_
    refine vK [(3, _), (4, _), (5, _), (6, _), (7, _), (11, _), (12, _)] ?_
    refine Wc.loopC (ι := Nat × Option Addr × Nat) [(3, _), (4, _), (5, _), (6, _), (7, _)] (fun | (t, V, vc) => [(12, .int .i64 (t : Int)), (11, .slice V 8 vc)]) (fun | (t, V, vc), wj => t ≤ 64 ∧ Ext w18 wj ∧ UV wj (fun q => q ≠ gh) V 8 vc (roundsS (schedS B 64) s t).l) (fun | (t, _, _) => 64 - t) ((0, V, vc)) (.co (.co (.cons rfl (.cons rfl (.cons rfl (.cons rfl (.cons rfl (.nil)))))))) (⟨by omega, Ext.refl _, hUV0⟩) ?_
    intro ⟨t, V, vc⟩ wj hJ KL3 hKL3
    obtain ⟨ht, hEj, hUV⟩ := hJ
    obtain ⟨bv, ov, rfl, hcv⟩ := hUV.cells (by omega)
    obtain ⟨st, hst⟩ : ∃ st, st = roundsS (schedS B 64) s t := ⟨_, rfl⟩
    rw [← hst] at hcv hUV
    have hEwj := hE18.trans hEj
    refine Wc.seq (fun K24 hK24 => ?_)
    refine vs fun K25 hK25 => vR [(3, _), (4, _), (5, _), (6, _), (7, _), (11, _), (12, _)] ?_
    refine vM ?_
    refine vl (Gives.lss rfl rfl rfl) ?_
    refine vn (hK25 _ _ ?_)
    refine Wc.cond _ rfl (fun h96 => ?_) (fun h96 => ?_)
    · first | replace h96 := dT h96 | replace h96 := nT h96 | skip
      refine Wc.skip ?_
      refine Wx.thenN (hK24 _ _ ?_)
      refine Wc.seq (fun K26 hK26 => ?_)
      refine Wc.block ?_
      refine vs fun K27 hK27 => vK [(3, _), (4, _), (5, _), (6, _), (7, _), (11, _), (12, _)] ?_
      refine Wc.regionD (fun _ => true) Eq (.read 0 (.read 1 (.read 2 (.read 3 (.read 4 (.read 5 (.read 6 .tail))))))) 7 (by kernel_rfl) (by kernel_rfl) (by kernel_rfl) (fun _ => rfl) (fun _ _ _ h k => h.trans k) Quiet ⟨1, rfl⟩ ?_
      intro w20 hR20
      have hc20 : ∀ i x, st.l[i]? = some x → w20.cell? ⟨bv, ov + i, none⟩ = some (.int .u32 (x.toNat : Int)) := fun i x hx => (hR20.cell _).trans (hcv i x hx)
      refine rE rfl (Gives.move rfl rfl) ?_
      refine rE rfl (Gives.ixS (i := 0) rfl Tryd.underlying103 (by kernel_rfl) rfl rfl rfl (by omega)) ?_
      refine rE rfl (Gives.ldC rfl (by kernel_rfl) rfl (hc20 0 st.a rfl)) ?_
      refine rE rfl (Gives.move rfl rfl) ?_
      refine rE rfl (Gives.ixS (i := 4) rfl Tryd.underlying103 (by kernel_rfl) rfl rfl rfl (by omega)) ?_
      refine rE rfl (Gives.ldC rfl (by kernel_rfl) rfl (hc20 4 st.e rfl)) ?_
      refine rE rfl (Gives.assign rfl rfl) ?_
      refine RunE.tail rfl ?_
      refine vA ?_
      refine vn (hK27 _ _ ?_)
      refine vs fun K28 hK28 => vK [(3, _), (4, _), (5, _), (6, _), (7, _), (11, _), (12, _), (13, _), (14, _)] ?_
      refine Wc.regionD (fun _ => true) Eq (.read 0 (.read 1 (.read 2 (.read 3 (.read 4 (.read 5 (.read 6 (.read 7 (.read 8 (.read 9 (.read 10 (.read 11 (.read 12 (.read 13 (.read 14 (.read 15 (.read 16 (.read 17 (.read 18 (.read 19 (.read 20 (.read 21 (.read 22 (.read 23 (.read 24 (.read 25 (.read 26 (.read 27 (.read 28 (.read 29 (.read 30 (.read 31 .tail)))))))))))))))))))))))))))))))) 32 (by kernel_rfl) (by kernel_rfl) (by kernel_rfl) (fun _ => rfl) (fun _ _ _ h k => h.trans k) Quiet ⟨1, rfl⟩ ?_
      intro w21 hR21
      have hQ21 := hR20.trans hR21
      have hc21 : ∀ i x, st.l[i]? = some x → w21.cell? ⟨bv, ov + i, none⟩ = some (.int .u32 (x.toNat : Int)) := fun i x hx => (hQ21.cell _).trans (hcv i x hx)
      have hk21 := (hk16.ext hEwj).ext hQ21.ext
      have hg21 := (hgt.ext hEwj).ext hQ21.ext
      refine rE rfl (Gives.move rfl rfl) ?_
      refine rE rfl (Gives.ixS (i := 7) rfl Tryd.underlying103 (by kernel_rfl) rfl rfl rfl (by omega)) ?_
      refine rE rfl (Gives.ldC rfl (by kernel_rfl) rfl (hc21 7 st.h rfl)) ?_
      refine rE rfl (Gives.move rfl rfl) ?_
      refine rE rfl (Gives.call rfl Tryd.func102 rfl (by kernel_rfl) rfl (rotrZ _ _ _ (by omega) (by omega))) ?_
      refine rE rfl (Gives.move rfl rfl) ?_
      refine rE rfl (Gives.call rfl Tryd.func102 rfl (by kernel_rfl) rfl (rotrZ _ _ _ (by omega) (by omega))) ?_
      refine rE rfl (Gives.u32xor rfl rfl rfl) ?_
      refine rE rfl (Gives.move rfl rfl) ?_
      refine rE rfl (Gives.call rfl Tryd.func102 rfl (by kernel_rfl) rfl (rotrZ _ _ _ (by omega) (by omega))) ?_
      refine rE rfl (Gives.u32xor rfl rfl rfl) ?_
      refine rE rfl (Gives.u32add rfl rfl rfl) ?_
      refine rE rfl (Gives.move rfl rfl) ?_
      refine rE rfl (Gives.move rfl rfl) ?_
      refine rE rfl (Gives.ixS (i := 5) rfl Tryd.underlying103 (by kernel_rfl) rfl rfl rfl (by omega)) ?_
      refine rE rfl (Gives.ldC rfl (by kernel_rfl) rfl (hc21 5 st.f rfl)) ?_
      refine rE rfl (Gives.u32and rfl rfl rfl) ?_
      refine rE rfl (Gives.move rfl rfl) ?_
      refine rE rfl (Gives.u32not rfl rfl) ?_
      refine rE rfl (Gives.move rfl rfl) ?_
      refine rE rfl (Gives.ixS (i := 6) rfl Tryd.underlying103 (by kernel_rfl) rfl rfl rfl (by omega)) ?_
      refine rE rfl (Gives.ldC rfl (by kernel_rfl) rfl (hc21 6 st.g rfl)) ?_
      refine rE rfl (Gives.u32and rfl rfl rfl) ?_
      refine rE rfl (Gives.u32xor rfl rfl rfl) ?_
      refine rE rfl (Gives.u32add rfl rfl rfl) ?_
      refine rE rfl (Gives.move rfl rfl) ?_
      refine rE rfl (Gives.ixA (i := _) rfl Tryd.underlying121 (by kernel_rfl) rfl rfl rfl (by omega)) ?_
      refine rE rfl (Gives.ldC rfl (by kernel_rfl) rfl (hk21.cell0 (gw_some consts t (by rw [consts_len]; omega)))) ?_
      refine rE rfl (Gives.u32add rfl rfl rfl) ?_
      refine rE rfl (Gives.move rfl rfl) ?_
      refine rE rfl (Gives.ixA (i := _) rfl Tryd.underlying121 (by kernel_rfl) rfl rfl rfl (by omega)) ?_
      refine rE rfl (Gives.ldC rfl (by kernel_rfl) rfl (hg21.cell0 (gw_some (schedS B 64) t (by rw [schedS_len]; omega)))) ?_
      refine RunE.tail rfl ?_
      refine vl (Gives.u32add rfl rfl rfl) ?_
      refine vA ?_
      refine vn (hK28 _ _ ?_)
      refine vs fun K29 hK29 => vK [(3, _), (4, _), (5, _), (6, _), (7, _), (11, _), (12, _), (13, _), (14, _), (15, _)] ?_
      refine Wc.regionD (fun _ => true) Eq (.read 0 (.read 1 (.read 2 (.read 3 (.read 4 (.read 5 (.read 6 (.read 7 (.read 8 (.read 9 (.read 10 (.read 11 (.read 12 (.read 13 (.read 14 (.read 15 (.read 16 (.read 17 (.read 18 (.read 19 (.read 20 (.read 21 (.read 22 (.read 23 (.read 24 (.read 25 (.read 26 .tail))))))))))))))))))))))))))) 27 (by kernel_rfl) (by kernel_rfl) (by kernel_rfl) (fun _ => rfl) (fun _ _ _ h k => h.trans k) Quiet ⟨1, rfl⟩ ?_
      intro w22 hR22
      have hQ22 := hQ21.trans hR22
      have hc22 : ∀ i x, st.l[i]? = some x → w22.cell? ⟨bv, ov + i, none⟩ = some (.int .u32 (x.toNat : Int)) := fun i x hx => (hQ22.cell _).trans (hcv i x hx)
      refine rE rfl (Gives.move rfl rfl) ?_
      refine rE rfl (Gives.call rfl Tryd.func102 rfl (by kernel_rfl) rfl (rotrZ _ _ _ (by omega) (by omega))) ?_
      refine rE rfl (Gives.move rfl rfl) ?_
      refine rE rfl (Gives.call rfl Tryd.func102 rfl (by kernel_rfl) rfl (rotrZ _ _ _ (by omega) (by omega))) ?_
      refine rE rfl (Gives.u32xor rfl rfl rfl) ?_
      refine rE rfl (Gives.move rfl rfl) ?_
      refine rE rfl (Gives.call rfl Tryd.func102 rfl (by kernel_rfl) rfl (rotrZ _ _ _ (by omega) (by omega))) ?_
      refine rE rfl (Gives.u32xor rfl rfl rfl) ?_
      refine rE rfl (Gives.move rfl rfl) ?_
      refine rE rfl (Gives.move rfl rfl) ?_
      refine rE rfl (Gives.ixS (i := 1) rfl Tryd.underlying103 (by kernel_rfl) rfl rfl rfl (by omega)) ?_
      refine rE rfl (Gives.ldC rfl (by kernel_rfl) rfl (hc22 1 st.b rfl)) ?_
      refine rE rfl (Gives.u32and rfl rfl rfl) ?_
      refine rE rfl (Gives.move rfl rfl) ?_
      refine rE rfl (Gives.move rfl rfl) ?_
      refine rE rfl (Gives.ixS (i := 2) rfl Tryd.underlying103 (by kernel_rfl) rfl rfl rfl (by omega)) ?_
      refine rE rfl (Gives.ldC rfl (by kernel_rfl) rfl (hc22 2 st.c rfl)) ?_
      refine rE rfl (Gives.u32and rfl rfl rfl) ?_
      refine rE rfl (Gives.u32xor rfl rfl rfl) ?_
      refine rE rfl (Gives.move rfl rfl) ?_
      refine rE rfl (Gives.ixS (i := 1) rfl Tryd.underlying103 (by kernel_rfl) rfl rfl rfl (by omega)) ?_
      refine rE rfl (Gives.ldC rfl (by kernel_rfl) rfl (hc22 1 st.b rfl)) ?_
      refine rE rfl (Gives.move rfl rfl) ?_
      refine rE rfl (Gives.ixS (i := 2) rfl Tryd.underlying103 (by kernel_rfl) rfl rfl rfl (by omega)) ?_
      refine rE rfl (Gives.ldC rfl (by kernel_rfl) rfl (hc22 2 st.c rfl)) ?_
      refine rE rfl (Gives.u32and rfl rfl rfl) ?_
      refine rE rfl (Gives.u32xor rfl rfl rfl) ?_
      refine RunE.tail rfl ?_
      refine vl (Gives.u32add rfl rfl rfl) ?_
      refine vA ?_
      refine vn (hK29 _ _ ?_)
      refine vK [(3, _), (4, _), (5, _), (6, _), (7, _), (11, _), (12, _), (13, _), (14, _), (15, _), (16, _)] ?_
      refine Wc.regionD (fun _ => true) Eq (.read 0 (.read 1 (.read 2 (.read 3 (.read 4 (.read 5 (.read 6 (.read 7 (.read 8 (.read 9 (.read 10 (.read 11 (.read 12 (.read 13 (.read 14 (.read 15 (.read 16 (.read 17 (.read 18 (.read 19 (.read 20 (.read 21 .tail)))))))))))))))))))))) 22 (by kernel_rfl) (by kernel_rfl) (by kernel_rfl) (fun _ => rfl) (fun _ _ _ h k => h.trans k) Quiet ⟨1, rfl⟩ ?_
      intro w23 hR23
      have hQ23 := hQ22.trans hR23
      have hc23 : ∀ i x, st.l[i]? = some x → w23.cell? ⟨bv, ov + i, none⟩ = some (.int .u32 (x.toNat : Int)) := fun i x hx => (hQ23.cell _).trans (hcv i x hx)
      refine rE rfl (Gives.move rfl rfl) ?_
      refine rE rfl (Gives.move rfl rfl) ?_
      refine rE rfl (Gives.u32add rfl rfl rfl) ?_
      refine rE rfl (Gives.move rfl rfl) ?_
      refine rE rfl (Gives.move rfl rfl) ?_
      refine rE rfl (Gives.ixS (i := 1) rfl Tryd.underlying103 (by kernel_rfl) rfl rfl rfl (by omega)) ?_
      refine rE rfl (Gives.ldC rfl (by kernel_rfl) rfl (hc23 1 st.b rfl)) ?_
      refine rE rfl (Gives.move rfl rfl) ?_
      refine rE rfl (Gives.ixS (i := 2) rfl Tryd.underlying103 (by kernel_rfl) rfl rfl rfl (by omega)) ?_
      refine rE rfl (Gives.ldC rfl (by kernel_rfl) rfl (hc23 2 st.c rfl)) ?_
      refine rE rfl (Gives.move rfl rfl) ?_
      refine rE rfl (Gives.ixS (i := 3) rfl Tryd.underlying103 (by kernel_rfl) rfl rfl rfl (by omega)) ?_
      refine rE rfl (Gives.ldC rfl (by kernel_rfl) rfl (hc23 3 st.d rfl)) ?_
      refine rE rfl (Gives.move rfl rfl) ?_
      refine rE rfl (Gives.u32add rfl rfl rfl) ?_
      refine rE rfl (Gives.move rfl rfl) ?_
      refine rE rfl (Gives.move rfl rfl) ?_
      refine rE rfl (Gives.ixS (i := 5) rfl Tryd.underlying103 (by kernel_rfl) rfl rfl rfl (by omega)) ?_
      refine rE rfl (Gives.ldC rfl (by kernel_rfl) rfl (hc23 5 st.f rfl)) ?_
      refine rE rfl (Gives.move rfl rfl) ?_
      refine rE rfl (Gives.ixS (i := 6) rfl Tryd.underlying103 (by kernel_rfl) rfl rfl rfl (by omega)) ?_
      refine rE rfl (Gives.ldC rfl (by kernel_rfl) rfl (hc23 6 st.g rfl)) ?_
      refine RunE.tail rfl ?_
      refine Wl.does rfl rfl rfl (Does.lit rfl Tryd.underlying103 infoW2 rfl rfl rfl rfl rfl) ?_
      rintro _ w24 ⟨gn, rfl, hgn, hkn, hE24⟩
      replace hkn : WB w24 gn 98 (roundS st (gw consts t) (gw (schedS B 64) t)).l := hkn
      have hE24' := hQ23.ext.trans hE24
      refine vA ?_
      refine Wl.nil ?_
      refine Wx.blockN ?_
      refine Wx.thenN (hK26 _ _ ?_)
      refine vR [(3, _), (4, _), (5, _), (6, _), (7, _), (11, _), (12, _)] ?_
      refine vM ?_
      refine vAdd ?_
      refine vA ?_
      refine Wl.nil ?_
      refine Wx.thenN ?_
      refine hKL3 (t + 1, some ⟨gn, 0, none⟩, 8) _ _ (.co (.co (.cons rfl (.cons rfl (.cons rfl (.cons rfl (.cons rfl (.nil)))))))) ⟨by omega, hEj.trans hE24', by rw [roundsS_succ, ← hst]; exact hkn.uv (by have h1 := hEwj.size; have h2 := hQ23.ext.size; show gn ≠ gh; omega) rfl (Nat.le_refl _) (by omega)⟩ (by show 64 - (t + 1) < 64 - t; omega)
    first | replace h96 := dF h96 | replace h96 := nF h96 | skip
    refine Wc.exit ?_
    refine Wx.thenE ?_
    refine Wx.thenE ?_
    refine Wx.hit ?_
    refine Wx.thenN (hK22 _ _ ?_)
    refine vs fun K30 hK30 => vK [(3, _), (4, _), (5, _), (6, _), (11, _)] ?_
    obtain rfl : t = 64 := by omega
    have hh24 : WB wj gh 98 (addK s.l st.l 0) := hh16.ext hEwj
    refine Wc.region ?_
    refine vA ?_
    refine vn (hK30 _ _ ?_)
    refine Wc.block ?_
    refine vK [(3, _), (4, _), (5, _), (6, _), (11, _), (17, _)] ?_
    refine Wc.loopC (ι := Nat) [(3, _), (4, _), (5, _), (6, _), (11, _)] (fun i => [(17, .int .i64 (i : Int))]) (fun i wm => i ≤ 8 ∧ WB wm gh 98 (addK s.l st.l i) ∧ Fr (fun q => q ≠ gh) wj wm) (fun i => 8 - i) (0) (.co (.cons rfl (.cons rfl (.cons rfl (.cons rfl (.cons rfl (.nil))))))) (⟨by omega, hh24, Fr.refl _ _⟩) ?_
    intro i wm hJ KL4 hKL4
    obtain ⟨hi, hm, hFm⟩ := hJ
    have hml : (addK s.l st.l i).length = 8 := addK_len s.l st.l i rfl
    refine Wc.seq (fun K31 hK31 => ?_)
    refine vs fun K32 hK32 => vR [(3, _), (4, _), (5, _), (6, _), (11, _), (17, _)] ?_
    refine vM ?_
    refine vl (Gives.lss rfl rfl rfl) ?_
    refine vn (hK32 _ _ ?_)
    refine Wc.cond _ rfl (fun h190 => ?_) (fun h190 => ?_)
    · first | replace h190 := dT h190 | replace h190 := nT h190 | skip
      refine Wc.skip ?_
      refine Wx.thenN (hK31 _ _ ?_)
      refine Wc.seq (fun K33 hK33 => ?_)
      refine Wc.block ?_
      refine vK [(3, _), (4, _), (5, _), (6, _), (11, _), (17, _)] ?_
      refine Wc.regionD (fun _ => true) Eq (.read 0 (.read 1 (.read 2 (.read 3 (.read 4 (.read 5 (.read 6 (.read 7 .tail)))))))) 8 (by kernel_rfl) (by kernel_rfl) (by kernel_rfl) (fun _ => rfl) (fun _ _ _ h k => h.trans k) Quiet ⟨1, rfl⟩ ?_
      intro w27 hR27
      have hc27 : i < 8 → w27.cell? ⟨gh, 0 + i, none⟩ = some (.int .u32 ((gw s.l i).toNat : Int)) := fun h8 => (hR27.cell _).trans (hm.cell0 ((addK_at s.l st.l i h8 (Nat.le_refl 8)).trans (gw_some s.l i h8)))
      have hd27 : i < 8 → w27.cell? ⟨bv, ov + i, none⟩ = some (.int .u32 ((gw st.l i).toNat : Int)) := fun h8 => by
        obtain ⟨b', o', hb', hc'⟩ := (hUV.fr hFm).cells (by omega)
        cases hb'
        exact (hR27.cell _).trans (hc' i _ (gw_some st.l i h8))
      refine rE rfl (Gives.move rfl rfl) ?_
      refine rE rfl (Gives.move rfl rfl) ?_
      refine rE rfl (Gives.ixS (i := _) rfl Tryd.underlying103 (by kernel_rfl) rfl rfl rfl (by omega)) ?_
      refine rE rfl (Gives.ldC rfl (by kernel_rfl) rfl (hc27 (by omega))) ?_
      refine rE rfl (Gives.move rfl rfl) ?_
      refine rE rfl (Gives.move rfl rfl) ?_
      refine rE rfl (Gives.ixS (i := _) rfl Tryd.underlying103 (by kernel_rfl) rfl rfl rfl (by omega)) ?_
      refine rE rfl (Gives.ldC rfl (by kernel_rfl) rfl (hd27 (by omega))) ?_
      refine RunE.tail rfl ?_
      refine vl (Gives.u32add rfl rfl rfl) ?_
      refine vl (Gives.ixS (i := _) rfl Tryd.underlying103 (by kernel_rfl) rfl rfl rfl (by omega)) ?_
      refine Wl.acts rfl rfl (Does.stW rfl rfl rfl (hm.ext hR27.ext) (by kernel_rfl) (by rw [hml]; omega)) ?_
      rintro _ w28 ⟨hm28, hF28⟩
      refine Wl.nil ?_
      refine Wx.blockN ?_
      refine Wx.thenN (hK33 _ _ ?_)
      refine vR [(3, _), (4, _), (5, _), (6, _), (11, _), (17, _)] ?_
      refine vM ?_
      refine vAdd ?_
      refine vA ?_
      refine Wl.nil ?_
      refine Wx.thenN ?_
      refine hKL4 (i + 1) _ _ (.co (.cons rfl (.cons rfl (.cons rfl (.cons rfl (.cons rfl (.nil))))))) ⟨by omega, by rw [addK_step _ _ _ _ _ (gw_some s.l i (by show i < 8; omega)) (gw_some st.l i (by show i < 8; omega))]; simpa using hm28, (hFm.ext hR27.ext).trans hF28⟩ (by omega)
    first | replace h190 := dF h190 | replace h190 := nF h190 | skip
    refine Wc.exit ?_
    refine Wx.thenE ?_
    refine Wx.thenE ?_
    refine Wx.hit ?_
    refine Wx.blockN ?_
    refine Wx.thenN (hK9 _ _ ?_)
    refine vK [(3, _), (4, _), (5, _), (6, _)] ?_
    obtain rfl : i = 8 := by omega
    have hSn : SumA w wm gk gh X xn xc x (blocksS x iv256 (k + 1)) := by
      have hb : blocksS x iv256 (k + 1) = addS s st := by rw [hst, hs, hB]; rfl
      have hxm : BV wm (fun q => q ≠ gh) X xn xc x := (((hxo2.fr (hF.mono (fun q h => h.1))).mono (fun q h => h.2)).ext hEwj).fr hFm
      exact ⟨((hk16.ext hEwj).fr hFm hS.ne), by rw [hb]; exact hm, hxm, Ext.over (Ext.over (hS.ext.trans hE6) hF (by have := hS.ext.size; omega) |>.trans hEwj) hFm hS.hl, hS.kl, hS.hl, hS.ne⟩
    refine Wc.region ?_
    refine vM ?_
    refine vAdd ?_
    refine vA ?_
    refine Wl.nil ?_
    refine Wx.thenN ?_
    refine hKL1 (k + 1) _ _ (.co (.cons rfl (.cons rfl (.cons rfl (.nil))))) ⟨by omega, hSn⟩ (by omega)
  first | replace hat := dF hat | replace hat := nF hat | skip
  refine Wc.exit ?_
  refine Wx.thenE ?_
  refine Wx.thenE ?_
  refine Wx.hit ?_
  refine Wx.thenN (hK5 _ _ ?_)
  refine vs fun K34 hK34 => vK [(4, _)] ?_
  obtain rfl : k = N := by omega
  refine Wc.region ?_
  refine vM ?_
  refine Wl.call rfl rfl rfl rfl Tryd.func100 rfl (by kernel_rfl) rfl (bytesR_calls wr _ 8 8 _ (hS.h.uv (P := fun _ => True) trivial rfl (Nat.le_refl _) (by omega)) (by omega)) ?_
  rintro x28 w29 ⟨S, m, kk, rfl, hO, hE29⟩
  refine ⟨_, rfl, ?_⟩
  refine vA ?_
  refine vn (hK34 _ _ ?_)
  refine Wc.ret ?_
  refine Wx.ret [_] ⟨rfl, trivial⟩ ?_
  have hm32 : m = 32 := by have := hO.len; rw [bytesS_len] at this; exact this.symm
  subst hm32
  have hfin : sha256S l = bytesS (blocksS x iv256 k).l := by
    unfold sha256S; rw [hx]; congr 3; omega
  refine ⟨S, kk, rfl, by rw [hfin]; exact hO.mono hS.ext.size, hS.ext.trans hE29⟩
end Go.Proofs.YtnbgieccindpnaaDoor
