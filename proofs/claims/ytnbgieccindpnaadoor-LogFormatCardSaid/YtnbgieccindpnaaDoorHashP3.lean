/- The program's SHA-256: one block, the sum. -/
import Derived.Test.YtnbgieccindpnaaDoorHashP2
import Derived.Test.YtnbgieccindpnaaDoorVc4
namespace Go.Proofs.YtnbgieccindpnaaDoor
set_option linter.all false
set_option maxRecDepth 20000
open Go.RowKit
theorem Fr.over {P : Nat → Prop} {w a b : World} {g : Nat} (h : Fr P w a) (f : Fr (fun k => k ≠ g) a b) (hg : w.heap.size ≤ g) : Fr P w b :=
  ⟨f.os.trans h.os, f.tape.trans h.tape, f.output.trans h.output, Nat.le_trans h.size f.size, fun k hk hp => (f.block k (Nat.lt_of_lt_of_le hk h.size) (by omega)).trans (h.block k hk hp)⟩
theorem info8 : (Tryd.prog.info? 104).bind (·.zero) = some (.agg (u32s (List.replicate 8 0)).toArray) := by kernel_rfl
theorem blockS_take (s : S8) (l : List UInt8) (h : l.length = 64) : blockS s l = addS s (roundsS (schedS l 64) s 64) := rfl
theorem u32s_get {l : List UInt32} {i : Nat} {x : UInt32} (h : l[i]? = some x) : (u32s l)[i]? = some (.int .u32 (x.toNat : Int)) := by simp [u32s, h]
/-- The table of the program's rounds, as it lies in the variable. -/
def Tab (w : World) : Prop := GV w 0 (u32s consts)
theorem Tab.lt {w : World} (h : Tab w) : 0 < w.heap.size := h.1
theorem Tab.ext {w w' : World} (h : Tab w) (e : Ext w w') : Tab w' := GV.ext h e
set_option maxRecDepth 100000 in
set_option maxHeartbeats 4000000 in
theorem compress_calls (w : World) (hT : Tab w) (gh : Nat) (s : S8) (hh : WB w gh 104 s.l) (hgh : gh ≠ 0) (A : Option Addr) (c : Nat) (l : List UInt8) (ha : BV w (fun q => q ≠ gh) A 64 c l) :
    Calls Tryd.prog 78 #[.pointer (some ⟨gh, 0, none⟩), .slice A 64 c] w fun e w' => e = .returned (.tuple #[]) ∧ WB w' gh 104 (blockS s l).l ∧ Fr (fun q => q ≠ gh) w w' := by
  have hl64 := ha.len
  have hle := ha.le
  refine calls_enter Tryd.func78 rfl Tryd.ntmps78 rfl ?_
  refine vs fun K1 hK1 => vR [(0, _), (1, _)] ?_
  refine Wl.does rfl rfl rfl (Does.alB (.agg (u32s (List.replicate 64 0)).toArray) rfl info64 rfl) ?_
  rintro _ w6 ⟨g, rfl, hg, hg6, hE6⟩
  replace hg6 : WB w6 g 121 (schedS l 0) := hg6
  have hxo2 : BV w6 (fun q => q ≠ g ∧ q ≠ gh) A 64 c l := (ha.offs _ (fun q h hq => ⟨by omega, h⟩)).ext hE6
  have hxo : BV w6 (fun q => q ≠ g) A 64 c l := hxo2.mono (fun q h => h.1)
  have hghw := hh.lt
  have hTw := hT.lt
  refine vn (hK1 _ _ ?_)
  refine Wc.seq (fun K2 hK2 => ?_)
  refine vs fun K3 hK3 => vR [(0, _), (1, _), (4, _)] ?_
  refine vM ?_
  refine vn (hK3 _ _ ?_)
  refine Wc.block ?_
  refine vK [(0, _), (1, _), (4, _), (17, _)] ?_
  refine Wc.loopC (ι := Nat) [(0, _), (1, _), (4, _)] (fun t => [(17, .int .i64 (t : Int))]) (fun t wi => t ≤ 64 ∧ WB wi g 121 (schedS l t) ∧ Fr (fun q => q ≠ g) w6 wi) (fun t => 64 - t) (0) (.co (.cons rfl (.cons rfl (.cons rfl (.nil))))) (⟨by omega, hg6, Fr.refl _ _⟩) ?_
  intro t wi hJ KL1 hKL1
  obtain ⟨ht, hgt, hF⟩ := hJ
  have hsl := schedS_len l t
  refine vs fun K4 hK4 => vR [(0, _), (1, _), (4, _), (17, _)] ?_
  refine vl (Gives.lss rfl rfl rfl) ?_
  refine vn (hK4 _ _ ?_)
  refine Wc.seq (fun K5 hK5 => ?_)
  refine Wc.cond _ rfl (fun h18 => ?_) (fun h18 => ?_)
  · first | replace h18 := dT h18 | replace h18 := nT h18 | skip
    refine Wc.skip ?_
    refine Wx.thenN (hK5 _ _ ?_)
    refine Wc.seq (fun K6 hK6 => ?_)
    refine Wc.block ?_
    refine vs fun K7 hK7 => vR [(0, _), (1, _), (4, _), (17, _)] ?_
    refine vM ?_
    refine vA ?_
    refine vn (hK7 _ _ ?_)
    refine Wc.seq (fun K8 hK8 => ?_)
    refine vs fun K9 hK9 => vR [(0, _), (1, _), (4, _), (5, _), (17, _)] ?_
    refine vM ?_
    refine vl (Gives.lss rfl rfl rfl) ?_
    refine vn (hK9 _ _ ?_)
    refine Wc.cond _ rfl (fun h21 => ?_) (fun h21 => ?_)
    · first | replace h21 := dT h21 | replace h21 := nT h21 | skip
      refine vs fun K10 hK10 => vR [(0, _), (1, _), (4, _), (5, _), (17, _)] ?_
      refine vM ?_
      refine vM ?_
      refine vM ?_
      refine Wl.call rfl rfl rfl rfl Tryd.func95 rfl (by kernel_rfl) rfl (wordP_calls wi _ 64 _ l (hxo.fr hF) t (by omega)) ?_
      rintro x5 w12 ⟨rfl, hq12⟩
      refine ⟨_, rfl, ?_⟩
      refine vl (Gives.ixA (i := t) rfl Tryd.underlying121 (by kernel_rfl) rfl rfl (by omega) (by omega)) ?_
      refine Wl.acts rfl rfl (Does.stW rfl rfl rfl (hgt.ext hq12.ext) (by kernel_rfl) (by rw [hsl]; omega)) ?_
      rintro _ w13 ⟨hg13, hF13⟩
      refine vn (hK10 _ _ ?_)
      refine Wc.exit ?_
      refine Wx.thenE ?_
      refine Wx.hit ?_
      refine Wx.thenN (hK6 _ _ ?_)
      refine vR [(0, _), (1, _), (4, _), (17, _)] ?_
      refine vAdd ?_
      refine vM ?_
      refine Wl.nil ?_
      refine Wx.thenN ?_
      refine hKL1 (t + 1) _ _ (.co (.cons rfl (.cons rfl (.cons rfl (.nil))))) ⟨by omega, by rw [sched_lo _ _ (by omega)]; rw [Nat.zero_add] at hg13; exact hg13, (hF.ext hq12.ext).trans hF13⟩ (by omega)
    first | replace h21 := dF h21 | replace h21 := nF h21 | skip
    refine Wc.skip ?_
    refine Wx.thenN (hK8 _ _ ?_)
    refine vs fun K11 hK11 => vK [(0, _), (1, _), (4, _), (5, _), (17, _)] ?_
    refine Wc.regionD (fun _ => true) Eq (.read 0 (.read 1 (.read 2 (.read 3 (.read 4 (.read 5 (.read 6 (.read 7 (.read 8 .tail))))))))) 9 (by kernel_rfl) (by kernel_rfl) (by kernel_rfl) (fun _ => rfl) (fun _ _ _ h k => h.trans k) Quiet ⟨1, rfl⟩ ?_
    intro w6 hR6
    have hc13 : ∀ i x, (schedS l t)[i]? = some x → w6.cell? ⟨g, 0 + i, none⟩ = some (.int .u32 (x.toNat : Int)) := fun i x hx => (hR6.cell _).trans (hgt.cell0 hx)
    refine rE rfl (Gives.move rfl rfl) ?_
    refine rE rfl (gSub rfl rfl rfl) ?_
    refine rE rfl (Gives.ixA (i := t - 15) rfl Tryd.underlying121 (by kernel_rfl) rfl rfl (by omega) (by omega)) ?_
    refine rE rfl (Gives.ldC rfl (by kernel_rfl) rfl (hc13 _ _ (gw_some _ (t - 15) (by omega)))) ?_
    refine rE rfl (Gives.move rfl rfl) ?_
    refine rE rfl (gSub rfl rfl rfl) ?_
    refine rE rfl (Gives.ixA (i := t - 2) rfl Tryd.underlying121 (by kernel_rfl) rfl rfl (by omega) (by omega)) ?_
    refine rE rfl (Gives.ldC rfl (by kernel_rfl) rfl (hc13 _ _ (gw_some _ (t - 2) (by omega)))) ?_
    refine rE rfl (Gives.assign rfl rfl) ?_
    refine RunE.tail rfl ?_
    refine vA ?_
    refine vn (hK11 _ _ ?_)
    refine vs fun K12 hK12 => vR [(0, _), (1, _), (4, _), (5, _), (6, _), (7, _), (17, _)] ?_
    refine vM ?_
    refine vl (Gives.call rfl Tryd.func96 rfl (by kernel_rfl) rfl (rotl_calls _ _ _ (by omega) (by omega))) ?_
    refine vM ?_
    refine vl (Gives.call rfl Tryd.func96 rfl (by kernel_rfl) rfl (rotl_calls _ _ _ (by omega) (by omega))) ?_
    refine vl (Gives.u32xor rfl rfl rfl) ?_
    refine vM ?_
    refine vl (Gives.u32shr 3 rfl rfl rfl (by omega)) ?_
    refine vl (Gives.u32xor rfl rfl rfl) ?_
    refine vA ?_
    refine vn (hK12 _ _ ?_)
    refine vs fun K13 hK13 => vR [(0, _), (1, _), (4, _), (5, _), (7, _), (8, _), (17, _)] ?_
    refine vM ?_
    refine vl (Gives.call rfl Tryd.func96 rfl (by kernel_rfl) rfl (rotl_calls _ _ _ (by omega) (by omega))) ?_
    refine vM ?_
    refine vl (Gives.call rfl Tryd.func96 rfl (by kernel_rfl) rfl (rotl_calls _ _ _ (by omega) (by omega))) ?_
    refine vl (Gives.u32xor rfl rfl rfl) ?_
    refine vM ?_
    refine vl (Gives.u32shr 10 rfl rfl rfl (by omega)) ?_
    refine vl (Gives.u32xor rfl rfl rfl) ?_
    refine vA ?_
    refine vn (hK13 _ _ ?_)
    refine vK [(0, _), (1, _), (4, _), (5, _), (8, _), (9, _), (17, _)] ?_
    refine Wc.regionD (fun _ => true) Eq (.read 0 (.read 1 (.read 2 (.read 3 (.read 4 (.read 5 (.read 6 (.read 7 (.read 8 (.read 9 (.read 10 (.read 11 (.read 12 (.read 13 .tail)))))))))))))) 14 (by kernel_rfl) (by kernel_rfl) (by kernel_rfl) (fun _ => rfl) (fun _ _ _ h k => h.trans k) Quiet ⟨1, rfl⟩ ?_
    intro w9 hR9
    have hc15 : ∀ i x, (schedS l t)[i]? = some x → w9.cell? ⟨g, 0 + i, none⟩ = some (.int .u32 (x.toNat : Int)) := fun i x hx => (hR9.cell _).trans ((hR6.cell _).trans (hgt.cell0 hx))
    have hQ15 := hR6.trans hR9
    refine rE rfl (Gives.move rfl rfl) ?_
    refine rE rfl (Gives.move rfl rfl) ?_
    refine rE rfl (Gives.move rfl rfl) ?_
    refine rE rfl (gSub rfl rfl rfl) ?_
    refine rE rfl (Gives.ixA (i := t - 7) rfl Tryd.underlying121 (by kernel_rfl) rfl rfl (by omega) (by omega)) ?_
    refine rE rfl (Gives.ldC rfl (by kernel_rfl) rfl (hc15 _ _ (gw_some _ (t - 7) (by omega)))) ?_
    refine rE rfl (Gives.u32add rfl rfl rfl) ?_
    refine rE rfl (Gives.move rfl rfl) ?_
    refine rE rfl (Gives.u32add rfl rfl rfl) ?_
    refine rE rfl (Gives.move rfl rfl) ?_
    refine rE rfl (gSub rfl rfl rfl) ?_
    refine rE rfl (Gives.ixA (i := t - 16) rfl Tryd.underlying121 (by kernel_rfl) rfl rfl (by omega) (by omega)) ?_
    refine rE rfl (Gives.ldC rfl (by kernel_rfl) rfl (hc15 _ _ (gw_some _ (t - 16) (by omega)))) ?_
    refine rE rfl (Gives.u32add rfl rfl rfl) ?_
    refine RunE.tail rfl ?_
    refine vl (Gives.ixA (i := t) rfl Tryd.underlying121 (by kernel_rfl) rfl rfl (by omega) (by omega)) ?_
    refine Wl.acts rfl rfl (Does.stW rfl rfl rfl (hgt.ext hQ15.ext) (by kernel_rfl) (by rw [hsl]; omega)) ?_
    rintro _ w16 ⟨hg16, hF16⟩
    refine Wl.nil ?_
    refine Wx.blockN ?_
    refine Wx.thenN (hK6 _ _ ?_)
    refine vR [(0, _), (1, _), (4, _), (17, _)] ?_
    refine vAdd ?_
    refine vM ?_
    refine Wl.nil ?_
    refine Wx.thenN ?_
    refine hKL1 (t + 1) _ _ (.co (.cons rfl (.cons rfl (.cons rfl (.nil))))) ⟨by omega, by rw [sched_hi _ _ (by omega)]; rw [Nat.zero_add] at hg16; exact hg16, (hF.ext hQ15.ext).trans hF16⟩ (by omega)
  first | replace h18 := dF h18 | replace h18 := nF h18 | skip
  refine Wc.exit ?_
  refine Wx.thenE ?_
  refine Wx.thenE ?_
  refine Wx.hit ?_
  refine Wx.thenN (hK2 _ _ ?_)
  refine vs fun K14 hK14 => vK [(0, _), (4, _)] ?_
  obtain rfl : t = 64 := by omega
  have hh11 : WB wi gh 104 s.l := (hh.ext hE6).fr hF (by omega)
  have hT11 : Tab wi := (hT.ext hE6).fr hF (by omega)
  have hghi : gh < wi.heap.size := hh11.lt
  have hgi : g < wi.heap.size := hgt.lt
  refine Wc.region ?_
  refine vM ?_
  refine vl (Gives.nilCheck rfl rfl) ?_
  refine vl (Gives.ldB rfl (by kernel_rfl) rfl (by kernel_rfl) hh11) ?_
  refine Wl.does rfl rfl rfl (Does.alB (.agg (u32s (List.replicate 8 0)).toArray) rfl info8 rfl) ?_
  rintro _ w17 ⟨gs, rfl, hgs, hk17, hE17⟩
  refine Wl.acts rfl rfl (Does.stB rfl rfl rfl hk17 (by kernel_rfl) (by rfl) (u32s_all _)) ?_
  rintro _ w18 ⟨hk18, hF18⟩
  replace hk18 : WB w18 gs 104 s.l := hk18
  refine vn (hK14 _ _ ?_)
  refine Wc.seq (fun K15 hK15 => ?_)
  refine vs fun K16 hK16 => vR [(0, _), (4, _), (10, _)] ?_
  refine vM ?_
  refine vn (hK16 _ _ ?_)
  refine Wc.block ?_
  refine vK [(0, _), (4, _), (10, _), (70, _)] ?_
  refine Wc.loopC (ι := Nat) [(0, _), (4, _), (10, _)] (fun t => [(70, .int .i64 (t : Int))]) (fun t wj => t ≤ 64 ∧ Fr (fun q => q ≠ gs) w17 wj ∧ WB wj gs 104 (roundsS (schedS l 64) s t).l) (fun t => 64 - t) (0) (.co (.cons rfl (.cons rfl (.cons rfl (.nil))))) (⟨by omega, hF18, hk18⟩) ?_
  intro t wj hJ KL2 hKL2
  obtain ⟨ht, hFj, hs⟩ := hJ
  obtain ⟨st, hst⟩ : ∃ st, st = roundsS (schedS l 64) s t := ⟨_, rfl⟩
  rw [← hst] at hs
  refine vs fun K17 hK17 => vR [(0, _), (4, _), (10, _), (70, _)] ?_
  refine vl (Gives.lss rfl rfl rfl) ?_
  refine vn (hK17 _ _ ?_)
  refine Wc.seq (fun K18 hK18 => ?_)
  refine Wc.cond _ rfl (fun h71 => ?_) (fun h71 => ?_)
  · first | replace h71 := dT h71 | replace h71 := nT h71 | skip
    refine Wc.skip ?_
    refine Wx.thenN (hK18 _ _ ?_)
    refine Wc.seq (fun K19 hK19 => ?_)
    refine Wc.block ?_
    refine vs fun K20 hK20 => vR [(0, _), (4, _), (10, _), (70, _)] ?_
    refine vM ?_
    refine vA ?_
    refine vn (hK20 _ _ ?_)
    refine vs fun K21 hK21 => vK [(0, _), (4, _), (10, _), (11, _), (70, _)] ?_
    refine Wc.regionD (fun _ => true) Eq (.read 0 (.read 1 (.read 2 (.read 3 (.read 4 .tail))))) 5 (by kernel_rfl) (by kernel_rfl) (by kernel_rfl) (fun _ => rfl) (fun _ _ _ h k => h.trans k) Quiet ⟨1, rfl⟩ ?_
    intro w15 hR15
    have hs15 := hs.ext hR15.ext
    refine rE rfl (Gives.ixA (i := 0) rfl Tryd.underlying104 (by kernel_rfl) rfl rfl rfl (by omega)) ?_
    refine rE rfl (Gives.ldC rfl (by kernel_rfl) rfl (hs15.cell0 (i := 0) (x := st.a) rfl)) ?_
    refine rE rfl (Gives.ixA (i := 4) rfl Tryd.underlying104 (by kernel_rfl) rfl rfl rfl (by omega)) ?_
    refine rE rfl (Gives.ldC rfl (by kernel_rfl) rfl (hs15.cell0 (i := 4) (x := st.e) rfl)) ?_
    refine rE rfl (Gives.assign rfl rfl) ?_
    refine RunE.tail rfl ?_
    refine vA ?_
    refine vn (hK21 _ _ ?_)
    refine vs fun K22 hK22 => vK [(0, _), (4, _), (10, _), (11, _), (12, _), (13, _), (70, _)] ?_
    refine Wc.regionD (fun _ => true) Eq (.read 0 (.read 1 (.read 2 (.read 3 (.read 4 (.read 5 (.read 6 (.read 7 (.read 8 (.read 9 (.read 10 (.read 11 (.read 12 (.read 13 (.read 14 (.read 15 (.read 16 (.read 17 (.read 18 (.read 19 (.read 20 (.read 21 (.read 22 (.read 23 (.read 24 (.read 25 (.read 26 (.read 27 (.read 28 .tail))))))))))))))))))))))))))))) 29 (by kernel_rfl) (by kernel_rfl) (by kernel_rfl) (fun _ => rfl) (fun _ _ _ h k => h.trans k) Quiet ⟨1, rfl⟩ ?_
    intro w16 hR16
    have hQ16 := hR15.trans hR16
    have hs16 := hs.ext hQ16.ext
    have hk16 : Tab w16 := Tab.ext (GV.fr (hT11.ext hE17) hFj (by have := hT11.lt; omega)) hQ16.ext
    have hg16 : WB w16 g 121 (schedS l 64) := WB.ext (WB.fr (WB.ext hgt hE17) hFj (by omega)) hQ16.ext
    refine rE rfl (Gives.ixA (i := 7) rfl Tryd.underlying104 (by kernel_rfl) rfl rfl rfl (by omega)) ?_
    refine rE rfl (Gives.ldC rfl (by kernel_rfl) rfl (hs16.cell0 (i := 7) (x := st.h) rfl)) ?_
    refine rE rfl (Gives.move rfl rfl) ?_
    refine rE rfl (Gives.call rfl Tryd.func96 rfl (by kernel_rfl) rfl (rotl_calls _ _ _ (by omega) (by omega))) ?_
    refine rE rfl (Gives.move rfl rfl) ?_
    refine rE rfl (Gives.call rfl Tryd.func96 rfl (by kernel_rfl) rfl (rotl_calls _ _ _ (by omega) (by omega))) ?_
    refine rE rfl (Gives.u32xor rfl rfl rfl) ?_
    refine rE rfl (Gives.move rfl rfl) ?_
    refine rE rfl (Gives.call rfl Tryd.func96 rfl (by kernel_rfl) rfl (rotl_calls _ _ _ (by omega) (by omega))) ?_
    refine rE rfl (Gives.u32xor rfl rfl rfl) ?_
    refine rE rfl (Gives.u32add rfl rfl rfl) ?_
    refine rE rfl (Gives.move rfl rfl) ?_
    refine rE rfl (Gives.ixA (i := 5) rfl Tryd.underlying104 (by kernel_rfl) rfl rfl rfl (by omega)) ?_
    refine rE rfl (Gives.ldC rfl (by kernel_rfl) rfl (hs16.cell0 (i := 5) (x := st.f) rfl)) ?_
    refine rE rfl (Gives.u32and rfl rfl rfl) ?_
    refine rE rfl (Gives.move rfl rfl) ?_
    refine rE rfl (Gives.u32not rfl rfl) ?_
    refine rE rfl (Gives.ixA (i := 6) rfl Tryd.underlying104 (by kernel_rfl) rfl rfl rfl (by omega)) ?_
    refine rE rfl (Gives.ldC rfl (by kernel_rfl) rfl (hs16.cell0 (i := 6) (x := st.g) rfl)) ?_
    refine rE rfl (Gives.u32and rfl rfl rfl) ?_
    refine rE rfl (Gives.u32xor rfl rfl rfl) ?_
    refine rE rfl (Gives.u32add rfl rfl rfl) ?_
    refine rE rfl (Gives.move rfl rfl) ?_
    refine rE rfl (Gives.ixA (i := _) rfl Tryd.underlying121 (by kernel_rfl) rfl rfl rfl (by omega)) ?_
    refine rE rfl (Gives.ldC rfl (by kernel_rfl) rfl (GV.cell0 hk16 (u32s_get (gw_some consts t (by rw [consts_len]; omega))))) ?_
    refine rE rfl (Gives.u32add rfl rfl rfl) ?_
    refine rE rfl (Gives.move rfl rfl) ?_
    refine rE rfl (Gives.ixA (i := _) rfl Tryd.underlying121 (by kernel_rfl) rfl rfl rfl (by omega)) ?_
    refine rE rfl (Gives.ldC rfl (by kernel_rfl) rfl (hg16.cell0 (gw_some (schedS l 64) t (by rw [schedS_len]; omega)))) ?_
    refine RunE.tail rfl ?_
    refine vl (Gives.u32add rfl rfl rfl) ?_
    refine vA ?_
    refine vn (hK22 _ _ ?_)
    refine vs fun K23 hK23 => vK [(0, _), (4, _), (10, _), (12, _), (14, _), (70, _)] ?_
    refine Wc.regionD (fun _ => true) Eq (.read 0 (.read 1 (.read 2 (.read 3 (.read 4 (.read 5 (.read 6 (.read 7 (.read 8 (.read 9 (.read 10 (.read 11 (.read 12 (.read 13 (.read 14 (.read 15 (.read 16 (.read 17 (.read 18 (.read 19 (.read 20 (.read 21 (.read 22 .tail))))))))))))))))))))))) 23 (by kernel_rfl) (by kernel_rfl) (by kernel_rfl) (fun _ => rfl) (fun _ _ _ h k => h.trans k) Quiet ⟨1, rfl⟩ ?_
    intro w17 hR17
    have hQ17 := hQ16.trans hR17
    have hs17 := hs.ext hQ17.ext
    refine rE rfl (Gives.move rfl rfl) ?_
    refine rE rfl (Gives.call rfl Tryd.func96 rfl (by kernel_rfl) rfl (rotl_calls _ _ _ (by omega) (by omega))) ?_
    refine rE rfl (Gives.move rfl rfl) ?_
    refine rE rfl (Gives.call rfl Tryd.func96 rfl (by kernel_rfl) rfl (rotl_calls _ _ _ (by omega) (by omega))) ?_
    refine rE rfl (Gives.u32xor rfl rfl rfl) ?_
    refine rE rfl (Gives.move rfl rfl) ?_
    refine rE rfl (Gives.call rfl Tryd.func96 rfl (by kernel_rfl) rfl (rotl_calls _ _ _ (by omega) (by omega))) ?_
    refine rE rfl (Gives.u32xor rfl rfl rfl) ?_
    refine rE rfl (Gives.move rfl rfl) ?_
    refine rE rfl (Gives.ixA (i := 1) rfl Tryd.underlying104 (by kernel_rfl) rfl rfl rfl (by omega)) ?_
    refine rE rfl (Gives.ldC rfl (by kernel_rfl) rfl (hs17.cell0 (i := 1) (x := st.b) rfl)) ?_
    refine rE rfl (Gives.u32and rfl rfl rfl) ?_
    refine rE rfl (Gives.move rfl rfl) ?_
    refine rE rfl (Gives.ixA (i := 2) rfl Tryd.underlying104 (by kernel_rfl) rfl rfl rfl (by omega)) ?_
    refine rE rfl (Gives.ldC rfl (by kernel_rfl) rfl (hs17.cell0 (i := 2) (x := st.c) rfl)) ?_
    refine rE rfl (Gives.u32and rfl rfl rfl) ?_
    refine rE rfl (Gives.u32xor rfl rfl rfl) ?_
    refine rE rfl (Gives.ixA (i := 1) rfl Tryd.underlying104 (by kernel_rfl) rfl rfl rfl (by omega)) ?_
    refine rE rfl (Gives.ldC rfl (by kernel_rfl) rfl (hs17.cell0 (i := 1) (x := st.b) rfl)) ?_
    refine rE rfl (Gives.ixA (i := 2) rfl Tryd.underlying104 (by kernel_rfl) rfl rfl rfl (by omega)) ?_
    refine rE rfl (Gives.ldC rfl (by kernel_rfl) rfl (hs17.cell0 (i := 2) (x := st.c) rfl)) ?_
    refine rE rfl (Gives.u32and rfl rfl rfl) ?_
    refine rE rfl (Gives.u32xor rfl rfl rfl) ?_
    refine RunE.tail rfl ?_
    refine vl (Gives.u32add rfl rfl rfl) ?_
    refine vA ?_
    refine vn (hK23 _ _ ?_)
    refine vR [(0, _), (4, _), (10, _), (14, _), (15, _), (70, _)] ?_
    refine vM ?_
    refine vM ?_
    refine vl (Gives.u32add rfl rfl rfl) ?_
    refine vl (Gives.ixA (i := 0) rfl Tryd.underlying104 (by kernel_rfl) rfl rfl rfl (by omega)) ?_
    refine vl (Gives.ldC rfl (by kernel_rfl) rfl (hs17.cell0 (i := 0) (x := st.a) rfl)) ?_
    refine vl (Gives.ixA (i := 1) rfl Tryd.underlying104 (by kernel_rfl) rfl rfl rfl (by omega)) ?_
    refine vl (Gives.ldC rfl (by kernel_rfl) rfl (hs17.cell0 (i := 1) (x := st.b) rfl)) ?_
    refine vl (Gives.ixA (i := 2) rfl Tryd.underlying104 (by kernel_rfl) rfl rfl rfl (by omega)) ?_
    refine vl (Gives.ldC rfl (by kernel_rfl) rfl (hs17.cell0 (i := 2) (x := st.c) rfl)) ?_
    refine vl (Gives.ixA (i := 3) rfl Tryd.underlying104 (by kernel_rfl) rfl rfl rfl (by omega)) ?_
    refine vl (Gives.ldC rfl (by kernel_rfl) rfl (hs17.cell0 (i := 3) (x := st.d) rfl)) ?_
    refine vM ?_
    refine vl (Gives.u32add rfl rfl rfl) ?_
    refine vl (Gives.ixA (i := 4) rfl Tryd.underlying104 (by kernel_rfl) rfl rfl rfl (by omega)) ?_
    refine vl (Gives.ldC rfl (by kernel_rfl) rfl (hs17.cell0 (i := 4) (x := st.e) rfl)) ?_
    refine vl (Gives.ixA (i := 5) rfl Tryd.underlying104 (by kernel_rfl) rfl rfl rfl (by omega)) ?_
    refine vl (Gives.ldC rfl (by kernel_rfl) rfl (hs17.cell0 (i := 5) (x := st.f) rfl)) ?_
    refine vl (Gives.ixA (i := 6) rfl Tryd.underlying104 (by kernel_rfl) rfl rfl rfl (by omega)) ?_
    refine vl (Gives.ldC rfl (by kernel_rfl) rfl (hs17.cell0 (i := 6) (x := st.g) rfl)) ?_
    refine vl (Gives.buildA1 rfl Tryd.underlying104 (by kernel_rfl) (by kernel_rfl) rfl rfl rfl) ?_
    refine Wl.acts rfl rfl (Does.stL 8 rfl rfl rfl hs17 (by kernel_rfl) rfl rfl rfl) ?_
    rintro _ w24 ⟨hk24, hF24⟩
    replace hk24 : WB w24 gs 104 (roundS st (gw consts t) (gw (schedS l 64) t)).l := hk24
    refine Wl.nil ?_
    refine Wx.blockN ?_
    refine Wx.thenN (hK19 _ _ ?_)
    refine vR [(0, _), (4, _), (10, _), (70, _)] ?_
    refine vAdd ?_
    refine vM ?_
    refine Wl.nil ?_
    refine Wx.thenN ?_
    refine hKL2 (t + 1) _ _ (.co (.cons rfl (.cons rfl (.cons rfl (.nil))))) ⟨by omega, (hFj.ext hQ17.ext).trans hF24, by rw [roundsS_succ, ← hst]; exact hk24⟩ (by omega)
  first | replace h71 := dF h71 | replace h71 := nF h71 | skip
  refine Wc.exit ?_
  refine Wx.thenE ?_
  refine Wx.thenE ?_
  refine Wx.hit ?_
  refine Wx.thenN (hK15 _ _ ?_)
  refine vs fun K24 hK24 => vK [(0, _), (10, _)] ?_
  obtain rfl : t = 64 := by omega
  have hh24 : WB wj gh 104 (addK s.l st.l 0) := (WB.ext hh11 hE17).fr hFj (by omega)
  refine Wc.region ?_
  refine vM ?_
  refine vn (hK24 _ _ ?_)
  refine Wc.block ?_
  refine vK [(0, _), (10, _), (152, _)] ?_
  refine Wc.loopC (ι := Nat) [(0, _), (10, _)] (fun i => [(152, .int .i64 (i : Int))]) (fun i wm => i ≤ 8 ∧ WB wm gh 104 (addK s.l st.l i) ∧ Fr (fun q => q ≠ gh) wj wm) (fun i => 8 - i) (0) (.co (.cons rfl (.cons rfl (.nil)))) (⟨by omega, hh24, Fr.refl _ _⟩) ?_
  intro i wm hJ KL3 hKL3
  obtain ⟨hi, hm, hFm⟩ := hJ
  have hml : (addK s.l st.l i).length = 8 := addK_len s.l st.l i rfl
  refine vs fun K25 hK25 => vR [(0, _), (10, _), (152, _)] ?_
  refine vl (Gives.lss rfl rfl rfl) ?_
  refine vn (hK25 _ _ ?_)
  refine Wc.seq (fun K26 hK26 => ?_)
  refine Wc.cond _ rfl (fun h153 => ?_) (fun h153 => ?_)
  · first | replace h153 := dT h153 | replace h153 := nT h153 | skip
    refine Wc.skip ?_
    refine Wx.thenN (hK26 _ _ ?_)
    refine Wc.seq (fun K27 hK27 => ?_)
    refine Wc.block ?_
    refine vs fun K28 hK28 => vR [(0, _), (10, _), (152, _)] ?_
    refine vM ?_
    refine vA ?_
    refine vn (hK28 _ _ ?_)
    refine vK [(0, _), (10, _), (16, _), (152, _)] ?_
    refine Wc.regionD (fun _ => true) Eq (.read 0 (.read 1 (.read 2 (.read 3 (.read 4 (.read 5 (.read 6 (.read 7 (.read 8 (.read 9 .tail)))))))))) 10 (by kernel_rfl) (by kernel_rfl) (by kernel_rfl) (fun _ => rfl) (fun _ _ _ h k => h.trans k) Quiet ⟨1, rfl⟩ ?_
    intro w23 hR23
    have hc27 : i < 8 → w23.cell? ⟨gh, 0 + i, none⟩ = some (.int .u32 ((gw s.l i).toNat : Int)) := fun h8 => (hR23.cell _).trans (hm.cell0 ((addK_at s.l st.l i h8 (Nat.le_refl 8)).trans (gw_some s.l i h8)))
    have hd27 : i < 8 → w23.cell? ⟨gs, 0 + i, none⟩ = some (.int .u32 ((gw st.l i).toNat : Int)) := fun h8 => (hR23.cell _).trans ((hs.fr hFm (by omega)).cell0 (gw_some st.l i h8))
    refine rE rfl (Gives.move rfl rfl) ?_
    refine rE rfl (Gives.move rfl rfl) ?_
    refine rE rfl (Gives.nilCheck rfl rfl) ?_
    refine rE rfl (Gives.ixA (i := _) rfl Tryd.underlying104 (by kernel_rfl) rfl rfl rfl (by omega)) ?_
    refine rE rfl (Gives.ldC rfl (by kernel_rfl) rfl (hc27 (by omega))) ?_
    refine rE rfl (Gives.move rfl rfl) ?_
    refine rE rfl (Gives.ixA (i := _) rfl Tryd.underlying104 (by kernel_rfl) rfl rfl rfl (by omega)) ?_
    refine rE rfl (Gives.ldC rfl (by kernel_rfl) rfl (hd27 (by omega))) ?_
    refine rE rfl (Gives.u32add rfl rfl rfl) ?_
    refine rE rfl (Gives.nilCheck rfl rfl) ?_
    refine RunE.tail rfl ?_
    refine vl (Gives.ixA (i := _) rfl Tryd.underlying104 (by kernel_rfl) rfl rfl rfl (by omega)) ?_
    refine Wl.acts rfl rfl (Does.stW rfl rfl rfl (hm.ext hR23.ext) (by kernel_rfl) (by rw [hml]; omega)) ?_
    rintro _ w28 ⟨hm28, hF28⟩
    refine Wl.nil ?_
    refine Wx.blockN ?_
    refine Wx.thenN (hK27 _ _ ?_)
    refine vR [(0, _), (10, _), (152, _)] ?_
    refine vAdd ?_
    refine vM ?_
    refine Wl.nil ?_
    refine Wx.thenN ?_
    refine hKL3 (i + 1) _ _ (.co (.cons rfl (.cons rfl (.nil)))) ⟨by omega, by rw [addK_step _ _ _ _ _ (gw_some s.l i (by show i < 8; omega)) (gw_some st.l i (by show i < 8; omega))]; simpa using hm28, (hFm.ext hR23.ext).trans hF28⟩ (by omega)
  first | replace h153 := dF h153 | replace h153 := nF h153 | skip
  refine Wc.exit ?_
  refine Wx.thenE ?_
  refine Wx.thenE ?_
  refine Wx.hit ?_
  refine Wx.end_ [] trivial ?_
  obtain rfl : i = 8 := by omega
  refine ⟨rfl, by rw [blockS_take s l hl64, ← hst]; exact hm, ?_⟩
  have h1 : Fr (fun q => q ≠ gh) w wi := Fr.over hE6.fr hF hg
  have h2 : Fr (fun q => q ≠ gh) w wj := Fr.over (h1.ext hE17) hFj (by have := h1.size; omega)
  exact h2.trans hFm
end Go.Proofs.YtnbgieccindpnaaDoor
