/- SHA-1: plain words, the program and the reference. -/
import Derived.Test.YtnbgieccindpnaaDoorHashP4
import Derived.Test.YtnbgieccindpnaaDoorHashV3
import Derived.Test.YtnbgieccindpnaaDoorVcA
import Derived.Test.YtnbgieccindpnaaDoorOwn
namespace Go.Proofs.YtnbgieccindpnaaDoor
set_option linter.all false
set_option maxRecDepth 20000
open Go.RowKit
/-- a word rotated to the left -/
def rl (x : UInt32) (n : Nat) : UInt32 := (x <<< UInt32.ofNat n) ||| (x >>> UInt32.ofNat (32 - n))
def sch1 (b : List UInt8) : Nat → List UInt32
  | 0 => List.replicate 80 0
  | t + 1 => (sch1 b t).set t (if t < 16 then wordS b t else rl (((gw (sch1 b t) (t - 3) ^^^ gw (sch1 b t) (t - 8)) ^^^ gw (sch1 b t) (t - 14)) ^^^ gw (sch1 b t) (t - 16)) 1)
theorem sch1_len (b : List UInt8) (t : Nat) : (sch1 b t).length = 80 := by
  induction t with
  | zero => simp [sch1]
  | succ t ih => simp [sch1, ih]
theorem sch1_lo (b : List UInt8) (t : Nat) (h : t < 16) : sch1 b (t + 1) = (sch1 b t).set t (wordS b t) := by
  show (sch1 b t).set t _ = _
  rw [if_pos h]
theorem sch1_hi (b : List UInt8) (t : Nat) (h : 16 ≤ t) : sch1 b (t + 1) = (sch1 b t).set t (rl (((gw (sch1 b t) (t - 3) ^^^ gw (sch1 b t) (t - 8)) ^^^ gw (sch1 b t) (t - 14)) ^^^ gw (sch1 b t) (t - 16)) 1) := by
  show (sch1 b t).set t _ = _
  rw [if_neg (by omega)]
structure S5 where
  a : UInt32
  b : UInt32
  c : UInt32
  d : UInt32
  e : UInt32
def S5.l (s : S5) : List UInt32 := [s.a, s.b, s.c, s.d, s.e]
def f1S (t : Nat) (s : S5) : UInt32 := if t < 20 then (s.b &&& s.c) ^^^ (~~~ s.b &&& s.d) else if t < 40 then (s.b ^^^ s.c) ^^^ s.d else if t < 60 then ((s.b &&& s.c) ^^^ (s.b &&& s.d)) ^^^ (s.c &&& s.d) else (s.b ^^^ s.c) ^^^ s.d
def k1S (t : Nat) : UInt32 := if t < 20 then 0x5a827999 else if t < 40 then 0x6ed9eba1 else if t < 60 then 0x8f1bbcdc else 0xca62c1d6
def rnd1 (s : S5) (t : Nat) (w : UInt32) : S5 := ⟨(((rl s.a 5 + f1S t s) + s.e) + k1S t) + w, s.a, rl s.b 30, s.c, s.d⟩
def rnds1 (w : List UInt32) (s : S5) : Nat → S5
  | 0 => s
  | t + 1 => rnd1 (rnds1 w s t) t (gw w t)
def add5 (s t : S5) : S5 := ⟨s.a + t.a, s.b + t.b, s.c + t.c, s.d + t.d, s.e + t.e⟩
def block1 (s : S5) (b : List UInt8) : S5 := add5 s (rnds1 (sch1 b 80) s 80)
def iv1 : S5 := ⟨0x67452301, 0xefcdab89, 0x98badcfe, 0x10325476, 0xc3d2e1f0⟩
def blocks1 (x : List UInt8) (s : S5) : Nat → S5
  | 0 => s
  | k + 1 => block1 (blocks1 x s k) ((x.drop (64 * k)).take 64)
def sha1S (b : List UInt8) : List UInt8 := bytesS (blocks1 (padS b) iv1 ((padS b).length / 64)).l
theorem sha1S_len (b : List UInt8) : (sha1S b).length = 20 := by unfold sha1S; rw [bytesS_len]; rfl
theorem info80 : (Tryd.prog.info? 118).bind (·.zero) = some (.agg (u32s (List.replicate 80 0)).toArray) := by kernel_rfl
/-! rotations -/
theorem rot_pos (m : Nat) (h1 : 1 ≤ m) (h2 : m ≤ 31) : bits .and .u64 (IntKind.u64.wrap (m : Int)) 31 = (m : Int) := by
  have h : ∀ q : Fin 31, bits .and .u64 (IntKind.u64.wrap ((q.val + 1 : Nat) : Int)) 31 = ((q.val + 1 : Nat) : Int) := by decide +kernel
  have := h ⟨m - 1, by omega⟩
  simpa [show m - 1 + 1 = m by omega] using this
theorem rotlQ (w : World) (x : UInt32) (z : Int) (h1 : 1 ≤ z) (h2 : z ≤ 31) :
    Calls Tryd.prog 96 #[.int .u32 (x.toNat : Int), .int .i64 z] w fun e w' => e = .returned (.int .u32 ((rl x z.toNat).toNat : Int)) ∧ w = w' := by
  obtain ⟨m, rfl⟩ := Int.eq_ofNat_of_zero_le (show 0 ≤ z by omega)
  refine calls_enter Tryd.func96 rfl Tryd.ntmps96 rfl ?_
  refine vs fun K1 hK1 => vR [(0, _), (1, _)] ?_
  refine vA ?_
  refine vn (hK1 _ _ ?_)
  refine vs fun K2 hK2 => vR [(0, _), (1, _)] ?_
  refine vM ?_
  refine vl (Gives.conv rfl Tryd.underlying3 Tryd.underlying73 rfl rfl) ?_
  refine vl (Gives.bits .and (by simp) rfl rfl rfl (rot_pos m (by omega) (by omega))) ?_
  refine vA ?_
  refine vn (hK2 _ _ ?_)
  refine vs fun K3 hK3 => vR [(0, _), (5, _)] ?_
  refine vM ?_
  refine vM ?_
  refine vl (Gives.u32shl m rfl rfl rfl (by omega)) ?_
  refine vM ?_
  refine vM ?_
  refine vl (Gives.sub rfl rfl rfl (show IntKind.u64.wrap (32 - ((m : Nat) : Int)) = ((32 - m : Nat) : Int) by rw [u64_in _ (by omega)]; omega)) ?_
  refine vl (Gives.u32shr (32 - m) rfl rfl rfl (by omega)) ?_
  refine vl (Gives.u32or rfl rfl rfl) ?_
  refine vA ?_
  refine vn (hK3 _ _ ?_)
  refine Wc.ret ?_
  refine Wx.ret [_] ⟨rfl, trivial⟩ ?_
  exact ⟨rfl, rfl⟩
theorem rotlR (w : World) (x : UInt32) (z : Int) (h1 : 1 ≤ z) (h2 : z ≤ 31) :
    Calls Tryd.prog 99 #[.int .u32 (x.toNat : Int), .int .u64 z] w fun e w' => e = .returned (.int .u32 ((rl x z.toNat).toNat : Int)) ∧ w = w' := by
  obtain ⟨m, rfl⟩ := Int.eq_ofNat_of_zero_le (show 0 ≤ z by omega)
  refine calls_enter Tryd.func99 rfl Tryd.ntmps99 rfl ?_
  refine vs fun K1 hK1 => vR [(0, _), (1, _)] ?_
  refine vA ?_
  refine vn (hK1 _ _ ?_)
  refine vs fun K2 hK2 => vR [(0, _), (1, _)] ?_
  refine vM ?_
  refine vM ?_
  refine vl (Gives.u32shl m rfl rfl rfl (by omega)) ?_
  refine vM ?_
  refine vM ?_
  refine vl (Gives.sub rfl rfl rfl (show IntKind.u64.wrap (32 - ((m : Nat) : Int)) = ((32 - m : Nat) : Int) by rw [u64_in _ (by omega)]; omega)) ?_
  refine vl (Gives.u32shr (32 - m) rfl rfl rfl (by omega)) ?_
  refine vl (Gives.u32or rfl rfl rfl) ?_
  refine vA ?_
  refine vn (hK2 _ _ ?_)
  refine Wc.ret ?_
  refine Wx.ret [_] ⟨rfl, trivial⟩ ?_
  exact ⟨rfl, rfl⟩
theorem quo20 (t : Nat) : IntKind.i64.wrap ((t : Int).tdiv 20) = IntKind.i64.wrap ((t / 20 : Nat) : Int) := by
  rw [Int.tdiv_eq_ediv_of_nonneg (by omega)]; rfl
theorem quo_in (t : Nat) (h : t ≤ 80) : IntKind.i64.wrap ((t / 20 : Nat) : Int) = ((t / 20 : Nat) : Int) := IntWalk.i64_in _ (by omega)
set_option maxRecDepth 100000 in
set_option maxHeartbeats 4000000 in
theorem compress1P (w : World) (gh : Nat) (s : S5) (hh : WB w gh 99 s.l) (A : Option Addr) (c : Nat) (l : List UInt8) (ha : BV w (fun q => q ≠ gh) A 64 c l) :
    Calls Tryd.prog 76 #[.pointer (some ⟨gh, 0, none⟩), .slice A 64 c] w fun e w' => e = .returned (.tuple #[]) ∧ WB w' gh 99 (block1 s l).l ∧ Fr (fun q => q ≠ gh) w w' := by
  have hl64 := ha.len
  have hle := ha.le
  refine calls_enter Tryd.func76 rfl Tryd.ntmps76 rfl ?_
  refine vs fun K1 hK1 => vR [(0, _), (1, _)] ?_
  refine Wl.does rfl rfl rfl (Does.alB (.agg (u32s (List.replicate 80 0)).toArray) rfl info80 rfl) ?_
  rintro _ w6 ⟨g, rfl, hg, hg6, hE6⟩
  replace hg6 : WB w6 g 118 (sch1 l 0) := hg6
  have hxo2 : BV w6 (fun q => q ≠ g ∧ q ≠ gh) A 64 c l := (ha.offs _ (fun q h hq => ⟨by omega, h⟩)).ext hE6
  have hxo : BV w6 (fun q => q ≠ g) A 64 c l := hxo2.mono (fun q h => h.1)
  have hghw := hh.lt
  refine vn (hK1 _ _ ?_)
  refine Wc.seq (fun K2 hK2 => ?_)
  refine vs fun K3 hK3 => vR [(0, _), (1, _), (4, _)] ?_
  refine vM ?_
  refine vn (hK3 _ _ ?_)
  refine Wc.block ?_
  refine vK [(0, _), (1, _), (4, _), (14, _)] ?_
  refine Wc.loopC (ι := Nat) [(0, _), (1, _), (4, _)] (fun t => [(14, .int .i64 (t : Int))]) (fun t wi => t ≤ 80 ∧ WB wi g 118 (sch1 l t) ∧ Fr (fun q => q ≠ g) w6 wi) (fun t => 80 - t) (0) (.co (.cons rfl (.cons rfl (.cons rfl (.nil))))) (⟨by omega, hg6, Fr.refl _ _⟩) ?_
  intro t wi hJ KL1 hKL1
  obtain ⟨ht, hgt, hF⟩ := hJ
  have hsl := sch1_len l t
  refine vs fun K4 hK4 => vR [(0, _), (1, _), (4, _), (14, _)] ?_
  refine vl (Gives.lss rfl rfl rfl) ?_
  refine vn (hK4 _ _ ?_)
  refine Wc.seq (fun K5 hK5 => ?_)
  refine Wc.cond _ rfl (fun h15 => ?_) (fun h15 => ?_)
  · first | replace h15 := dT h15 | replace h15 := nT h15 | skip
    refine Wc.skip ?_
    refine Wx.thenN (hK5 _ _ ?_)
    refine Wc.seq (fun K6 hK6 => ?_)
    refine Wc.block ?_
    refine vs fun K7 hK7 => vR [(0, _), (1, _), (4, _), (14, _)] ?_
    refine vM ?_
    refine vA ?_
    refine vn (hK7 _ _ ?_)
    refine vs fun K8 hK8 => vR [(0, _), (1, _), (4, _), (5, _), (14, _)] ?_
    refine vM ?_
    refine vl (Gives.lss rfl rfl rfl) ?_
    refine vn (hK8 _ _ ?_)
    refine Wc.cond _ rfl (fun h18 => ?_) (fun h18 => ?_)
    · first | replace h18 := dT h18 | replace h18 := nT h18 | skip
      refine vR [(0, _), (1, _), (4, _), (5, _), (14, _)] ?_
      refine vM ?_
      refine vM ?_
      refine vM ?_
      refine Wl.call rfl rfl rfl rfl Tryd.func95 rfl (by kernel_rfl) rfl (wordP_calls wi _ 64 _ l (hxo.fr hF) t (by omega)) ?_
      rintro x5 w12 ⟨rfl, hq12⟩
      refine ⟨_, rfl, ?_⟩
      refine vl (Gives.ixA (i := t) rfl Tryd.underlying118 (by kernel_rfl) rfl rfl (by omega) (by omega)) ?_
      refine Wl.acts rfl rfl (Does.stW rfl rfl rfl (hgt.ext hq12.ext) (by kernel_rfl) (by rw [hsl]; omega)) ?_
      rintro _ w13 ⟨hg13, hF13⟩
      refine Wl.nil ?_
      refine Wx.blockN ?_
      refine Wx.thenN (hK6 _ _ ?_)
      refine vR [(0, _), (1, _), (4, _), (14, _)] ?_
      refine vAdd ?_
      refine vM ?_
      refine Wl.nil ?_
      refine Wx.thenN ?_
      refine hKL1 (t + 1) _ _ (.co (.cons rfl (.cons rfl (.cons rfl (.nil))))) ⟨by omega, by rw [sch1_lo _ _ (by omega)]; rw [Nat.zero_add] at hg13; exact hg13, (hF.ext hq12.ext).trans hF13⟩ (by omega)
    first | replace h18 := dF h18 | replace h18 := nF h18 | skip
    refine vK [(0, _), (1, _), (4, _), (5, _), (14, _)] ?_
    refine Wc.regionD (fun _ => true) Eq (.read 0 (.read 1 (.read 2 (.read 3 (.read 4 (.read 5 (.read 6 (.read 7 (.read 8 (.read 9 (.read 10 (.read 11 (.read 12 (.read 13 (.read 14 (.read 15 (.read 16 (.read 17 (.read 18 (.read 19 (.read 20 .tail))))))))))))))))))))) 21 (by kernel_rfl) (by kernel_rfl) (by kernel_rfl) (fun _ => rfl) (fun _ _ _ h k => h.trans k) Quiet ⟨1, rfl⟩ ?_
    intro w6 hR6
    have hc13 : ∀ i x, (sch1 l t)[i]? = some x → w6.cell? ⟨g, 0 + i, none⟩ = some (.int .u32 (x.toNat : Int)) := fun i x hx => (hR6.cell _).trans (hgt.cell0 hx)
    refine rE rfl (Gives.move rfl rfl) ?_
    refine rE rfl (Gives.move rfl rfl) ?_
    refine rE rfl (gSub rfl rfl rfl) ?_
    refine rE rfl (Gives.ixA (i := t - 3) rfl Tryd.underlying118 (by kernel_rfl) rfl rfl (by omega) (by omega)) ?_
    refine rE rfl (Gives.ldC rfl (by kernel_rfl) rfl (hc13 _ _ (gw_some _ (t - 3) (by omega)))) ?_
    refine rE rfl (Gives.move rfl rfl) ?_
    refine rE rfl (gSub rfl rfl rfl) ?_
    refine rE rfl (Gives.ixA (i := t - 8) rfl Tryd.underlying118 (by kernel_rfl) rfl rfl (by omega) (by omega)) ?_
    refine rE rfl (Gives.ldC rfl (by kernel_rfl) rfl (hc13 _ _ (gw_some _ (t - 8) (by omega)))) ?_
    refine rE rfl (Gives.u32xor rfl rfl rfl) ?_
    refine rE rfl (Gives.move rfl rfl) ?_
    refine rE rfl (gSub rfl rfl rfl) ?_
    refine rE rfl (Gives.ixA (i := t - 14) rfl Tryd.underlying118 (by kernel_rfl) rfl rfl (by omega) (by omega)) ?_
    refine rE rfl (Gives.ldC rfl (by kernel_rfl) rfl (hc13 _ _ (gw_some _ (t - 14) (by omega)))) ?_
    refine rE rfl (Gives.u32xor rfl rfl rfl) ?_
    refine rE rfl (Gives.move rfl rfl) ?_
    refine rE rfl (gSub rfl rfl rfl) ?_
    refine rE rfl (Gives.ixA (i := t - 16) rfl Tryd.underlying118 (by kernel_rfl) rfl rfl (by omega) (by omega)) ?_
    refine rE rfl (Gives.ldC rfl (by kernel_rfl) rfl (hc13 _ _ (gw_some _ (t - 16) (by omega)))) ?_
    refine rE rfl (Gives.u32xor rfl rfl rfl) ?_
    refine rE rfl (Gives.call rfl Tryd.func96 rfl (by kernel_rfl) rfl (rotlQ _ _ _ (by omega) (by omega))) ?_
    refine RunE.tail rfl ?_
    refine vl (Gives.ixA (i := t) rfl Tryd.underlying118 (by kernel_rfl) rfl rfl (by omega) (by omega)) ?_
    refine Wl.acts rfl rfl (Does.stW rfl rfl rfl (hgt.ext hR6.ext) (by kernel_rfl) (by rw [hsl]; omega)) ?_
    rintro _ w16 ⟨hg16, hF16⟩
    refine Wl.nil ?_
    refine Wx.blockN ?_
    refine Wx.thenN (hK6 _ _ ?_)
    refine vR [(0, _), (1, _), (4, _), (14, _)] ?_
    refine vAdd ?_
    refine vM ?_
    refine Wl.nil ?_
    refine Wx.thenN ?_
    refine hKL1 (t + 1) _ _ (.co (.cons rfl (.cons rfl (.cons rfl (.nil))))) ⟨by omega, by rw [sch1_hi _ _ (by omega)]; rw [Nat.zero_add] at hg16; exact hg16, (hF.ext hR6.ext).trans hF16⟩ (by omega)
  first | replace h15 := dF h15 | replace h15 := nF h15 | skip
  refine Wc.exit ?_
  refine Wx.thenE ?_
  refine Wx.thenE ?_
  refine Wx.hit ?_
  refine Wx.thenN (hK2 _ _ ?_)
  refine vs fun K9 hK9 => vK [(0, _), (4, _)] ?_
  obtain rfl : t = 80 := by omega
  have hh11 : WB wi gh 99 s.l := (hh.ext hE6).fr hF (by omega)
  have hghi : gh < wi.heap.size := hh11.lt
  have hgi : g < wi.heap.size := hgt.lt
  refine Wc.regionD (fun _ => true) Eq (.read 0 (.read 1 (.read 2 (.read 3 (.read 4 (.read 5 (.read 6 (.read 7 (.read 8 (.read 9 (.read 10 (.read 11 (.read 12 (.read 13 (.read 14 (.read 15 (.read 16 (.read 17 (.read 18 (.read 19 (.read 20 (.read 21 (.read 22 (.read 23 .tail)))))))))))))))))))))))) 24 (by kernel_rfl) (by kernel_rfl) (by kernel_rfl) (fun _ => rfl) (fun _ _ _ h k => h.trans k) Quiet ⟨1, rfl⟩ ?_
  intro w8 hR8
  have hh8 := hh11.ext hR8.ext
  have hg8 := hgt.ext hR8.ext
  refine rE rfl (Gives.move rfl rfl) ?_
  refine rE rfl (Gives.nilCheck rfl rfl) ?_
  refine rE rfl (Gives.ixA (i := 0) rfl Tryd.underlying99 (by kernel_rfl) rfl rfl rfl (by omega)) ?_
  refine rE rfl (Gives.ldC rfl (by kernel_rfl) rfl (hh8.cell0 (i := 0) (x := s.a) rfl)) ?_
  refine rE rfl (Gives.move rfl rfl) ?_
  refine rE rfl (Gives.nilCheck rfl rfl) ?_
  refine rE rfl (Gives.ixA (i := 1) rfl Tryd.underlying99 (by kernel_rfl) rfl rfl rfl (by omega)) ?_
  refine rE rfl (Gives.ldC rfl (by kernel_rfl) rfl (hh8.cell0 (i := 1) (x := s.b) rfl)) ?_
  refine rE rfl (Gives.move rfl rfl) ?_
  refine rE rfl (Gives.nilCheck rfl rfl) ?_
  refine rE rfl (Gives.ixA (i := 2) rfl Tryd.underlying99 (by kernel_rfl) rfl rfl rfl (by omega)) ?_
  refine rE rfl (Gives.ldC rfl (by kernel_rfl) rfl (hh8.cell0 (i := 2) (x := s.c) rfl)) ?_
  refine rE rfl (Gives.move rfl rfl) ?_
  refine rE rfl (Gives.nilCheck rfl rfl) ?_
  refine rE rfl (Gives.ixA (i := 3) rfl Tryd.underlying99 (by kernel_rfl) rfl rfl rfl (by omega)) ?_
  refine rE rfl (Gives.ldC rfl (by kernel_rfl) rfl (hh8.cell0 (i := 3) (x := s.d) rfl)) ?_
  refine rE rfl (Gives.move rfl rfl) ?_
  refine rE rfl (Gives.nilCheck rfl rfl) ?_
  refine rE rfl (Gives.ixA (i := 4) rfl Tryd.underlying99 (by kernel_rfl) rfl rfl rfl (by omega)) ?_
  refine rE rfl (Gives.ldC rfl (by kernel_rfl) rfl (hh8.cell0 (i := 4) (x := s.e) rfl)) ?_
  refine rE rfl (Gives.assign rfl rfl) ?_
  refine rE rfl (Gives.assign rfl rfl) ?_
  refine rE rfl (Gives.assign rfl rfl) ?_
  refine rE rfl (Gives.assign rfl rfl) ?_
  refine RunE.tail rfl ?_
  refine vA ?_
  refine vn (hK9 _ _ ?_)
  refine Wc.seq (fun K10 hK10 => ?_)
  refine vs fun K11 hK11 => vR [(0, _), (4, _), (6, _), (7, _), (8, _), (9, _), (10, _)] ?_
  refine vM ?_
  refine vn (hK11 _ _ ?_)
  refine Wc.block ?_
  refine vK [(0, _), (4, _), (6, _), (7, _), (8, _), (9, _), (10, _), (67, _)] ?_
  refine Wc.loopC (ι := Nat × S5) [(0, _), (4, _)] (fun | (t, st) => [(67, .int .i64 (t : Int)), (6, .int .u32 (st.a.toNat : Int)), (7, .int .u32 (st.b.toNat : Int)), (8, .int .u32 (st.c.toNat : Int)), (9, .int .u32 (st.d.toNat : Int)), (10, .int .u32 (st.e.toNat : Int))]) (fun | (t, st), wj => t ≤ 80 ∧ st = rnds1 (sch1 l 80) s t ∧ Quiet wi wj) (fun | (t, _) => 80 - t) ((0, s)) (.co (.co (.co (.co (.co (.co (.cons rfl (.cons rfl (.nil))))))))) (⟨by omega, rfl, hR8⟩) ?_
  intro ⟨t, st⟩ wj hJ KL2 hKL2
  obtain ⟨ht, hst, hQ⟩ := hJ
  have hgq := hgt.ext hQ.ext
  refine vs fun K12 hK12 => vR [(0, _), (4, _), (6, _), (7, _), (8, _), (9, _), (10, _), (67, _)] ?_
  refine vl (Gives.lss rfl rfl rfl) ?_
  refine vn (hK12 _ _ ?_)
  refine Wc.seq (fun K13 hK13 => ?_)
  refine Wc.cond _ rfl (fun h68 => ?_) (fun h68 => ?_)
  · first | replace h68 := dT h68 | replace h68 := nT h68 | skip
    refine Wc.skip ?_
    refine Wx.thenN (hK13 _ _ ?_)
    refine Wc.seq (fun K14 hK14 => ?_)
    refine Wc.block ?_
    refine vs fun K15 hK15 => vR [(0, _), (4, _), (6, _), (7, _), (8, _), (9, _), (10, _), (67, _)] ?_
    refine vM ?_
    refine vA ?_
    refine vn (hK15 _ _ ?_)
    refine vs fun K16 hK16 => vR [(0, _), (4, _), (6, _), (7, _), (8, _), (9, _), (10, _), (11, _), (67, _)] ?_
    refine vA ?_
    refine vA ?_
    refine vn (hK16 _ _ ?_)
    refine Wc.joinC (ι := UInt32 × UInt32) [(0, _), (4, _), (6, _), (7, _), (8, _), (9, _), (10, _), (11, _), (67, _)] (fun | (f, k) => [(12, .int .u32 (f.toNat : Int)), (13, .int .u32 (k.toNat : Int))]) (fun | (f, k), wr => f = f1S t st ∧ k = k1S t ∧ wr = wj) ?_ ?_ (.cons rfl (.cons rfl (.cons rfl (.cons rfl (.cons rfl (.cons rfl (.cons rfl (.cons rfl (.cons rfl (.nil))))))))))
    · intro K17 hJ17
      refine vs fun K18 hK18 => vR [(0, _), (4, _), (6, _), (7, _), (8, _), (9, _), (10, _), (11, _), (67, _)] ?_
      refine vM ?_
      refine vl (Gives.quo rfl rfl rfl (by omega) (quo20 t)) ?_
      refine vn (hK18 _ _ ?_)
      refine Wc.block ?_
      refine vs fun K19 hK19 => vR [(0, _), (4, _), (6, _), (7, _), (8, _), (9, _), (10, _), (11, _), (67, _), (71, _)] ?_
      refine vl (Gives.eql rfl rfl rfl) ?_
      refine vA ?_
      refine vn (hK19 _ _ ?_)
      refine Wc.cond _ rfl (fun h77 => ?_) (fun h77 => ?_)
      · first | replace h77 := dT h77 | replace h77 := nT h77 | skip
        refine vR [(0, _), (4, _), (6, _), (7, _), (8, _), (9, _), (10, _), (11, _), (67, _)] ?_
        refine vM ?_
        refine vM ?_
        refine vl (Gives.u32and rfl rfl rfl) ?_
        refine vM ?_
        refine vl (Gives.u32not rfl rfl) ?_
        refine vM ?_
        refine vl (Gives.u32and rfl rfl rfl) ?_
        refine vl (Gives.u32xor rfl rfl rfl) ?_
        refine vA ?_
        refine vA ?_
        refine Wl.nil ?_
        refine Wx.blockN ?_
        refine Wx.thenN ?_
        exact hJ17 (_, 0x5a827999) _ _ (.co (.co (.cons rfl (.cons rfl (.cons rfl (.cons rfl (.cons rfl (.cons rfl (.cons rfl (.cons rfl (.cons rfl (.nil)))))))))))) ⟨by unfold f1S; rw [if_pos (by rw [quo_in t (by omega)] at h77; omega)], by unfold k1S; rw [if_pos (by rw [quo_in t (by omega)] at h77; omega)], rfl⟩
      first | replace h77 := dF h77 | replace h77 := nF h77 | skip
      refine vs fun K20 hK20 => vR [(0, _), (4, _), (6, _), (7, _), (8, _), (9, _), (10, _), (11, _), (67, _), (71, _)] ?_
      refine vl (Gives.eql rfl rfl rfl) ?_
      refine vA ?_
      refine vn (hK20 _ _ ?_)
      refine Wc.cond _ rfl (fun h87 => ?_) (fun h87 => ?_)
      · first | replace h87 := dT h87 | replace h87 := nT h87 | skip
        refine vR [(0, _), (4, _), (6, _), (7, _), (8, _), (9, _), (10, _), (11, _), (67, _)] ?_
        refine vM ?_
        refine vM ?_
        refine vl (Gives.u32xor rfl rfl rfl) ?_
        refine vM ?_
        refine vl (Gives.u32xor rfl rfl rfl) ?_
        refine vA ?_
        refine vA ?_
        refine Wl.nil ?_
        refine Wx.blockN ?_
        refine Wx.thenN ?_
        exact hJ17 (_, 0x6ed9eba1) _ _ (.co (.co (.cons rfl (.cons rfl (.cons rfl (.cons rfl (.cons rfl (.cons rfl (.cons rfl (.cons rfl (.cons rfl (.nil)))))))))))) ⟨by rw [quo_in t (by omega)] at h77 h87; unfold f1S; rw [if_neg (by omega), if_pos (by omega)], by rw [quo_in t (by omega)] at h77 h87; unfold k1S; rw [if_neg (by omega), if_pos (by omega)], rfl⟩
      first | replace h87 := dF h87 | replace h87 := nF h87 | skip
      refine vs fun K21 hK21 => vR [(0, _), (4, _), (6, _), (7, _), (8, _), (9, _), (10, _), (11, _), (67, _), (71, _)] ?_
      refine vl (Gives.eql rfl rfl rfl) ?_
      refine vA ?_
      refine vn (hK21 _ _ ?_)
      refine Wc.cond _ rfl (fun h94 => ?_) (fun h94 => ?_)
      · first | replace h94 := dT h94 | replace h94 := nT h94 | skip
        refine vR [(0, _), (4, _), (6, _), (7, _), (8, _), (9, _), (10, _), (11, _), (67, _)] ?_
        refine vM ?_
        refine vM ?_
        refine vl (Gives.u32and rfl rfl rfl) ?_
        refine vM ?_
        refine vM ?_
        refine vl (Gives.u32and rfl rfl rfl) ?_
        refine vl (Gives.u32xor rfl rfl rfl) ?_
        refine vM ?_
        refine vM ?_
        refine vl (Gives.u32and rfl rfl rfl) ?_
        refine vl (Gives.u32xor rfl rfl rfl) ?_
        refine vA ?_
        refine vA ?_
        refine Wl.nil ?_
        refine Wx.blockN ?_
        refine Wx.thenN ?_
        exact hJ17 (_, 0x8f1bbcdc) _ _ (.co (.co (.cons rfl (.cons rfl (.cons rfl (.cons rfl (.cons rfl (.cons rfl (.cons rfl (.cons rfl (.cons rfl (.nil)))))))))))) ⟨by rw [quo_in t (by omega)] at h77 h87 h94; unfold f1S; rw [if_neg (by omega), if_neg (by omega), if_pos (by omega)], by rw [quo_in t (by omega)] at h77 h87 h94; unfold k1S; rw [if_neg (by omega), if_neg (by omega), if_pos (by omega)], rfl⟩
      first | replace h94 := dF h94 | replace h94 := nF h94 | skip
      refine vR [(0, _), (4, _), (6, _), (7, _), (8, _), (9, _), (10, _), (11, _), (67, _)] ?_
      refine vM ?_
      refine vM ?_
      refine vl (Gives.u32xor rfl rfl rfl) ?_
      refine vM ?_
      refine vl (Gives.u32xor rfl rfl rfl) ?_
      refine vA ?_
      refine vA ?_
      refine Wl.nil ?_
      refine Wx.blockN ?_
      refine Wx.thenN ?_
      exact hJ17 (_, 0xca62c1d6) _ _ (.co (.co (.cons rfl (.cons rfl (.cons rfl (.cons rfl (.cons rfl (.cons rfl (.cons rfl (.cons rfl (.cons rfl (.nil)))))))))))) ⟨by rw [quo_in t (by omega)] at h77 h87 h94; unfold f1S; rw [if_neg (by omega), if_neg (by omega), if_neg (by omega)], by rw [quo_in t (by omega)] at h77 h87 h94; unfold k1S; rw [if_neg (by omega), if_neg (by omega), if_neg (by omega)], rfl⟩
    intro ⟨f, k⟩ wr hJ
    obtain ⟨rfl, rfl, rfl⟩ := hJ
    refine vK [(0, _), (4, _), (6, _), (7, _), (8, _), (9, _), (10, _), (11, _), (12, _), (13, _), (67, _)] ?_
    refine Wc.regionD (fun _ => true) Eq (.read 0 (.read 1 (.read 2 (.read 3 (.read 4 (.read 5 (.read 6 (.read 7 (.read 8 (.read 9 (.read 10 (.read 11 (.read 12 (.read 13 (.read 14 (.read 15 (.read 16 .tail))))))))))))))))) 17 (by kernel_rfl) (by kernel_rfl) (by kernel_rfl) (fun _ => rfl) (fun _ _ _ h k => h.trans k) Quiet ⟨1, rfl⟩ ?_
    intro w21 hR21
    have hg21 := hgq.ext hR21.ext
    refine rE rfl (Gives.move rfl rfl) ?_
    refine rE rfl (Gives.call rfl Tryd.func96 rfl (by kernel_rfl) rfl (rotlQ _ _ _ (by omega) (by omega))) ?_
    refine rE rfl (Gives.move rfl rfl) ?_
    refine rE rfl (Gives.u32add rfl rfl rfl) ?_
    refine rE rfl (Gives.move rfl rfl) ?_
    refine rE rfl (Gives.u32add rfl rfl rfl) ?_
    refine rE rfl (Gives.move rfl rfl) ?_
    refine rE rfl (Gives.u32add rfl rfl rfl) ?_
    refine rE rfl (Gives.move rfl rfl) ?_
    refine rE rfl (Gives.ixA (i := t) rfl Tryd.underlying118 (by kernel_rfl) rfl rfl (by omega) (by omega)) ?_
    refine rE rfl (Gives.ldC rfl (by kernel_rfl) rfl (hg21.cell0 (gw_some (sch1 l 80) t (by rw [sch1_len]; omega)))) ?_
    refine rE rfl (Gives.u32add rfl rfl rfl) ?_
    refine rE rfl (Gives.move rfl rfl) ?_
    refine rE rfl (Gives.move rfl rfl) ?_
    refine rE rfl (Gives.call rfl Tryd.func96 rfl (by kernel_rfl) rfl (rotlQ _ _ _ (by omega) (by omega))) ?_
    refine rE rfl (Gives.move rfl rfl) ?_
    refine rE rfl (Gives.move rfl rfl) ?_
    refine RunE.tail rfl ?_
    refine vA ?_
    refine vA ?_
    refine vA ?_
    refine vA ?_
    refine vA ?_
    refine Wl.nil ?_
    refine Wx.blockN ?_
    refine Wx.thenN (hK14 _ _ ?_)
    refine vR [(0, _), (4, _), (6, _), (7, _), (8, _), (9, _), (10, _), (67, _)] ?_
    refine vAdd ?_
    refine vM ?_
    refine Wl.nil ?_
    refine Wx.thenN ?_
    exact hKL2 (t + 1, rnd1 st t (gw (sch1 l 80) t)) _ _ (.co (.co (.co (.co (.co (.co (.cons rfl (.cons rfl (.nil))))))))) ⟨by omega, by rw [hst]; rfl, hQ.trans hR21⟩ (by show 80 - (t + 1) < 80 - t; omega)
  first | replace h68 := dF h68 | replace h68 := nF h68 | skip
  refine Wc.exit ?_
  refine Wx.thenE ?_
  refine Wx.thenE ?_
  refine Wx.hit ?_
  refine Wx.thenN (hK10 _ _ ?_)
  refine vs fun K22 hK22 => vK [(0, _), (6, _), (7, _), (8, _), (9, _), (10, _)] ?_
  obtain rfl : t = 80 := by omega
  have hh23 := hh11.ext hQ.ext
  refine Wc.regionD (fun _ => true) Eq (.read 0 (.read 1 (.read 2 (.read 3 (.read 4 (.read 5 (.read 6 .tail))))))) 7 (by kernel_rfl) (by kernel_rfl) (by kernel_rfl) (fun _ => rfl) (fun _ _ _ h k => h.trans k) Quiet ⟨1, rfl⟩ ?_
  intro w23 hR23
  have k0 := hh23.ext hR23.ext
  refine rE rfl (Gives.move rfl rfl) ?_
  refine rE rfl (Gives.nilCheck rfl rfl) ?_
  refine rE rfl (Gives.ixA (i := 0) rfl Tryd.underlying99 (by kernel_rfl) rfl rfl rfl (by omega)) ?_
  refine rE rfl (Gives.ldC rfl (by kernel_rfl) rfl (k0.cell0 (i := 0) (x := s.a) rfl)) ?_
  refine rE rfl (Gives.move rfl rfl) ?_
  refine rE rfl (Gives.u32add rfl rfl rfl) ?_
  refine rE rfl (Gives.nilCheck rfl rfl) ?_
  refine RunE.tail rfl ?_
  refine vl (Gives.ixA (i := 0) rfl Tryd.underlying99 (by kernel_rfl) rfl rfl rfl (by omega)) ?_
  refine Wl.acts rfl rfl (Does.stW (i := 0) rfl rfl rfl k0 (by kernel_rfl) (by show 0 < 5; omega)) ?_
  rintro _ x23 ⟨j0, f0⟩
  refine vn (hK22 _ _ ?_)
  refine vs fun K23 hK23 => vK [(0, _), (7, _), (8, _), (9, _), (10, _)] ?_
  refine Wc.regionD (fun _ => true) Eq (.read 0 (.read 1 (.read 2 (.read 3 (.read 4 (.read 5 (.read 6 .tail))))))) 7 (by kernel_rfl) (by kernel_rfl) (by kernel_rfl) (fun _ => rfl) (fun _ _ _ h k => h.trans k) Quiet ⟨1, rfl⟩ ?_
  intro w24 hR24
  have k1 := j0.ext hR24.ext
  refine rE rfl (Gives.move rfl rfl) ?_
  refine rE rfl (Gives.nilCheck rfl rfl) ?_
  refine rE rfl (Gives.ixA (i := 1) rfl Tryd.underlying99 (by kernel_rfl) rfl rfl rfl (by omega)) ?_
  refine rE rfl (Gives.ldC rfl (by kernel_rfl) rfl (k1.cell0 (i := 1) (x := s.b) rfl)) ?_
  refine rE rfl (Gives.move rfl rfl) ?_
  refine rE rfl (Gives.u32add rfl rfl rfl) ?_
  refine rE rfl (Gives.nilCheck rfl rfl) ?_
  refine RunE.tail rfl ?_
  refine vl (Gives.ixA (i := 1) rfl Tryd.underlying99 (by kernel_rfl) rfl rfl rfl (by omega)) ?_
  refine Wl.acts rfl rfl (Does.stW (i := 1) rfl rfl rfl k1 (by kernel_rfl) (by show 1 < 5; omega)) ?_
  rintro _ x24 ⟨j1, f1⟩
  refine vn (hK23 _ _ ?_)
  refine vs fun K24 hK24 => vK [(0, _), (8, _), (9, _), (10, _)] ?_
  refine Wc.regionD (fun _ => true) Eq (.read 0 (.read 1 (.read 2 (.read 3 (.read 4 (.read 5 (.read 6 .tail))))))) 7 (by kernel_rfl) (by kernel_rfl) (by kernel_rfl) (fun _ => rfl) (fun _ _ _ h k => h.trans k) Quiet ⟨1, rfl⟩ ?_
  intro w25 hR25
  have k2 := j1.ext hR25.ext
  refine rE rfl (Gives.move rfl rfl) ?_
  refine rE rfl (Gives.nilCheck rfl rfl) ?_
  refine rE rfl (Gives.ixA (i := 2) rfl Tryd.underlying99 (by kernel_rfl) rfl rfl rfl (by omega)) ?_
  refine rE rfl (Gives.ldC rfl (by kernel_rfl) rfl (k2.cell0 (i := 2) (x := s.c) rfl)) ?_
  refine rE rfl (Gives.move rfl rfl) ?_
  refine rE rfl (Gives.u32add rfl rfl rfl) ?_
  refine rE rfl (Gives.nilCheck rfl rfl) ?_
  refine RunE.tail rfl ?_
  refine vl (Gives.ixA (i := 2) rfl Tryd.underlying99 (by kernel_rfl) rfl rfl rfl (by omega)) ?_
  refine Wl.acts rfl rfl (Does.stW (i := 2) rfl rfl rfl k2 (by kernel_rfl) (by show 2 < 5; omega)) ?_
  rintro _ x25 ⟨j2, f2⟩
  refine vn (hK24 _ _ ?_)
  refine vs fun K25 hK25 => vK [(0, _), (9, _), (10, _)] ?_
  refine Wc.regionD (fun _ => true) Eq (.read 0 (.read 1 (.read 2 (.read 3 (.read 4 (.read 5 (.read 6 .tail))))))) 7 (by kernel_rfl) (by kernel_rfl) (by kernel_rfl) (fun _ => rfl) (fun _ _ _ h k => h.trans k) Quiet ⟨1, rfl⟩ ?_
  intro w26 hR26
  have k3 := j2.ext hR26.ext
  refine rE rfl (Gives.move rfl rfl) ?_
  refine rE rfl (Gives.nilCheck rfl rfl) ?_
  refine rE rfl (Gives.ixA (i := 3) rfl Tryd.underlying99 (by kernel_rfl) rfl rfl rfl (by omega)) ?_
  refine rE rfl (Gives.ldC rfl (by kernel_rfl) rfl (k3.cell0 (i := 3) (x := s.d) rfl)) ?_
  refine rE rfl (Gives.move rfl rfl) ?_
  refine rE rfl (Gives.u32add rfl rfl rfl) ?_
  refine rE rfl (Gives.nilCheck rfl rfl) ?_
  refine RunE.tail rfl ?_
  refine vl (Gives.ixA (i := 3) rfl Tryd.underlying99 (by kernel_rfl) rfl rfl rfl (by omega)) ?_
  refine Wl.acts rfl rfl (Does.stW (i := 3) rfl rfl rfl k3 (by kernel_rfl) (by show 3 < 5; omega)) ?_
  rintro _ x26 ⟨j3, f3⟩
  refine vn (hK25 _ _ ?_)
  refine vK [(0, _), (10, _)] ?_
  refine Wc.regionD (fun _ => true) Eq (.read 0 (.read 1 (.read 2 (.read 3 (.read 4 (.read 5 (.read 6 .tail))))))) 7 (by kernel_rfl) (by kernel_rfl) (by kernel_rfl) (fun _ => rfl) (fun _ _ _ h k => h.trans k) Quiet ⟨1, rfl⟩ ?_
  intro w27 hR27
  have k4 := j3.ext hR27.ext
  refine rE rfl (Gives.move rfl rfl) ?_
  refine rE rfl (Gives.nilCheck rfl rfl) ?_
  refine rE rfl (Gives.ixA (i := 4) rfl Tryd.underlying99 (by kernel_rfl) rfl rfl rfl (by omega)) ?_
  refine rE rfl (Gives.ldC rfl (by kernel_rfl) rfl (k4.cell0 (i := 4) (x := s.e) rfl)) ?_
  refine rE rfl (Gives.move rfl rfl) ?_
  refine rE rfl (Gives.u32add rfl rfl rfl) ?_
  refine rE rfl (Gives.nilCheck rfl rfl) ?_
  refine RunE.tail rfl ?_
  refine vl (Gives.ixA (i := 4) rfl Tryd.underlying99 (by kernel_rfl) rfl rfl rfl (by omega)) ?_
  refine Wl.acts rfl rfl (Does.stW (i := 4) rfl rfl rfl k4 (by kernel_rfl) (by show 4 < 5; omega)) ?_
  rintro _ x27 ⟨j4, f4⟩
  refine Wl.nil ?_
  refine Wx.end_ [] trivial ?_
  have hF0 : Fr (fun q => q ≠ gh) w wi := Fr.over hE6.fr hF hg
  refine ⟨rfl, ?_, ?_⟩
  · rw [show (block1 s l).l = _ from rfl]
    have e : block1 s l = add5 s st := by rw [hst]; rfl
    rw [e]; exact j4
  exact (((((hF0.ext hQ.ext).ext hR23.ext).trans f0).trans ((Ext.fr hR24.ext).trans f1)).trans ((Ext.fr hR25.ext).trans f2)).trans (((Ext.fr hR26.ext).trans f3).trans ((Ext.fr hR27.ext).trans f4))
theorem iv1_cells : [Value.int .u32 1732584193, .int .u32 4023233417, .int .u32 2562383102, .int .u32 271733878, .int .u32 3285377520].toArray = (u32s iv1.l).toArray := by kernel_rfl
theorem blocks1_end (l : List UInt8) (N : Nat) (h : (padS l).length = 64 * N) : sha1S l = bytesS (blocks1 (padS l) iv1 N).l := by
  unfold sha1S; congr 3; omega
theorem info5 : (Tryd.prog.info? 99).bind (·.zero) = some (.agg (u32s (List.replicate 5 0)).toArray) := by kernel_rfl
set_option maxRecDepth 100000 in
theorem sum1P {P : Nat → Prop} (w : World) (A : Option Addr) (n c : Nat) (l : List UInt8) (ha : BV w P A n c l) (hn : n ≤ 1099511627776) :
    Calls Tryd.prog 54 #[.int .i64 0, .slice A n c] w fun e w' => ∃ S k, e = .returned (.slice S 20 k) ∧ OB w' w.heap.size 5 S 20 k (sha1S l) ∧ Ext w w' := by
  have hal := ha.len
  refine calls_enter Tryd.func54 rfl Tryd.ntmps54 rfl ?_
  refine vs fun K1 hK1 => vR [(0, _), (1, _)] ?_
  refine vA ?_
  refine vn (hK1 _ _ ?_)
  refine Wc.seq (fun K2 hK2 => ?_)
  refine vs fun K3 hK3 => vR [(0, _), (1, _)] ?_
  refine vM ?_
  refine vn (hK3 _ _ ?_)
  refine Wc.block ?_
  refine vs fun K4 hK4 => vR [(1, _), (9, _)] ?_
  refine vl (Gives.eql rfl rfl rfl) ?_
  refine vA ?_
  refine vn (hK4 _ _ ?_)
  refine Wc.condT rfl (by decide) ?_
  refine vs fun K5 hK5 => vR [(1, _)] ?_
  refine vl (Gives.buildA1 rfl Tryd.underlying99 (by kernel_rfl) (by kernel_rfl) rfl rfl rfl) ?_
  refine Wl.does rfl rfl rfl (Does.alB (.agg (u32s (List.replicate 5 0)).toArray) rfl info5 rfl) ?_
  rintro _ w1 ⟨gh, rfl, hgh, hk1, hE1⟩
  refine Wl.acts rfl rfl (Does.stL 5 rfl rfl rfl hk1 (by kernel_rfl) rfl rfl rfl) ?_
  rintro _ w2 ⟨hk2, hF2⟩
  have hE2 : Ext w w2 := Ext.over hE1 hF2 hgh
  replace hk2 : WB w2 gh 99 iv1.l := by unfold WB; rw [← iv1_cells]; exact hk2
  refine vn (hK5 _ _ ?_)
  refine Wc.seq (fun K6 hK6 => ?_)
  refine vs fun K7 hK7 => vR [(1, _), (5, _)] ?_
  refine vM ?_
  refine Wl.call rfl rfl rfl rfl Tryd.func75 rfl (by kernel_rfl) rfl (padP_calls w2 A n c l (ha.ext hE2) (by omega)) ?_
  rintro x11 w3 ⟨X, xn, xc, rfl, hO3, hE3⟩
  refine ⟨_, rfl, ?_⟩
  refine vA ?_
  refine Wl.nil ?_
  have hxm := padS_mod l
  have hxl := hO3.len
  obtain ⟨N, hN⟩ : ∃ N, xn = 64 * N := ⟨xn / 64, by omega⟩
  subst hN
  have hgh2 := hk2.lt
  have hx3 : BV w3 (fun q => q ≠ gh) X (64 * N) xc (padS l) := OB.bv (P := fun q => q ≠ gh) hO3 (fun q hq => by omega)
  obtain ⟨x, hx⟩ : ∃ x, x = padS l := ⟨_, rfl⟩
  rw [← hx] at hx3 hxl
  refine Wx.thenN (hK7 _ _ ?_)
  refine Wc.block ?_
  refine vK [(5, _), (6, _)] ?_
  refine Wc.loopC (ι := Nat × Option Addr × Nat) [(5, _)] (fun | (k, X, xc) => [(6, .slice X (64 * (N - k)) xc)]) (fun | (k, X, xc), wr => k ≤ N ∧ BV wr (fun q => q ≠ gh) X (64 * (N - k)) xc (x.drop (64 * k)) ∧ WB wr gh 99 (blocks1 x iv1 k).l ∧ Ext w wr) (fun | (k, X, xc) => N - k) ((0, X, xc)) (.co (.cons rfl (.nil))) (⟨Nat.zero_le _, by simpa using hx3, hk2.ext hE3, hE2.trans hE3⟩) ?_
  intro ⟨k, X, xc⟩ wr hJ KL1 hKL1
  obtain ⟨hk, hX, hh, hE⟩ := hJ
  have hle := hX.le
  refine Wc.seq (fun K8 hK8 => ?_)
  refine vs fun K9 hK9 => vR [(5, _), (6, _)] ?_
  refine vM ?_
  refine vl (Gives.lenS rfl Tryd.underlying22 rfl) ?_
  refine vl (Gives.gtr rfl rfl rfl) ?_
  refine vn (hK9 _ _ ?_)
  refine Wc.cond _ rfl (fun h17 => ?_) (fun h17 => ?_)
  · first | replace h17 := dT h17 | replace h17 := nT h17 | skip
    refine Wc.skip ?_
    refine Wx.thenN (hK8 _ _ ?_)
    refine Wc.seq (fun K10 hK10 => ?_)
    refine Wc.block ?_
    refine vR [(5, _), (6, _)] ?_
    refine vM ?_
    refine vl (Gives.cutHi rfl Tryd.underlying22 (by kernel_rfl) rfl 64 rfl rfl (by omega)) ?_
    refine Wl.call rfl rfl rfl rfl Tryd.func76 rfl (by kernel_rfl) rfl (compress1P wr gh (blocks1 x iv1 k) hh X xc ((x.drop (64 * k)).take 64) (hX.take (by omega))) ?_
    rintro x14 w5 ⟨rfl, hh5, hF5⟩
    refine ⟨_, rfl, ?_⟩
    refine Wl.nil ?_
    refine Wx.blockN ?_
    refine Wx.thenN (hK10 _ _ ?_)
    refine vR [(5, _), (6, _)] ?_
    refine vM ?_
    refine vl (Gives.cutLo rfl Tryd.underlying22 (by kernel_rfl) rfl 64 rfl rfl (by omega)) ?_
    refine vA ?_
    refine Wl.nil ?_
    refine Wx.thenN ?_
    refine hKL1 (k + 1, cutAddr X xc 64 1, xc - 64) _ _ (.co (.cons rfl (.nil))) ⟨by omega, ?_, hh5, Ext.over hE hF5 hgh⟩ (by show N - (k + 1) < N - k; omega)
    have h5 := (hX.fr hF5).cut (show 64 ≤ 64 * (N - k) by omega)
    rw [List.drop_drop, show 64 * (N - k) - 64 = 64 * (N - (k + 1)) by omega, show 64 * k + 64 = 64 * (k + 1) by omega] at h5
    exact h5
  first | replace h17 := dF h17 | replace h17 := nF h17 | skip
  refine Wc.exit ?_
  refine Wx.thenE ?_
  refine Wx.thenE ?_
  refine Wx.hit ?_
  refine Wx.thenN (hK6 _ _ ?_)
  refine vs fun K11 hK11 => vK [(5, _)] ?_
  obtain rfl : k = N := by omega
  refine Wc.region ?_
  refine vl (Gives.cutAll rfl Tryd.underlying99 (by kernel_rfl) rfl) ?_
  refine Wl.call rfl rfl rfl rfl Tryd.func77 rfl (by kernel_rfl) rfl (spread_calls wr _ 5 5 _ (hh.uv (P := fun _ => True) trivial rfl (Nat.le_refl _) (by omega)) (by omega)) ?_
  rintro x15 w7 ⟨S, m, kk, rfl, hO, hE7⟩
  refine ⟨_, rfl, ?_⟩
  refine vA ?_
  refine vn (hK11 _ _ ?_)
  refine Wc.ret ?_
  refine Wx.blockR ?_
  refine Wx.thenR ?_
  refine Wx.ret [_] ⟨rfl, trivial⟩ ?_
  have hm20 : m = 20 := by have := hO.len; rw [bytesS_len] at this; exact this.symm
  subst hm20
  refine ⟨S, kk, rfl, ?_, hE.trans hE7⟩
  rw [blocks1_end l k (by rw [← hx]; exact hxl), ← hx]
  exact hO.mono hE.size
set_option maxRecDepth 100000 in
set_option maxHeartbeats 4000000 in
theorem sum1R {P : Nat → Prop} (w : World) (A : Option Addr) (n c : Nat) (l : List UInt8) (ha : BV w P A n c l) (hn : n ≤ 1099511627776) :
    Calls Tryd.prog 79 #[.slice A n c] w fun e w' => ∃ S k, e = .returned (.slice S 20 k) ∧ OB w' w.heap.size 5 S 20 k (sha1S l) ∧ Ext w w' := by
  refine calls_enter Tryd.func79 rfl Tryd.ntmps79 rfl ?_
  refine vs fun K1 hK1 => vR [(0, _)] ?_
  refine vA ?_
  refine vn (hK1 _ _ ?_)
  refine vs fun K2 hK2 => vR [(0, _)] ?_
  refine Wl.does rfl rfl rfl (Does.lit rfl Tryd.underlying103 infoW2 rfl rfl rfl rfl rfl) ?_
  rintro _ w4 ⟨gh0, rfl, hgh0, hh4, hE4⟩
  replace hh4 : WB w4 gh0 98 iv1.l := hh4
  refine vA ?_
  refine vn (hK2 _ _ ?_)
  refine vs fun K3 hK3 => vR [(0, _), (3, _)] ?_
  refine vM ?_
  refine Wl.call rfl rfl rfl rfl Tryd.func97 rfl (by kernel_rfl) rfl (padR_calls w4 A n c l (ha.ext hE4) (by omega)) ?_
  rintro x5 w5 ⟨X, xn, xc, rfl, hO5, hE5⟩
  refine ⟨_, rfl, ?_⟩
  refine vA ?_
  refine Wl.nil ?_
  have hxl := hO5.len
  have hxm := padS_mod l
  obtain ⟨N, hN⟩ : ∃ N, xn = 64 * N := ⟨xn / 64, by omega⟩
  have hX0 : BV w5 (fun q => q < w5.heap.size) X xn xc (padS l) := ((hO5.bv (P := fun _ => True) fun _ _ => trivial).bd).mono fun q hq => hq.2
  generalize hx : padS l = x at *
  have hal := ha.len
  refine Wx.thenN (hK3 _ _ ?_)
  refine Wc.seq (fun K4 hK4 => ?_)
  refine vs fun K5 hK5 => vR [(3, _), (4, _)] ?_
  refine vA ?_
  refine vn (hK5 _ _ ?_)
  refine Wc.block ?_
  refine vK [(3, _), (4, _), (5, _)] ?_
  refine Wc.loopC (ι := Nat × Nat) [(4, _)] (fun | (k, gh) => [(5, .int .i64 ((64 * k : Nat) : Int)), (3, .slice (some ⟨gh, 0, none⟩) 5 5)]) (fun | (k, gh), wr => k ≤ N ∧ WB wr gh 98 (blocks1 x iv1 k).l ∧ BV wr (fun q => q < w5.heap.size) X xn xc x ∧ w5.heap.size ≤ wr.heap.size ∧ Ext w wr) (fun | (k, _) => N - k) ((0, gh0)) (.co (.co (.cons rfl (.nil)))) (⟨Nat.zero_le _, hh4.ext hE5, hX0, Nat.le_refl _, hE4.trans hE5⟩) ?_
  intro ⟨k, gh⟩ wr hJ KL1 hKL1
  obtain ⟨hk, hh, hX, hz5, hE⟩ := hJ
  have hzE := hE.size
  refine Wc.seq (fun K6 hK6 => ?_)
  refine vs fun K7 hK7 => vR [(3, _), (4, _), (5, _)] ?_
  refine vM ?_
  refine vM ?_
  refine vl (Gives.lenS rfl Tryd.underlying22 rfl) ?_
  refine vl (Gives.lss rfl rfl rfl) ?_
  refine vn (hK7 _ _ ?_)
  refine Wc.cond _ rfl (fun h23 => ?_) (fun h23 => ?_)
  · first | replace h23 := dT h23 | replace h23 := nT h23 | skip
    refine Wc.skip ?_
    refine Wx.thenN (hK6 _ _ ?_)
    refine Wc.seq (fun K8 hK8 => ?_)
    refine Wc.block ?_
    refine vs fun K9 hK9 => vR [(3, _), (4, _), (5, _)] ?_
    refine Wl.does rfl rfl rfl (Does.alB (.agg (u32s (List.replicate 80 0)).toArray) rfl info80 rfl) ?_
    rintro _ w6 ⟨g, rfl, hg, hg6, hE6⟩
    obtain ⟨B, hB⟩ : ∃ B, B = (x.drop (64 * k)).take 64 := ⟨_, rfl⟩
    replace hg6 : WB w6 g 118 (sch1 B 0) := hg6
    have hbl : B.length = 64 := by rw [hB, List.length_take, List.length_drop, hxl]; omega
    have hxo : BV w6 (fun q => q ≠ g) X xn xc x := (hX.ext hE6).mono fun q hq => by omega
    have hgh6 := hh.lt
    refine vn (hK9 _ _ ?_)
    refine Wc.seq (fun K10 hK10 => ?_)
    refine vs fun K11 hK11 => vR [(3, _), (4, _), (5, _), (6, _)] ?_
    refine vA ?_
    refine vn (hK11 _ _ ?_)
    refine Wc.block ?_
    refine vK [(3, _), (4, _), (5, _), (6, _), (7, _)] ?_
    refine Wc.loopC (ι := Nat) [(3, _), (4, _), (5, _), (6, _)] (fun t => [(7, .int .i64 (t : Int))]) (fun t wi => t ≤ 80 ∧ WB wi g 118 (sch1 B t) ∧ Fr (fun q => q ≠ g) w6 wi) (fun t => 80 - t) (0) (.co (.cons rfl (.cons rfl (.cons rfl (.cons rfl (.nil)))))) (⟨by omega, hg6, Fr.refl _ _⟩) ?_
    intro t wi hJ KL2 hKL2
    obtain ⟨ht, hgt, hF⟩ := hJ
    have hsl := sch1_len B t
    refine Wc.seq (fun K12 hK12 => ?_)
    refine vs fun K13 hK13 => vR [(3, _), (4, _), (5, _), (6, _), (7, _)] ?_
    refine vM ?_
    refine vl (Gives.lss rfl rfl rfl) ?_
    refine vn (hK13 _ _ ?_)
    refine Wc.cond _ rfl (fun h27 => ?_) (fun h27 => ?_)
    · first | replace h27 := dT h27 | replace h27 := nT h27 | skip
      refine Wc.skip ?_
      refine Wx.thenN (hK12 _ _ ?_)
      refine Wc.seq (fun K14 hK14 => ?_)
      refine Wc.block ?_
      refine Wc.seq (fun K15 hK15 => ?_)
      refine vs fun K16 hK16 => vR [(3, _), (4, _), (5, _), (6, _), (7, _)] ?_
      refine vM ?_
      refine vl (Gives.lss rfl rfl rfl) ?_
      refine vn (hK16 _ _ ?_)
      refine Wc.cond _ rfl (fun h31 => ?_) (fun h31 => ?_)
      · first | replace h31 := dT h31 | replace h31 := nT h31 | skip
        refine vs fun K17 hK17 => vR [(3, _), (4, _), (5, _), (6, _), (7, _)] ?_
        refine vM ?_
        refine vM ?_
        refine vM ?_
        refine vM ?_
        refine vAdd ?_
        refine vl (Gives.cut rfl Tryd.underlying22 (by kernel_rfl) rfl (64 * k) 64 rfl rfl rfl (by omega) (by have := hxo.le; omega)) ?_
        have hcut : BV wi (fun q => q ≠ g) (cutAddr X xc (64 * k) 1) 64 (xc - 64 * k) B := by
          have := BV.cut2 (hxo.fr hF) (show 64 * k ≤ 64 * k + 64 by omega) (show 64 * k + 64 ≤ xn by omega)
          rw [List.drop_take] at this
          rw [hB]
          simpa using this
        refine vM ?_
        refine Wl.call rfl rfl rfl rfl Tryd.func98 rfl (by kernel_rfl) rfl (word_calls2 wi _ 64 _ B hcut t (by omega)) ?_
        rintro x12 w12 ⟨rfl, hq12⟩
        refine ⟨_, rfl, ?_⟩
        refine vl (Gives.ixA (i := t) rfl Tryd.underlying118 (by kernel_rfl) rfl rfl (by omega) (by omega)) ?_
        refine Wl.acts rfl rfl (Does.stW rfl rfl rfl (hgt.ext hq12.ext) (by kernel_rfl) (by rw [hsl]; omega)) ?_
        rintro _ w13 ⟨hg13, hF13⟩
        refine vn (hK17 _ _ ?_)
        refine Wc.exit ?_
        refine Wx.thenE ?_
        refine Wx.hit ?_
        refine Wx.thenN (hK14 _ _ ?_)
        refine vR [(3, _), (4, _), (5, _), (6, _), (7, _)] ?_
        refine vM ?_
        refine vAdd ?_
        refine vA ?_
        refine Wl.nil ?_
        refine Wx.thenN ?_
        refine hKL2 (t + 1) _ _ (.co (.cons rfl (.cons rfl (.cons rfl (.cons rfl (.nil)))))) ⟨by omega, by rw [sch1_lo _ _ (by omega)]; rw [Nat.zero_add] at hg13; exact hg13, (hF.ext hq12.ext).trans hF13⟩ (by omega)
      first | replace h31 := dF h31 | replace h31 := nF h31 | skip
      refine Wc.skip ?_
      refine Wx.thenN (hK15 _ _ ?_)
      refine vK [(3, _), (4, _), (5, _), (6, _), (7, _)] ?_
      refine Wc.regionD (fun _ => true) Eq (.read 0 (.read 1 (.read 2 (.read 3 (.read 4 (.read 5 (.read 6 (.read 7 (.read 8 (.read 9 (.read 10 (.read 11 (.read 12 (.read 13 (.read 14 (.read 15 (.read 16 (.read 17 (.read 18 (.read 19 (.read 20 .tail))))))))))))))))))))) 21 (by kernel_rfl) (by kernel_rfl) (by kernel_rfl) (fun _ => rfl) (fun _ _ _ h k => h.trans k) Quiet ⟨1, rfl⟩ ?_
      intro w12 hR12
      have hc13 : ∀ i x, (sch1 B t)[i]? = some x → w12.cell? ⟨g, 0 + i, none⟩ = some (.int .u32 (x.toNat : Int)) := fun i x hx => (hR12.cell _).trans (hgt.cell0 hx)
      refine rE rfl (Gives.move rfl rfl) ?_
      refine rE rfl (Gives.move rfl rfl) ?_
      refine rE rfl (gSub rfl rfl rfl) ?_
      refine rE rfl (Gives.ixA (i := t - 3) rfl Tryd.underlying118 (by kernel_rfl) rfl rfl (by omega) (by omega)) ?_
      refine rE rfl (Gives.ldC rfl (by kernel_rfl) rfl (hc13 _ _ (gw_some _ (t - 3) (by omega)))) ?_
      refine rE rfl (Gives.move rfl rfl) ?_
      refine rE rfl (gSub rfl rfl rfl) ?_
      refine rE rfl (Gives.ixA (i := t - 8) rfl Tryd.underlying118 (by kernel_rfl) rfl rfl (by omega) (by omega)) ?_
      refine rE rfl (Gives.ldC rfl (by kernel_rfl) rfl (hc13 _ _ (gw_some _ (t - 8) (by omega)))) ?_
      refine rE rfl (Gives.u32xor rfl rfl rfl) ?_
      refine rE rfl (Gives.move rfl rfl) ?_
      refine rE rfl (gSub rfl rfl rfl) ?_
      refine rE rfl (Gives.ixA (i := t - 14) rfl Tryd.underlying118 (by kernel_rfl) rfl rfl (by omega) (by omega)) ?_
      refine rE rfl (Gives.ldC rfl (by kernel_rfl) rfl (hc13 _ _ (gw_some _ (t - 14) (by omega)))) ?_
      refine rE rfl (Gives.u32xor rfl rfl rfl) ?_
      refine rE rfl (Gives.move rfl rfl) ?_
      refine rE rfl (gSub rfl rfl rfl) ?_
      refine rE rfl (Gives.ixA (i := t - 16) rfl Tryd.underlying118 (by kernel_rfl) rfl rfl (by omega) (by omega)) ?_
      refine rE rfl (Gives.ldC rfl (by kernel_rfl) rfl (hc13 _ _ (gw_some _ (t - 16) (by omega)))) ?_
      refine rE rfl (Gives.u32xor rfl rfl rfl) ?_
      refine rE rfl (Gives.call rfl Tryd.func99 rfl (by kernel_rfl) rfl (rotlR _ _ _ (by omega) (by omega))) ?_
      refine RunE.tail rfl ?_
      refine vl (Gives.ixA (i := t) rfl Tryd.underlying118 (by kernel_rfl) rfl rfl (by omega) (by omega)) ?_
      refine Wl.acts rfl rfl (Does.stW rfl rfl rfl (hgt.ext hR12.ext) (by kernel_rfl) (by rw [hsl]; omega)) ?_
      rintro _ w16 ⟨hg16, hF16⟩
      refine Wl.nil ?_
      refine Wx.blockN ?_
      refine Wx.thenN (hK14 _ _ ?_)
      refine vR [(3, _), (4, _), (5, _), (6, _), (7, _)] ?_
      refine vM ?_
      refine vAdd ?_
      refine vA ?_
      refine Wl.nil ?_
      refine Wx.thenN ?_
      refine hKL2 (t + 1) _ _ (.co (.cons rfl (.cons rfl (.cons rfl (.cons rfl (.nil)))))) ⟨by omega, by rw [sch1_hi _ _ (by omega)]; rw [Nat.zero_add] at hg16; exact hg16, (hF.ext hR12.ext).trans hF16⟩ (by omega)
    first | replace h27 := dF h27 | replace h27 := nF h27 | skip
    refine Wc.exit ?_
    refine Wx.thenE ?_
    refine Wx.thenE ?_
    refine Wx.hit ?_
    refine Wx.thenN (hK10 _ _ ?_)
    refine vs fun K18 hK18 => vK [(3, _), (4, _), (5, _), (6, _)] ?_
    obtain rfl : t = 80 := by omega
    have hh13 : WB wi gh 98 (blocks1 x iv1 k).l := (hh.ext hE6).fr hF (by omega)
    obtain ⟨s, hs⟩ : ∃ s, s = blocks1 x iv1 k := ⟨_, rfl⟩
    rw [← hs] at hh13
    refine Wc.regionD (fun _ => true) Eq (.read 0 (.read 1 (.read 2 (.read 3 (.read 4 (.read 5 (.read 6 (.read 7 (.read 8 (.read 9 (.read 10 (.read 11 (.read 12 (.read 13 (.read 14 (.read 15 (.read 16 (.read 17 (.read 18 .tail))))))))))))))))))) 19 (by kernel_rfl) (by kernel_rfl) (by kernel_rfl) (fun _ => rfl) (fun _ _ _ h k => h.trans k) Quiet ⟨1, rfl⟩ ?_
    intro w13 hR13
    have hh13' := hh13.ext hR13.ext
    refine rE rfl (Gives.move rfl rfl) ?_
    refine rE rfl (Gives.ixS (i := 0) rfl Tryd.underlying103 (by kernel_rfl) rfl rfl rfl (by omega)) ?_
    refine rE rfl (Gives.ldC rfl (by kernel_rfl) rfl (hh13'.cell0 (i := 0) (x := s.a) rfl)) ?_
    refine rE rfl (Gives.move rfl rfl) ?_
    refine rE rfl (Gives.ixS (i := 1) rfl Tryd.underlying103 (by kernel_rfl) rfl rfl rfl (by omega)) ?_
    refine rE rfl (Gives.ldC rfl (by kernel_rfl) rfl (hh13'.cell0 (i := 1) (x := s.b) rfl)) ?_
    refine rE rfl (Gives.move rfl rfl) ?_
    refine rE rfl (Gives.ixS (i := 2) rfl Tryd.underlying103 (by kernel_rfl) rfl rfl rfl (by omega)) ?_
    refine rE rfl (Gives.ldC rfl (by kernel_rfl) rfl (hh13'.cell0 (i := 2) (x := s.c) rfl)) ?_
    refine rE rfl (Gives.move rfl rfl) ?_
    refine rE rfl (Gives.ixS (i := 3) rfl Tryd.underlying103 (by kernel_rfl) rfl rfl rfl (by omega)) ?_
    refine rE rfl (Gives.ldC rfl (by kernel_rfl) rfl (hh13'.cell0 (i := 3) (x := s.d) rfl)) ?_
    refine rE rfl (Gives.move rfl rfl) ?_
    refine rE rfl (Gives.ixS (i := 4) rfl Tryd.underlying103 (by kernel_rfl) rfl rfl rfl (by omega)) ?_
    refine rE rfl (Gives.ldC rfl (by kernel_rfl) rfl (hh13'.cell0 (i := 4) (x := s.e) rfl)) ?_
    refine rE rfl (Gives.assign rfl rfl) ?_
    refine rE rfl (Gives.assign rfl rfl) ?_
    refine rE rfl (Gives.assign rfl rfl) ?_
    refine rE rfl (Gives.assign rfl rfl) ?_
    refine RunE.tail rfl ?_
    refine vA ?_
    refine vn (hK18 _ _ ?_)
    refine Wc.seq (fun K19 hK19 => ?_)
    refine vs fun K20 hK20 => vR [(3, _), (4, _), (5, _), (6, _), (8, _), (9, _), (10, _), (11, _), (12, _)] ?_
    refine vA ?_
    refine vn (hK20 _ _ ?_)
    refine Wc.block ?_
    refine vK [(3, _), (4, _), (5, _), (6, _), (8, _), (9, _), (10, _), (11, _), (12, _), (13, _)] ?_
    refine Wc.loopC (ι := Nat × S5) [(3, _), (4, _), (5, _), (6, _)] (fun | (t, st) => [(13, .int .i64 (t : Int)), (8, .int .u32 (st.a.toNat : Int)), (9, .int .u32 (st.b.toNat : Int)), (10, .int .u32 (st.c.toNat : Int)), (11, .int .u32 (st.d.toNat : Int)), (12, .int .u32 (st.e.toNat : Int))]) (fun | (t, st), wj => t ≤ 80 ∧ st = rnds1 (sch1 B 80) s t ∧ Quiet wi wj) (fun | (t, _) => 80 - t) ((0, s)) (.co (.co (.co (.co (.co (.co (.cons rfl (.cons rfl (.cons rfl (.cons rfl (.nil))))))))))) (⟨by omega, rfl, hR13⟩) ?_
    intro ⟨t, st⟩ wj hJ KL3 hKL3
    obtain ⟨ht, hst, hQ⟩ := hJ
    have hgq := hgt.ext hQ.ext
    refine Wc.seq (fun K21 hK21 => ?_)
    refine vs fun K22 hK22 => vR [(3, _), (4, _), (5, _), (6, _), (8, _), (9, _), (10, _), (11, _), (12, _), (13, _)] ?_
    refine vM ?_
    refine vl (Gives.lss rfl rfl rfl) ?_
    refine vn (hK22 _ _ ?_)
    refine Wc.cond _ rfl (fun h79 => ?_) (fun h79 => ?_)
    · first | replace h79 := dT h79 | replace h79 := nT h79 | skip
      refine Wc.skip ?_
      refine Wx.thenN (hK21 _ _ ?_)
      refine Wc.seq (fun K23 hK23 => ?_)
      refine Wc.block ?_
      refine vs fun K24 hK24 => vR [(3, _), (4, _), (5, _), (6, _), (8, _), (9, _), (10, _), (11, _), (12, _), (13, _)] ?_
      refine vM ?_
      refine vM ?_
      refine vl (Gives.u32xor rfl rfl rfl) ?_
      refine vM ?_
      refine vl (Gives.u32xor rfl rfl rfl) ?_
      refine vA ?_
      refine vA ?_
      refine vn (hK24 _ _ ?_)
      refine Wc.joinC (ι := UInt32 × UInt32) [(3, _), (4, _), (5, _), (6, _), (8, _), (9, _), (10, _), (11, _), (12, _), (13, _)] (fun | (f, k) => [(14, .int .u32 (f.toNat : Int)), (15, .int .u32 (k.toNat : Int))]) (fun | (f, k), wr => f = f1S t st ∧ k = k1S t ∧ wr = wj) ?_ ?_ (.cons rfl (.cons rfl (.cons rfl (.cons rfl (.cons rfl (.cons rfl (.cons rfl (.cons rfl (.cons rfl (.cons rfl (.nil)))))))))))
      · intro K25 hJ25
        refine Wc.block ?_
        refine vs fun K26 hK26 => vR [(3, _), (4, _), (5, _), (6, _), (8, _), (9, _), (10, _), (11, _), (12, _), (13, _), (14, _), (15, _)] ?_
        refine vM ?_
        refine vl (Gives.lss rfl rfl rfl) ?_
        refine vA ?_
        refine vn (hK26 _ _ ?_)
        refine Wc.cond _ rfl (fun h87 => ?_) (fun h87 => ?_)
        · first | replace h87 := dT h87 | replace h87 := nT h87 | skip
          refine vR [(3, _), (4, _), (5, _), (6, _), (8, _), (9, _), (10, _), (11, _), (12, _), (13, _)] ?_
          refine vM ?_
          refine vM ?_
          refine vl (Gives.u32and rfl rfl rfl) ?_
          refine vM ?_
          refine vl (Gives.u32not rfl rfl) ?_
          refine vM ?_
          refine vl (Gives.u32and rfl rfl rfl) ?_
          refine vl (Gives.u32xor rfl rfl rfl) ?_
          refine vA ?_
          refine vA ?_
          refine Wl.nil ?_
          refine Wx.blockN ?_
          refine Wx.thenN ?_
          exact hJ25 (_, 0x5a827999) _ _ (.co (.co (.cons rfl (.cons rfl (.cons rfl (.cons rfl (.cons rfl (.cons rfl (.cons rfl (.cons rfl (.cons rfl (.cons rfl (.nil))))))))))))) ⟨by unfold f1S; rw [if_pos (by omega)], by unfold k1S; rw [if_pos (by omega)], rfl⟩
        first | replace h87 := dF h87 | replace h87 := nF h87 | skip
        refine vs fun K27 hK27 => vR [(3, _), (4, _), (5, _), (6, _), (8, _), (9, _), (10, _), (11, _), (12, _), (13, _), (14, _), (15, _)] ?_
        refine vM ?_
        refine vl (Gives.lss rfl rfl rfl) ?_
        refine vA ?_
        refine vn (hK27 _ _ ?_)
        refine Wc.cond _ rfl (fun h98 => ?_) (fun h98 => ?_)
        · first | replace h98 := dT h98 | replace h98 := nT h98 | skip
          refine vR [(3, _), (4, _), (5, _), (6, _), (8, _), (9, _), (10, _), (11, _), (12, _), (13, _), (14, _)] ?_
          refine vA ?_
          refine Wl.nil ?_
          refine Wx.blockN ?_
          refine Wx.thenN ?_
          exact hJ25 (_, 0x6ed9eba1) _ _ (.co (.co (.cons rfl (.cons rfl (.cons rfl (.cons rfl (.cons rfl (.cons rfl (.cons rfl (.cons rfl (.cons rfl (.cons rfl (.nil))))))))))))) ⟨by unfold f1S; rw [if_neg (by omega), if_pos (by omega)], by unfold k1S; rw [if_neg (by omega), if_pos (by omega)], rfl⟩
        first | replace h98 := dF h98 | replace h98 := nF h98 | skip
        refine vs fun K28 hK28 => vR [(3, _), (4, _), (5, _), (6, _), (8, _), (9, _), (10, _), (11, _), (12, _), (13, _), (14, _), (15, _)] ?_
        refine vM ?_
        refine vl (Gives.lss rfl rfl rfl) ?_
        refine vA ?_
        refine vn (hK28 _ _ ?_)
        refine Wc.cond _ rfl (fun h101 => ?_) (fun h101 => ?_)
        · first | replace h101 := dT h101 | replace h101 := nT h101 | skip
          refine vR [(3, _), (4, _), (5, _), (6, _), (8, _), (9, _), (10, _), (11, _), (12, _), (13, _)] ?_
          refine vM ?_
          refine vM ?_
          refine vl (Gives.u32and rfl rfl rfl) ?_
          refine vM ?_
          refine vM ?_
          refine vl (Gives.u32and rfl rfl rfl) ?_
          refine vl (Gives.u32xor rfl rfl rfl) ?_
          refine vM ?_
          refine vM ?_
          refine vl (Gives.u32and rfl rfl rfl) ?_
          refine vl (Gives.u32xor rfl rfl rfl) ?_
          refine vA ?_
          refine vA ?_
          refine Wl.nil ?_
          refine Wx.blockN ?_
          refine Wx.thenN ?_
          exact hJ25 (_, 0x8f1bbcdc) _ _ (.co (.co (.cons rfl (.cons rfl (.cons rfl (.cons rfl (.cons rfl (.cons rfl (.cons rfl (.cons rfl (.cons rfl (.cons rfl (.nil))))))))))))) ⟨by unfold f1S; rw [if_neg (by omega), if_neg (by omega), if_pos (by omega)], by unfold k1S; rw [if_neg (by omega), if_neg (by omega), if_pos (by omega)], rfl⟩
        first | replace h101 := dF h101 | replace h101 := nF h101 | skip
        refine Wc.skip ?_
        refine Wx.blockN ?_
        refine Wx.thenN ?_
        exact hJ25 (_, 0xca62c1d6) _ _ (.co (.co (.cons rfl (.cons rfl (.cons rfl (.cons rfl (.cons rfl (.cons rfl (.cons rfl (.cons rfl (.cons rfl (.cons rfl (.nil))))))))))))) ⟨by unfold f1S; rw [if_neg (by omega), if_neg (by omega), if_neg (by omega)], by unfold k1S; rw [if_neg (by omega), if_neg (by omega), if_neg (by omega)], rfl⟩
      intro ⟨f, kk1⟩ wr6 hJ
      obtain ⟨rfl, rfl, rfl⟩ := hJ
      refine vs fun K29 hK29 => vK [(3, _), (4, _), (5, _), (6, _), (8, _), (9, _), (10, _), (11, _), (12, _), (13, _), (14, _), (15, _)] ?_
      refine Wc.regionD (fun _ => true) Eq (.read 0 (.read 1 (.read 2 (.read 3 (.read 4 (.read 5 (.read 6 (.read 7 (.read 8 (.read 9 (.read 10 .tail))))))))))) 11 (by kernel_rfl) (by kernel_rfl) (by kernel_rfl) (fun _ => rfl) (fun _ _ _ h k => h.trans k) Quiet ⟨1, rfl⟩ ?_
      intro w24 hR24
      have hg24 := hgq.ext hR24.ext
      refine rE rfl (Gives.move rfl rfl) ?_
      refine rE rfl (Gives.call rfl Tryd.func99 rfl (by kernel_rfl) rfl (rotlR _ _ _ (by omega) (by omega))) ?_
      refine rE rfl (Gives.move rfl rfl) ?_
      refine rE rfl (Gives.u32add rfl rfl rfl) ?_
      refine rE rfl (Gives.move rfl rfl) ?_
      refine rE rfl (Gives.u32add rfl rfl rfl) ?_
      refine rE rfl (Gives.move rfl rfl) ?_
      refine rE rfl (Gives.u32add rfl rfl rfl) ?_
      refine rE rfl (Gives.move rfl rfl) ?_
      refine rE rfl (Gives.ixA (i := t) rfl Tryd.underlying118 (by kernel_rfl) rfl rfl (by omega) (by omega)) ?_
      refine rE rfl (Gives.ldC rfl (by kernel_rfl) rfl (hg24.cell0 (gw_some (sch1 B 80) t (by rw [sch1_len]; omega)))) ?_
      refine RunE.tail rfl ?_
      refine vl (Gives.u32add rfl rfl rfl) ?_
      refine vA ?_
      refine vn (hK29 _ _ ?_)
      refine vR [(3, _), (4, _), (5, _), (6, _), (8, _), (9, _), (10, _), (11, _), (13, _), (16, _)] ?_
      refine vM ?_
      refine vM ?_
      refine vM ?_
      refine vl (Gives.call rfl Tryd.func99 rfl (by kernel_rfl) rfl (rotlR _ _ _ (by omega) (by omega))) ?_
      refine vM ?_
      refine vM ?_
      refine vA ?_
      refine vA ?_
      refine vA ?_
      refine vA ?_
      refine vA ?_
      refine Wl.nil ?_
      refine Wx.blockN ?_
      refine Wx.thenN (hK23 _ _ ?_)
      refine vR [(3, _), (4, _), (5, _), (6, _), (8, _), (9, _), (10, _), (11, _), (12, _), (13, _)] ?_
      refine vM ?_
      refine vAdd ?_
      refine vA ?_
      refine Wl.nil ?_
      refine Wx.thenN ?_
      exact hKL3 (t + 1, rnd1 st t (gw (sch1 B 80) t)) _ _ (.co (.co (.co (.co (.co (.co (.cons rfl (.cons rfl (.cons rfl (.cons rfl (.nil))))))))))) ⟨by omega, by rw [hst]; rfl, hQ.trans hR24⟩ (by show 80 - (t + 1) < 80 - t; omega)
    first | replace h79 := dF h79 | replace h79 := nF h79 | skip
    refine Wc.exit ?_
    refine Wx.thenE ?_
    refine Wx.thenE ?_
    refine Wx.hit ?_
    refine Wx.thenN (hK19 _ _ ?_)
    refine vK [(3, _), (4, _), (5, _), (8, _), (9, _), (10, _), (11, _), (12, _)] ?_
    obtain rfl : t = 80 := by omega
    have hh26 := hh13.ext hQ.ext
    refine Wc.regionD (fun _ => true) Eq (.read 0 (.read 1 (.read 2 (.read 3 (.read 4 (.read 5 (.read 6 (.read 7 (.read 8 (.read 9 (.read 10 (.read 11 (.read 12 (.read 13 (.read 14 (.read 15 (.read 16 (.read 17 (.read 18 (.read 19 (.read 20 (.read 21 (.read 22 (.read 23 (.read 24 .tail))))))))))))))))))))))))) 25 (by kernel_rfl) (by kernel_rfl) (by kernel_rfl) (fun _ => rfl) (fun _ _ _ h k => h.trans k) Quiet ⟨1, rfl⟩ ?_
    intro w26 hR26
    have k26 := hh26.ext hR26.ext
    refine rE rfl (Gives.move rfl rfl) ?_
    refine rE rfl (Gives.ixS (i := 0) rfl Tryd.underlying103 (by kernel_rfl) rfl rfl rfl (by omega)) ?_
    refine rE rfl (Gives.ldC rfl (by kernel_rfl) rfl (k26.cell0 (i := 0) (x := s.a) rfl)) ?_
    refine rE rfl (Gives.move rfl rfl) ?_
    refine rE rfl (Gives.u32add rfl rfl rfl) ?_
    refine rE rfl (Gives.move rfl rfl) ?_
    refine rE rfl (Gives.ixS (i := 1) rfl Tryd.underlying103 (by kernel_rfl) rfl rfl rfl (by omega)) ?_
    refine rE rfl (Gives.ldC rfl (by kernel_rfl) rfl (k26.cell0 (i := 1) (x := s.b) rfl)) ?_
    refine rE rfl (Gives.move rfl rfl) ?_
    refine rE rfl (Gives.u32add rfl rfl rfl) ?_
    refine rE rfl (Gives.move rfl rfl) ?_
    refine rE rfl (Gives.ixS (i := 2) rfl Tryd.underlying103 (by kernel_rfl) rfl rfl rfl (by omega)) ?_
    refine rE rfl (Gives.ldC rfl (by kernel_rfl) rfl (k26.cell0 (i := 2) (x := s.c) rfl)) ?_
    refine rE rfl (Gives.move rfl rfl) ?_
    refine rE rfl (Gives.u32add rfl rfl rfl) ?_
    refine rE rfl (Gives.move rfl rfl) ?_
    refine rE rfl (Gives.ixS (i := 3) rfl Tryd.underlying103 (by kernel_rfl) rfl rfl rfl (by omega)) ?_
    refine rE rfl (Gives.ldC rfl (by kernel_rfl) rfl (k26.cell0 (i := 3) (x := s.d) rfl)) ?_
    refine rE rfl (Gives.move rfl rfl) ?_
    refine rE rfl (Gives.u32add rfl rfl rfl) ?_
    refine rE rfl (Gives.move rfl rfl) ?_
    refine rE rfl (Gives.ixS (i := 4) rfl Tryd.underlying103 (by kernel_rfl) rfl rfl rfl (by omega)) ?_
    refine rE rfl (Gives.ldC rfl (by kernel_rfl) rfl (k26.cell0 (i := 4) (x := s.e) rfl)) ?_
    refine rE rfl (Gives.move rfl rfl) ?_
    refine rE rfl (Gives.u32add rfl rfl rfl) ?_
    refine RunE.tail rfl ?_
    refine Wl.does rfl rfl rfl (Does.lit rfl Tryd.underlying103 infoW2 rfl rfl rfl rfl rfl) ?_
    rintro _ w26b ⟨gn, rfl, hgn, hkn, hE26⟩
    have hE0 : Ext wr wi := Ext.over hE6 hF hg
    have hE1 : Ext wr w26b := ((hE0.trans hQ.ext).trans hR26.ext).trans hE26
    have hkn2 : WB w26b gn 98 (blocks1 x iv1 (k + 1)).l := by
      have e : blocks1 x iv1 (k + 1) = add5 s st := by rw [hst, hs, hB]; rfl
      rw [e]; exact hkn
    refine vA ?_
    refine Wl.nil ?_
    refine Wx.blockN ?_
    refine Wx.thenN (hK8 _ _ ?_)
    refine vR [(3, _), (4, _), (5, _)] ?_
    refine vM ?_
    refine vAdd ?_
    refine vA ?_
    refine Wl.nil ?_
    refine Wx.thenN ?_
    exact hKL1 (k + 1, gn) _ _ (.co (.co (.cons rfl (.nil)))) ⟨by omega, hkn2, hX.ext hE1, by have := hE1.size; omega, hE.trans hE1⟩ (by show N - (k + 1) < N - k; omega)
  first | replace h23 := dF h23 | replace h23 := nF h23 | skip
  refine Wc.exit ?_
  refine Wx.thenE ?_
  refine Wx.thenE ?_
  refine Wx.hit ?_
  refine Wx.thenN (hK4 _ _ ?_)
  refine vs fun K30 hK30 => vK [(3, _)] ?_
  obtain rfl : k = N := by omega
  refine Wc.region ?_
  refine vM ?_
  refine Wl.call rfl rfl rfl rfl Tryd.func100 rfl (by kernel_rfl) rfl (bytesR_calls wr _ 5 5 _ (hh.uv (P := fun _ => True) trivial rfl (Nat.le_refl _) (by omega)) (by omega)) ?_
  rintro x28 w29 ⟨S, m, kk, rfl, hO, hE29⟩
  refine ⟨_, rfl, ?_⟩
  refine vA ?_
  refine vn (hK30 _ _ ?_)
  refine Wc.ret ?_
  refine Wx.ret [_] ⟨rfl, trivial⟩ ?_
  have hm20 : m = 20 := by have := hO.len; rw [bytesS_len] at this; exact this.symm
  subst hm20
  have hfin : sha1S l = bytesS (blocks1 x iv1 k).l := by
    unfold sha1S; rw [hx]; congr 3; omega
  refine ⟨S, kk, rfl, by rw [hfin]; exact hO.mono hE.size, hE.trans hE29⟩
end Go.Proofs.YtnbgieccindpnaaDoor
