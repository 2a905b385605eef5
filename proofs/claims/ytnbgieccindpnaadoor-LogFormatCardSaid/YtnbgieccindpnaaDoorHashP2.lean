/- The program's SHA-256: word, spread, rotations, one block. -/
import Derived.Test.YtnbgieccindpnaaDoorHashP
namespace Go.Proofs.YtnbgieccindpnaaDoor
set_option linter.all false
set_option maxRecDepth 20000
open Go.RowKit
theorem wordP_calls {P : Nat → Prop} (w : World) (A : Option Addr) (n c : Nat) (l : List UInt8) (ha : BV w P A n c l) (t : Nat) (ht : 4 * t + 3 < n) :
    Calls Tryd.prog 95 #[.slice A n c, .int .i64 t] w fun e w' => e = .returned (.int .u32 ((wordS l t).toNat : Int)) ∧ Quiet w w' := by
  have hle := ha.le
  obtain ⟨b, off, x0, rfl, hl0, hb0, hc0⟩ := ha.get (show 4 * t < n by omega)
  obtain ⟨b1, off1, x1, hb1, hl1, _, hc1⟩ := ha.get (show 4 * t + 1 < n by omega)
  injection hb1 with hb1; injection hb1 with hb1 hb2; subst hb1; subst hb2
  obtain ⟨b1, off1, x2, hb1, hl2, _, hc2⟩ := ha.get (show 4 * t + 2 < n by omega)
  injection hb1 with hb1; injection hb1 with hb1 hb2; subst hb1; subst hb2
  obtain ⟨b1, off1, x3, hb1, hl3, _, hc3⟩ := ha.get (show 4 * t + 3 < n by omega)
  injection hb1 with hb1; injection hb1 with hb1 hb2; subst hb1; subst hb2
  refine calls_enter Tryd.func95 rfl Tryd.ntmps95 rfl ?_
  refine vs fun K1 hK1 => vR [(0, _), (1, _)] ?_
  refine vA ?_
  refine vn (hK1 _ _ ?_)
  refine vs fun K2 hK2 => vK [(0, _), (1, _)] ?_
  refine Wc.regionD (fun _ => true) Eq (.read 0 (.read 1 (.read 2 (.read 3 (.read 4 (.read 5 (.read 6 (.read 7 (.read 8 (.read 9 (.read 10 (.read 11 (.read 12 (.read 13 (.read 14 (.read 15 (.read 16 (.read 17 (.read 18 (.read 19 (.read 20 (.read 21 (.read 22 (.read 23 (.read 24 (.read 25 (.read 26 (.read 27 (.read 28 (.read 29 (.read 30 (.read 31 .tail)))))))))))))))))))))))))))))))) 32 (by kernel_rfl) (by kernel_rfl) (by kernel_rfl) (fun _ => rfl) (fun _ _ _ h k => h.trans k) Quiet ⟨1, rfl⟩ ?_
  intro w1 hR1
  have hcell : ∀ p, w1.cell? p = w.cell? p := fun p => by obtain ⟨q, rfl⟩ := hR1; rfl
  refine rE rfl (Gives.move rfl rfl) ?_
  refine rE rfl (Gives.move rfl rfl) ?_
  refine rE rfl (Gives.mul rfl rfl rfl (by first | exact IntWalk.i64_in _ (by omega) | exact u64_in _ (by omega) | exact u32_in _ (by omega) | exact u8_in _ (by omega) | exact rfl)) ?_
  refine rE rfl (Gives.ixS (i := 4 * t) rfl Tryd.underlying22 (by kernel_rfl) rfl rfl (by omega) (by omega)) ?_
  refine rE rfl (Gives.ldC rfl (by kernel_rfl) rfl ((hcell _).trans hc0)) ?_
  refine rE rfl (Gives.u8u32 rfl Tryd.underlying5 Tryd.underlying98 rfl) ?_
  refine rE rfl (Gives.u32shl 24 rfl rfl rfl (by omega)) ?_
  refine rE rfl (Gives.move rfl rfl) ?_
  refine rE rfl (Gives.move rfl rfl) ?_
  refine rE rfl (Gives.mul rfl rfl rfl (by first | exact IntWalk.i64_in _ (by omega) | exact u64_in _ (by omega) | exact u32_in _ (by omega) | exact u8_in _ (by omega) | exact rfl)) ?_
  refine rE rfl (gAdd rfl rfl rfl) ?_
  refine rE rfl (Gives.ixS (i := 4 * t + 1) rfl Tryd.underlying22 (by kernel_rfl) rfl rfl (by omega) (by omega)) ?_
  refine rE rfl (Gives.ldC rfl (by kernel_rfl) rfl ((hcell _).trans hc1)) ?_
  refine rE rfl (Gives.u8u32 rfl Tryd.underlying5 Tryd.underlying98 rfl) ?_
  refine rE rfl (Gives.u32shl 16 rfl rfl rfl (by omega)) ?_
  refine rE rfl (Gives.u32or rfl rfl rfl) ?_
  refine rE rfl (Gives.move rfl rfl) ?_
  refine rE rfl (Gives.move rfl rfl) ?_
  refine rE rfl (Gives.mul rfl rfl rfl (by first | exact IntWalk.i64_in _ (by omega) | exact u64_in _ (by omega) | exact u32_in _ (by omega) | exact u8_in _ (by omega) | exact rfl)) ?_
  refine rE rfl (gAdd rfl rfl rfl) ?_
  refine rE rfl (Gives.ixS (i := 4 * t + 2) rfl Tryd.underlying22 (by kernel_rfl) rfl rfl (by omega) (by omega)) ?_
  refine rE rfl (Gives.ldC rfl (by kernel_rfl) rfl ((hcell _).trans hc2)) ?_
  refine rE rfl (Gives.u8u32 rfl Tryd.underlying5 Tryd.underlying98 rfl) ?_
  refine rE rfl (Gives.u32shl 8 rfl rfl rfl (by omega)) ?_
  refine rE rfl (Gives.u32or rfl rfl rfl) ?_
  refine rE rfl (Gives.move rfl rfl) ?_
  refine rE rfl (Gives.move rfl rfl) ?_
  refine rE rfl (Gives.mul rfl rfl rfl (by first | exact IntWalk.i64_in _ (by omega) | exact u64_in _ (by omega) | exact u32_in _ (by omega) | exact u8_in _ (by omega) | exact rfl)) ?_
  refine rE rfl (gAdd rfl rfl rfl) ?_
  refine rE rfl (Gives.ixS (i := 4 * t + 3) rfl Tryd.underlying22 (by kernel_rfl) rfl rfl (by omega) (by omega)) ?_
  refine rE rfl (Gives.ldC rfl (by kernel_rfl) rfl ((hcell _).trans hc3)) ?_
  refine rE rfl (Gives.u8u32 rfl Tryd.underlying5 Tryd.underlying98 rfl) ?_
  refine RunE.tail rfl ?_
  refine vl (Gives.u32or rfl rfl rfl) ?_
  refine vA ?_
  refine vn (hK2 _ _ ?_)
  refine Wc.ret ?_
  refine Wx.ret [_] ⟨rfl, trivial⟩ ?_
  exact ⟨by unfold wordS gb word4; simp [hl0, hl1, hl2, hl3]; rfl, hR1⟩
theorem rot_bits (m : Nat) (h1 : 1 ≤ m) (h2 : m ≤ 31) : bits .and .u64 (IntKind.u64.wrap (-(m : Int))) 31 = ((32 - m : Nat) : Int) := by
  have h : ∀ q : Fin 31, bits .and .u64 (IntKind.u64.wrap (-((q.val + 1 : Nat) : Int))) 31 = ((32 - (q.val + 1) : Nat) : Int) := by decide +kernel
  have := h ⟨m - 1, by omega⟩
  simpa [show m - 1 + 1 = m by omega] using this
theorem rotl_calls (w : World) (x : UInt32) (z : Int) (h1 : -31 ≤ z) (h2 : z ≤ -1) :
    Calls Tryd.prog 96 #[.int .u32 (x.toNat : Int), .int .i64 z] w fun e w' => e = .returned (.int .u32 ((rr x (-z).toNat).toNat : Int)) ∧ w = w' := by
  obtain ⟨m, hm⟩ : ∃ m : Nat, z = -(m : Int) := ⟨(-z).toNat, by omega⟩
  subst hm
  have hz : (-(-(m : Int))).toNat = m := by omega
  rw [hz]
  refine calls_enter Tryd.func96 rfl Tryd.ntmps96 rfl ?_
  refine vs fun K1 hK1 => vR [(0, _), (1, _)] ?_
  refine vA ?_
  refine vn (hK1 _ _ ?_)
  refine vs fun K2 hK2 => vR [(0, _), (1, _)] ?_
  refine vM ?_
  refine vl (Gives.conv rfl Tryd.underlying3 Tryd.underlying73 rfl rfl) ?_
  refine vl (Gives.bits .and (by simp) rfl rfl rfl (rot_bits m (by omega) (by omega))) ?_
  refine vA ?_
  refine vn (hK2 _ _ ?_)
  refine vs fun K3 hK3 => vR [(0, _), (5, _)] ?_
  refine vM ?_
  refine vM ?_
  refine vl (Gives.u32shl (32 - m) rfl rfl rfl (by omega)) ?_
  refine vM ?_
  refine vM ?_
  refine vl (Gives.sub rfl rfl rfl (show IntKind.u64.wrap (32 - ((32 - m : Nat) : Int)) = ((m : Nat) : Int) by rw [u64_in _ (by omega)]; omega)) ?_
  refine vl (Gives.u32shr m rfl rfl rfl (by omega)) ?_
  refine vl (Gives.u32or rfl rfl rfl) ?_
  refine vA ?_
  refine vn (hK3 _ _ ?_)
  refine Wc.ret ?_
  refine Wx.ret [_] ⟨rfl, trivial⟩ ?_
  exact ⟨by unfold rr; rw [UInt32.or_comm]; rfl, rfl⟩
theorem mb4 {w : World} {g : Nat} {t : TypeId} {a b c d : Int} (x : UInt32) (h : Blk w g t [Value.int .u8 a, Value.int .u8 b, Value.int .u8 c, Value.int .u8 d].toArray) (ha : a = (x.toNat : Int) / 16777216 % 256) (hb : b = (x.toNat : Int) / 65536 % 256) (hc : c = (x.toNat : Int) / 256 % 256) (hd : d = (x.toNat : Int) % 256) : MB w g t (bytes4 x) := by
  subst ha hb hc hd
  unfold MB
  have e : u8s (bytes4 x) = [.int .u8 ((x.toNat : Int) / 16777216 % 256), .int .u8 ((x.toNat : Int) / 65536 % 256), .int .u8 ((x.toNat : Int) / 256 % 256), .int .u8 ((x.toNat : Int) % 256)] := by
    simp only [u8s, bytes4, List.map, UInt8.toNat_ofNat']
    congr 1
    · congr 1; omega
    · congr 1
      · congr 1; omega
      · congr 1
        · congr 1; omega
        · congr 1; congr 1; omega
  rw [e]
  exact h
theorem spread_calls {P : Nat → Prop} (w : World) (A : Option Addr) (n c : Nat) (l : List UInt32) (ha : UV w P A n c l) (hn : n ≤ 1000000) :
    Calls Tryd.prog 77 #[.slice A n c] w fun e w' => ∃ S m k, e = .returned (.slice S m k) ∧ OB w' w.heap.size 5 S m k (bytesS l) ∧ Ext w w' := by
  have HL := ha.len
  refine calls_enter Tryd.func77 rfl Tryd.ntmps77 rfl ?_
  refine vs fun K1 hK1 => vR [(0, _)] ?_
  refine vA ?_
  refine vn (hK1 _ _ ?_)
  refine vs fun K2 hK2 => vR [(0, _)] ?_
  refine vM ?_
  refine vl (Gives.lenS rfl Tryd.underlying103 rfl) ?_
  refine vl (Gives.mul rfl rfl rfl (by first | exact IntWalk.i64_in _ (by omega) | exact u64_in _ (by omega) | exact u32_in _ (by omega) | exact u8_in _ (by omega) | exact rfl)) ?_
  refine Wl.does rfl rfl rfl (Does.mk0 (4 * n) rfl rfl Tryd.underlying22 infoB rfl rfl (by omega) (by omega) (by omega)) ?_
  rintro _ w1 ⟨g1, rfl, hO1, hE1⟩
  replace hO1 : OB w1 w.heap.size 5 (some ⟨g1, 0, none⟩) 0 (4 * n) [] := hO1
  refine vA ?_
  refine vn (hK2 _ _ ?_)
  refine Wc.seq (fun K3 hK3 => ?_)
  refine vs fun K4 hK4 => vR [(0, _), (3, _)] ?_
  refine vM ?_
  refine vl (Gives.lenS rfl Tryd.underlying103 rfl) ?_
  refine vM ?_
  refine vn (hK4 _ _ ?_)
  refine Wc.block ?_
  refine vK [(3, _), (10, _), (11, _), (12, _)] ?_
  refine Wc.loopC (ι := Nat × Option Addr × Nat × Nat) [(10, _), (11, _)] (fun | (j, S, m, kk) => [(12, .int .i64 (j : Int)), (3, .slice S m kk)]) (fun | (j, S, m, kk), wr => OB wr w.heap.size 5 S m kk (bytesS (l.take j)) ∧ j ≤ n ∧ Ext w wr) (fun | (j, S, m, kk) => n - j) ((0, some ⟨g1, 0, none⟩, 0, 4 * n)) (.co (.co (.cons rfl (.cons rfl (.nil))))) (⟨hO1, Nat.zero_le _, hE1⟩) ?_
  intro ⟨j, S, m, kk⟩ wr hJ KL1 hKL1
  obtain ⟨hO, hj, hE⟩ := hJ
  have hml : m ≤ 4 * n := by have h1 := hO.len; rw [bytesS_len, List.length_take] at h1; omega
  refine vs fun K5 hK5 => vR [(3, _), (10, _), (11, _), (12, _)] ?_
  refine vl (Gives.lss rfl rfl rfl) ?_
  refine vn (hK5 _ _ ?_)
  refine Wc.seq (fun K6 hK6 => ?_)
  refine Wc.cond _ rfl (fun h13 => ?_) (fun h13 => ?_)
  · first | replace h13 := dT h13 | replace h13 := nT h13 | skip
    refine Wc.skip ?_
    refine Wx.thenN (hK6 _ _ ?_)
    refine Wc.seq (fun K7 hK7 => ?_)
    refine Wc.block ?_
    refine vs fun K8 hK8 => vK [(3, _), (10, _), (11, _), (12, _)] ?_
    obtain ⟨b, off, x, rfl, hx, hb, hc0⟩ := ha.get (show j < n by omega)
    have hc1 : wr.cell? ⟨b, off + j, none⟩ = some (.int .u32 (x.toNat : Int)) := (hE.cells.1 _ _ hb).trans hc0
    refine Wc.region ?_
    refine vl (Gives.ixS (i := _) rfl Tryd.underlying103 (by kernel_rfl) rfl rfl rfl (by omega)) ?_
    refine vl (Gives.ldC rfl (by kernel_rfl) rfl hc1) ?_
    refine vA ?_
    refine vn (hK8 _ _ ?_)
    refine vR [(3, _), (5, _), (10, _), (11, _), (12, _)] ?_
    refine vM ?_
    refine vM ?_
    refine vl (Gives.shrN 24 rfl rfl rfl rfl rfl) ?_
    refine vl (Gives.conv rfl Tryd.underlying98 Tryd.underlying5 rfl (wrap8 _)) ?_
    refine vM ?_
    refine vl (Gives.shrN 16 rfl rfl rfl rfl rfl) ?_
    refine vl (Gives.conv rfl Tryd.underlying98 Tryd.underlying5 rfl (wrap8 _)) ?_
    refine vM ?_
    refine vl (Gives.shrN 8 rfl rfl rfl rfl rfl) ?_
    refine vl (Gives.conv rfl Tryd.underlying98 Tryd.underlying5 rfl (wrap8 _)) ?_
    refine vM ?_
    refine vl (Gives.conv rfl Tryd.underlying98 Tryd.underlying5 rfl (wrap8 _)) ?_
    refine Wl.does rfl rfl rfl (Does.lit rfl Tryd.underlying22 infoB2 rfl rfl rfl rfl rfl) ?_
    rintro _ w5 ⟨g5, rfl, hg5, hk5, hE5⟩
    refine Wl.does rfl rfl rfl (Does.appO rfl Tryd.underlying22 infoB rfl rfl (hO.ext hE5) ((mb4 x hk5 (by omega) (by omega) (by omega) (by omega)).bv (P := fun _ => True) trivial rfl (Nat.le_refl _) (by omega)) (by omega) (hE.trans hE5).size) ?_
    rintro _ w6 ⟨S6, k6, rfl, hO6, hB6⟩
    have hE6 : Ext w w6 := Ext.step (hE.trans hE5) hB6 (Nat.le_refl _)
    have hstep : bytesS (l.take j) ++ bytes4 x = bytesS (l.take (j + 1)) := by
      have hk := (List.getElem?_eq_some_iff.1 hx).1
      rw [List.take_succ_eq_append_getElem hk, (List.getElem?_eq_some_iff.1 hx).2, bytesS_app]; simp [bytesS]
    rw [hstep] at hO6
    refine vA ?_
    refine Wl.nil ?_
    refine Wx.blockN ?_
    refine Wx.thenN (hK7 _ _ ?_)
    refine vR [(3, _), (10, _), (11, _), (12, _)] ?_
    refine vAdd ?_
    refine vM ?_
    refine Wl.nil ?_
    refine Wx.thenN ?_
    refine hKL1 (j + 1, S6, m + 4, k6) _ _ (.co (.co (.cons rfl (.cons rfl (.nil))))) ⟨hO6, by omega, hE6⟩ (by show n - (j + 1) < n - j; omega)
  first | replace h13 := dF h13 | replace h13 := nF h13 | skip
  refine Wc.exit ?_
  refine Wx.thenE ?_
  refine Wx.thenE ?_
  refine Wx.hit ?_
  refine Wx.thenN (hK3 _ _ ?_)
  refine vs fun K9 hK9 => vK [(3, _)] ?_
  obtain rfl : j = n := by omega
  rw [List.take_of_length_le (by omega)] at hO
  refine Wc.region ?_
  refine vM ?_
  refine vA ?_
  refine vn (hK9 _ _ ?_)
  refine Wc.ret ?_
  refine Wx.ret [_] ⟨rfl, trivial⟩ ?_
  exact ⟨S, m, kk, rfl, hO, hE⟩
end Go.Proofs.YtnbgieccindpnaaDoor
