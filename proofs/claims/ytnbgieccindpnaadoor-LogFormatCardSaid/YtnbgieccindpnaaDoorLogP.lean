/- LogP: merged. -/
import Derived.Test.YtnbgieccindpnaaDoorLogO
import Derived.ArgAppend
/- Drawn logs: bytes with room, digests, labels, events. -/
namespace Go.Proofs.YtnbgieccindpnaaDoor
set_option linter.all false
set_option maxRecDepth 20000
open Go.RowKit
/-! bytes made of a string, and what is appended to them -/
theorem tape_setCells (b : Nat) : ∀ (vs : List Value) (o : Nat) (w : World), (w.setCells b o vs).tape = w.tape
  | [], _, _ => rfl
  | v :: r, o, w => (tape_setCells b r (o + 1) (w.setCell ⟨b, o, none⟩ v)).trans rfl
theorem fr_setCells (b : Nat) (vs : List Value) (o : Nat) (w : World) : Fr (fun k => k ≠ b) w (w.setCells b o vs) :=
  have h := World.keptBut_setCells b (may := fun p => p.block = b) vs o w (fun _ _ => rfl)
  ⟨h.1, tape_setCells b vs o w, h.2.1, h.size, fun _ hk hP => h.block hk (fun _ hp e => hP (e.symm.trans hp))⟩
/-- bytes of the call's own that may be written up to their capacity -/
def SB (w : World) (base : Nat) (A : Option Addr) (n c : Nat) (l : List UInt8) : Prop :=
  BV w (fun k => base ≤ k) A n c l ∧ (A = none → c = 0) ∧ (0 < c → ∃ g, A = some ⟨g, 0, none⟩ ∧ base ≤ g ∧ g < w.heap.size ∧ ∀ j, j < c → (w.cell? ⟨g, j, none⟩).isSome = true ∧ w.frozen? ⟨g, j, none⟩ = false)
theorem SB.ext {w w' : World} {base n c : Nat} {A : Option Addr} {l : List UInt8} (h : SB w base A n c l) (e : Ext w w') : SB w' base A n c l := by
  refine ⟨h.1.ext e, h.2.1, fun hc => ?_⟩
  obtain ⟨g, hA, hb, hg, hj⟩ := h.2.2 hc
  have hbl := e.below.block g hg
  exact ⟨g, hA, hb, Nat.lt_of_lt_of_le hg e.size, fun j hj' => ⟨by rw [World.cell?_of_block (a := ⟨g, j, none⟩) hbl]; exact (hj j hj').1, (World.frozen?_of_block (a := ⟨g, j, none⟩) hbl).trans (hj j hj').2⟩⟩
theorem SB.low {w : World} {base base' n c : Nat} {A : Option Addr} {l : List UInt8} (h : SB w base A n c l) (hb : base' ≤ base) : SB w base' A n c l :=
  ⟨h.1.mono fun k hk => Nat.le_trans hb hk, h.2.1, fun hc => let ⟨g, h1, h2, h3⟩ := h.2.2 hc; ⟨g, h1, Nat.le_trans hb h2, h3⟩⟩
theorem SB.of {w : World} {base n c : Nat} {A : Option Addr} {el : TypeId} {l : List UInt8} (h : OB w base el A n c l) : SB w base A n c l := by
  refine ⟨h.bv fun _ hk => hk, fun hA => ?_, fun hc => ?_⟩
  · rcases h.2 with ⟨hv, h0⟩ | ⟨g, cap, cur, hv, _⟩
    · simp only [Value.slice.injEq] at hv; exact hv.2.2
    · simp only [Value.slice.injEq] at hv; rw [hA] at hv; cases hv.1
  · rcases h.2 with ⟨hv, h0⟩ | ⟨g, cap, cur, hv, hb, hg, hnc, hcm, hcs, ht⟩
    · simp only [Value.slice.injEq] at hv; omega
    · simp only [Value.slice.injEq] at hv
      obtain ⟨rfl, _, rfl⟩ := hv
      have hlt := (Array.getElem?_eq_some_iff.1 hg).1
      refine ⟨g, rfl, hb, hlt, fun j hj => ⟨?_, ?_⟩⟩
      · rw [cell_of_row w g j cur _ _ hg, Array.getElem?_eq_getElem (by omega)]; rfl
      · simp [World.frozen?, hg]
section
variable {P : Program} {n : Nat} {e : Env} {w : World} {o : Oper} {x y : Operand} {t t' el : TypeId} {l r : List UInt8}
/-- '[]byte(s)', with its room -/
theorem Does.toBytesS (ho : o.op = .convert t t' x) (hs : P.underlying t = some .string) (hd : P.underlying t' = some (.slice el)) (he : P.underlying el = some (.int .u8)) (hx : ev e x = some (txt l)) (hl : l.length ≤ 9223372036854775807) :
    Does P n o e w (fun v w' => ∃ A c, v = .slice A l.length c ∧ SB w' w.heap.size A l.length c l ∧ Ext w w') :=
  fun a ha ops Q rest hw hK => BigFrame.wpList_want hw fun K hk => by
    have hrun : (execOp a.eval o).run P w = .ok (.value (.slice (some ⟨w.heap.size, 0, none⟩) l.length (grownCap w l.length 0 el))) (w.drew.alloc (.cells (bytesRow ⟨⟨l⟩⟩ (grownCap w l.length 0 el)) el ((bytesRow ⟨⟨l⟩⟩ (grownCap w l.length 0 el)).size, (bytesRow ⟨⟨l⟩⟩ (grownCap w l.length 0 el)).size + 1))) := by
      unfold execOp
      simp only [ho, ha.ev hx, txt, Sem.run_bind, run_bytes_of_string w t t' el ⟨⟨l⟩⟩ hs hd he, Result.andThen_ok, Sem.run_pure, txt_size]
    unfold Oper.wp
    rw [hrun]
    have hcm : grownCap w l.length 0 el ≤ maxLen := grownCap_le_maxLen w l.length 0 el (by simpa [maxLen] using hl)
    have hge := grownCap_ge w l.length 0 el
    generalize grownCap w l.length 0 el = c at *
    have hbs : (bytesRow ⟨⟨l⟩⟩ c).size = c := by
      unfold bytesRow
      rw [Array.size_append, Array.size_map, Array.size_replicate, txt_size]
      show l.length + (c - l.length) = c
      omega
    have hh : (w.drew.alloc (.cells (bytesRow ⟨⟨l⟩⟩ c) el ((bytesRow ⟨⟨l⟩⟩ c).size, (bytesRow ⟨⟨l⟩⟩ c).size + 1))).heap[w.heap.size]? = some (.cells (bytesRow ⟨⟨l⟩⟩ c) el ((bytesRow ⟨⟨l⟩⟩ c).size, (bytesRow ⟨⟨l⟩⟩ c).size + 1)) := by
      show (w.heap.push _)[w.heap.size]? = _
      simp
    have hlt : w.heap.size < (w.drew.alloc (.cells (bytesRow ⟨⟨l⟩⟩ c) el ((bytesRow ⟨⟨l⟩⟩ c).size, (bytesRow ⟨⟨l⟩⟩ c).size + 1))).heap.size := (Array.getElem?_eq_some_iff.1 hh).1
    refine hk _ _ (hK _ _ ⟨some ⟨w.heap.size, 0, none⟩, c, rfl, ⟨⟨by simp [u8s], hge, hcm, fun hn => ⟨w.heap.size, 0, rfl, hlt, Nat.le_refl _, fun i v hv => ?_⟩⟩, fun hA => (by cases hA), fun hc => ⟨w.heap.size, rfl, Nat.le_refl _, hlt, fun j hj => ⟨?_, ?_⟩⟩⟩, ((Ext.refl w).drew).alloc _⟩)
    · have hi := (List.getElem?_eq_some_iff.1 hv).1
      rw [Nat.zero_add, cell_of_row _ _ i _ _ _ hh]
      rw [u8s_length] at hi
      unfold bytesRow
      rw [Array.getElem?_append_left (by simpa using hi)]
      simpa [u8s] using hv
    · rw [cell_of_row _ _ j _ _ _ hh, Array.getElem?_eq_getElem (by omega)]; rfl
    · simp only [World.frozen?, hh, Bool.and_eq_false_iff, decide_eq_false_iff_not]
      left
      omega
/-- 'append' onto such bytes -/
theorem Does.appS {S : Nat → Prop} {A B : Option Addr} {m c p sc base : Nat} (ho : o.op = .call { callee := .builtin .append, args := #[x, y], argTypes := #[t, t] }) (ht : P.underlying t = some (.slice el)) (hinf : (P.info? el).map (fun i => (i.zero, i.size, i.bytes)) = some (some (.int .u8 0), 1, 1))
    (hx : ev e x = some (.slice B p sc)) (hy : ev e y = some (.slice A m c)) (hB : SB w base B p sc l) (hA : BV w S A m c r) (hb : base ≤ w.heap.size) (hbytes : p + m ≤ 140737488355328) :
    Does P n o e w (fun v w' => ∃ B' sc', v = .slice B' (p + m) sc' ∧ SB w' base B' (p + m) sc' (l ++ r) ∧ Below base w w') := by
  have hll := hB.1.len
  have hrl := hA.len
  have hle := hB.1.le
  rcases Nat.eq_zero_or_pos m with hm | hm
  · subst hm
    obtain rfl : r = [] := List.eq_nil_of_length_eq_zero hrl
    intro a ha ops Q rest hw hK
    refine BigFrame.wpList_want hw fun K hk => ?_
    obtain ⟨i, hi, _⟩ := info_parts hinf
    have hrun := run_app_none (P := P) (w := w) (ty := o.type) ht hi B A p sc c hle.1
    unfold Oper.wp execOp
    simp only [ho, resolve, invoke, builtin, Sem.run_bind, Sem.run_pure, Result.andThen_ok, List.map_toArray, List.map_cons, List.map_nil, ha.ev hx, ha.ev hy, hrun]
    exact hk _ _ (hK _ w ⟨B, sc, rfl, by rw [List.append_nil]; exact hB, Below.refl _ _⟩)
  · rcases Nat.lt_or_ge sc (p + m) with hg | hg
    · refine (Does.appN ho ht hinf rfl hx hy hB.1 hB.2.1 hA hm hg (by omega) (by decide)).mono ?_
      rintro _ w' ⟨g, c', rfl, h1, h2, h3⟩
      have hO : OB w' w.heap.size el (some ⟨g, 0, none⟩) (p + m) c' (l ++ r) := by
        unfold OB
        rw [← u8s_append]
        exact h2
      exact ⟨_, c', rfl, (SB.of hO).low hb, (h3.below).mono hb⟩
    · obtain ⟨g, rfl, hbg, hgl, hj⟩ := hB.2.2 (by omega)
      obtain ⟨b, off, rfl, _, _, hc⟩ := hA.2.2.2 hm
      intro a ha ops Q rest hw hK
      refine BigFrame.wpList_want hw fun K hk => ?_
      obtain ⟨i, hi, _, hi1, _⟩ := info_parts hinf
      have hul : (u8s r).length = m := by rw [u8s_length, hrl]
      have hone : ∀ u ∈ u8s r, u.oneCell' = true := by
        intro u hu
        simp only [u8s, List.mem_map] at hu
        obtain ⟨b, _, rfl⟩ := hu
        rfl
      have hin : ∀ j, j < (u8s r).length → (w.cell? ⟨g, p + j, none⟩).isSome = true := fun j h => (hj (p + j) (by omega)).1
      have hrun := run_append_room_cells (P := P) w t o.type el i ht hi g 0 p sc ⟨b, off, none⟩ m c (u8s r) (by rw [hul, hi1, Nat.mul_one]) (fun j v hv => by rw [Addr.add_lit]; exact hc j v hv) hone hg (fun j h => by rw [hi1, Nat.mul_one, Nat.zero_add]; exact hin j h) (fun j h => by rw [hi1, Nat.mul_one, Nat.zero_add]; exact (hj (p + j) (by omega)).2)
      rw [hi1, Nat.mul_one, Nat.zero_add] at hrun
      unfold Oper.wp execOp
      simp only [ho, resolve, invoke, builtin, Sem.run_bind, Sem.run_pure, Result.andThen_ok, List.map_toArray, List.map_cons, List.map_nil, ha.ev hx, ha.ev hy, hrun]
      have hF := fr_setCells g (u8s r) p w
      refine hk _ _ (hK _ _ ⟨some ⟨g, 0, none⟩, sc, rfl, ⟨⟨by rw [u8s_length, List.length_append]; omega, hg, hB.1.2.2.1, fun _ => ⟨g, 0, rfl, Nat.lt_of_lt_of_le hgl hF.size, hbg, fun j v hv => ?_⟩⟩, fun hA => (by cases hA), fun _ => ⟨g, rfl, hbg, Nat.lt_of_lt_of_le hgl hF.size, fun j hjj => ⟨?_, ?_⟩⟩⟩, ⟨hF.os, hF.tape, hF.output, hF.size, fun k hk' => hF.block k (by omega) (by omega)⟩⟩)
      · rw [Nat.zero_add]
        rw [← u8s_append] at hv
        have hpl : (u8s l).length = p := by rw [u8s_length, hll]
        rcases Nat.lt_or_ge j p with hjp | hjp
        · rw [World.cell?_setCells_out g (u8s r) p w ⟨g, j, none⟩ (fun _ _ => .inl hjp)]
          rw [List.getElem?_append_left (by omega)] at hv
          obtain ⟨b', off', hA', _, _, hc'⟩ := hB.1.2.2.2 (by omega)
          cases hA'
          have := hc' j v hv
          rwa [Nat.zero_add] at this
        · rw [List.getElem?_append_right (by omega), hpl] at hv
          obtain ⟨hj1, hj2⟩ := List.getElem?_eq_some_iff.1 hv
          have := World.cell?_setCells_in g (u8s r) p w hin (j - p) hj1
          rw [show p + (j - p) = j by omega] at this
          rw [this, hj2]
      · rcases Nat.lt_or_ge j p with hjp | hjp
        · rw [World.cell?_setCells_out g (u8s r) p w ⟨g, j, none⟩ (fun _ _ => .inl hjp)]; exact (hj j hjj).1
        · rcases Nat.lt_or_ge j (p + m) with hjm | hjm
          · have := World.cell?_setCells_in g (u8s r) p w hin (j - p) (by omega)
            rw [show p + (j - p) = j by omega] at this
            rw [this]; rfl
          · rw [World.cell?_setCells_out g (u8s r) p w ⟨g, j, none⟩ (fun _ _ => .inr (by show p + (u8s r).length ≤ j; omega))]; exact (hj j hjj).1
      · rw [World.frozen?_setCells]; exact (hj j hjj).2
end
/-! numbers, labels, separators -/
theorem quo10 (t : Nat) (h : t ≤ 1000000000) : IntKind.i64.wrap ((t : Int).tdiv 10) = ((t / 10 : Nat) : Int) := by
  rw [show (t : Int).tdiv 10 = ((t / 10 : Nat) : Int) from rfl]
  exact IntWalk.i64_in _ (by omega)
def NumR (w : World) (d : Nat) (e : Ending) (w' : World) : Prop := ∃ S m k l, e = .returned (.slice S m k) ∧ OB w' w.heap.size 5 S m k l ∧ m ≤ d + 1 ∧ Ext w w'
set_option maxRecDepth 20000 in
set_option maxHeartbeats 1000000 in
theorem numD (d : Nat) : d ≤ 6 → ∀ (w : World) (t : Nat), t < 10 ^ (d + 1) → t ≤ 1000000 → Calls Tryd.prog 105 #[.int .i64 (t : Int)] w (NumR w d) := by
  induction d using Nat.strongRecOn with
  | ind d ih =>
  intro hd6 w t h h2
  refine calls_enter Tryd.func105 rfl Tryd.ntmps105 rfl ?_
  have hE : Ext w w := Ext.refl w
  refine vs fun K1 hK1 => vR [(0, _)] ?_
  refine vA ?_
  refine vn (hK1 _ _ ?_)
  refine Wc.seq (fun K2 hK2 => ?_)
  refine vs fun K3 hK3 => vR [(0, _)] ?_
  refine vM ?_
  refine vl (Gives.lss rfl rfl rfl) ?_
  refine vn (hK3 _ _ ?_)
  refine Wc.cond _ rfl (fun h4 => ?_) (fun h4 => ?_)
  · first | replace h4 := dT h4 | replace h4 := nT h4 | skip
    refine vs fun K4 hK4 => vR [(0, _)] ?_
    refine vM ?_
    refine vAdd ?_
    refine vl (Gives.conv rfl Tryd.underlying3 Tryd.underlying5 rfl (by first | exact IntWalk.i64_in _ (by omega) | exact u64_in _ (by omega) | exact u32_in _ (by omega) | exact u8_in _ (by omega) | exact rfl)) ?_
    refine Wl.does rfl rfl rfl (Does.lit rfl Tryd.underlying22 infoB2 rfl rfl rfl rfl rfl) ?_
    rintro _ w23 ⟨g23, rfl, hs23, hk23, hx23⟩
    have hM := mb1 (UInt8.ofNat (48 + t)) hk23 (by rw [UInt8.toNat_ofNat']; omega)
    have hzE := hE.size
    replace hE := hE.trans hx23
    refine vA ?_
    refine vn (hK4 _ _ ?_)
    refine Wc.ret ?_
    refine Wx.thenR ?_
    refine Wx.ret [_] ⟨rfl, trivial⟩ ?_
    exact ⟨_, _, _, _, rfl, hM.ob (by omega) rfl (Nat.le_refl _) rfl (by omega), by omega, hE⟩
  first | replace h4 := dF h4 | replace h4 := nF h4 | skip
  refine Wc.skip ?_
  refine Wx.thenN (hK2 _ _ ?_)
  refine vs fun K5 hK5 => vK [(0, _)] ?_
  obtain ⟨d', rfl⟩ : ∃ d', d = d' + 1 := by
    rcases d with _ | d
    · rw [Nat.zero_add, Nat.pow_one] at h; omega
    · exact ⟨d, rfl⟩
  have hq : t / 10 < 10 ^ (d' + 1) := Nat.div_lt_of_lt_mul (by rw [Nat.pow_succ, Nat.mul_comm] at h; exact h)
  have hzE := hE.size
  refine Wc.region ?_
  refine vM ?_
  refine vl (Gives.quo rfl rfl rfl (by omega) (quo10 t (by omega))) ?_
  refine Wl.call rfl rfl rfl rfl Tryd.func105 rfl (by kernel_rfl) rfl (ih d' (by omega) (by omega) _ (t / 10) hq (by omega)) ?_
  rintro x1 w31 ⟨S, m, k, l, rfl, hO, hm, hx31⟩
  refine ⟨_, rfl, ?_⟩
  have hml := hO.len
  replace hO := hO.mono hzE
  replace hE := hE.trans hx31
  refine vM ?_
  refine vl (Gives.rem rfl rfl rfl (by omega) (by first | exact Int.tmod_eq_emod_of_nonneg (by omega) | exact rfl)) ?_
  refine vAdd ?_
  refine vl (Gives.conv rfl Tryd.underlying3 Tryd.underlying5 rfl (by first | exact IntWalk.i64_in _ (by omega) | exact u64_in _ (by omega) | exact u32_in _ (by omega) | exact u8_in _ (by omega) | exact rfl)) ?_
  refine Wl.does rfl rfl rfl (Does.lit rfl Tryd.underlying22 infoB2 rfl rfl rfl rfl rfl) ?_
  rintro _ w37 ⟨g37, rfl, hs37, hk37, hx37⟩
  have hM := mb1 (UInt8.ofNat (48 + t % 10)) hk37 (by rw [UInt8.toNat_ofNat']; omega)
  replace hO := hO.ext hx37
  replace hE := hE.trans hx37
  have hz37 := hE.size
  refine Wl.does rfl rfl rfl (Does.appO rfl Tryd.underlying22 infoB rfl rfl hO (hM.bv (P := fun _ => True) trivial (n := 1) (c := 1) rfl (Nat.le_refl _) (by omega)) (by omega) hz37) ?_
  rintro _ w38 ⟨S2, k2, rfl, hO2, hB38⟩
  replace hE := Ext.step hE hB38 (by omega)
  refine vA ?_
  refine vn (hK5 _ _ ?_)
  refine Wc.ret ?_
  refine Wx.ret [_] ⟨rfl, trivial⟩ ?_
  exact ⟨S2, m + 1, k2, _, rfl, hO2, by omega, hE⟩
def LabR (w : World) (e : Ending) (w' : World) : Prop := ∃ S m k l, e = .returned (.slice S m k) ∧ SB w' w.heap.size S m k l ∧ m ≤ 20 ∧ Ext w w'
set_option maxRecDepth 20000 in
set_option maxHeartbeats 1000000 in
theorem labelD (w : World) (nm : List UInt8) (hn : nm.length ≤ 12) (t : Nat) (ht : t ≤ 1000000) : Calls Tryd.prog 86 #[txt nm, .int .i64 (t : Int)] w (LabR w) := by
  refine calls_enter Tryd.func86 rfl Tryd.ntmps86 rfl ?_
  have hE : Ext w w := Ext.refl w
  refine vs fun K1 hK1 => vR [(0, _), (1, _)] ?_
  refine vA ?_
  refine vn (hK1 _ _ ?_)
  refine vs fun K2 hK2 => vR [(0, _), (1, _)] ?_
  refine vM ?_
  have hz0 := hE.size
  refine Wl.does rfl rfl rfl (Does.toBytesS rfl Tryd.underlying9 Tryd.underlying22 Tryd.underlying5 rfl (by omega)) ?_
  rintro _ w11 ⟨S1, k1, rfl, hS1, hx11⟩
  replace hS1 := hS1.low hz0
  replace hE := hE.trans hx11
  refine Wl.does rfl rfl rfl (Does.lit rfl Tryd.underlying22 infoB2 rfl rfl rfl rfl rfl) ?_
  rintro _ w12 ⟨g12, rfl, hs12, hk12, hx12⟩
  have hM := mb1 32 hk12 rfl
  replace hS1 := hS1.ext hx12
  replace hE := hE.trans hx12
  have hz1 := hE.size
  refine Wl.does rfl rfl rfl (Does.appS rfl Tryd.underlying22 infoB rfl rfl hS1 (hM.bv (P := fun _ => True) trivial (n := 1) (c := 1) rfl (Nat.le_refl _) (by omega)) hz1 (by omega)) ?_
  rintro _ w13 ⟨S2, k2, rfl, hS2, hB13⟩
  replace hE := Ext.step hE hB13 (by omega)
  refine vM ?_
  refine Wl.call rfl rfl rfl rfl Tryd.func105 rfl (by kernel_rfl) rfl (numD 6 (by omega) _ t (by omega) ht) ?_
  rintro x1 w15 ⟨S3, m3, k3, l3, rfl, hO3, hm3, hx15⟩
  refine ⟨_, rfl, ?_⟩
  replace hS2 := hS2.ext hx15
  replace hE := hE.trans hx15
  have hz2 := hE.size
  refine Wl.does rfl rfl rfl (Does.appS rfl Tryd.underlying22 infoB rfl rfl hS2 (hO3.bv (P := fun _ => True) fun _ _ => trivial) hz2 (by omega)) ?_
  rintro _ w16 ⟨S4, k4, rfl, hS4, hB16⟩
  replace hE := Ext.step hE hB16 (by omega)
  refine vA ?_
  refine vn (hK2 _ _ ?_)
  refine Wc.ret ?_
  refine Wx.ret [_] ⟨rfl, trivial⟩ ?_
  exact ⟨S4, _, k4, _, rfl, hS4, by omega, hE⟩
def SepR (w : World) (e : Ending) (w' : World) : Prop := ∃ g, e = .returned (.slice (some ⟨g, 0, none⟩) 4 4) ∧ w.heap.size ≤ g ∧ MB w' g 5 [0, 0, 0, 0] ∧ Ext w w'
theorem sepD (w : World) : Calls Tryd.prog 62 #[] w (SepR w) := by
  refine calls_enter Tryd.func62 rfl Tryd.ntmps62 rfl ?_
  have hE : Ext w w := Ext.refl w
  refine vs fun K1 hK1 => vR [] ?_
  refine vA ?_
  refine vn (hK1 _ _ ?_)
  refine vs fun K2 hK2 => vR [] ?_
  refine Wl.does rfl rfl rfl (Does.lit rfl Tryd.underlying22 infoB2 rfl rfl rfl rfl rfl) ?_
  rintro _ w10 ⟨g10, rfl, hs10, hk10, hx10⟩
  have hzE := hE.size
  replace hE := hE.trans hx10
  refine vA ?_
  refine vn (hK2 _ _ ?_)
  refine Wc.ret ?_
  refine Wx.ret [_] ⟨rfl, trivial⟩ ?_
  exact ⟨g10, rfl, by omega, hk10, hE⟩
/-! events that are valid -/
theorem mk_ok {rg kd act : Int} {pay : List UInt8} (ha : 1 ≤ act ∧ act ≤ 3) (hr : 0 ≤ rg ∧ rg ≤ 11) (hk : 1 ≤ kd ∧ kd ≤ 5) (hp : pay.length ≤ 64) : evE (mkE rg kd act pay) act = 0 := by
  refine evE_0 ⟨ha.1, ha.2, hr.1, hr.2, hk.1, hk.2⟩ (by show ¬ 64 < pay.length; omega) ⟨rfl, fun i hi => ?_⟩
  have key : ∀ i < 2, (mkD kd act pay i).length = szE kd act i := fun i hi => by
    by_cases h : kd ≠ 5 ∧ hasS act i = true
    · rw [mkD_y h.1 h.2, szE_y h.1 h.2]
      rcases (show i = 0 ∨ i = 1 by omega) with rfl | rfl
      · exact sha1S_len _
      · exact sha256S_len _
    · rw [mkD_n h, szE_n h]; rfl
  rcases (show i = 0 ∨ i = 1 by omega) with rfl | rfl
  · exact key 0 (by omega)
  · exact key 1 (by omega)
theorem szE_kind {kd act : Int} {i : Nat} (h : kd ≠ 5) : szE kd act i = szE 1 act i := by
  by_cases h2 : hasS act i = true
  · rw [szE_y h h2, szE_y (by decide) h2]
  · rw [szE_n (fun q => h2 q.2), szE_n (fun q => h2 q.2)]
theorem dg_ok {rg kd act : Int} {pay d0 d1 : List UInt8} (ha : 1 ≤ act ∧ act ≤ 3) (hr : 0 ≤ rg ∧ rg ≤ 11) (hk : 1 ≤ kd ∧ kd ≤ 4) (hp : pay.length ≤ 64) (h0 : d0.length = szE 1 act 0) (h1 : d1.length = szE 1 act 1) : evE ⟨rg, kd, [d0, d1], pay⟩ act = 0 := by
  refine evE_0 ⟨ha.1, ha.2, hr.1, hr.2, hk.1, by show kd ≤ 5; omega⟩ (by show ¬ 64 < pay.length; omega) ⟨rfl, fun i hi => ?_⟩
  rcases (show i = 0 ∨ i = 1 by omega) with rfl | rfl
  · show d0.length = szE kd act 0
    rw [szE_kind (by omega), h0]
  · show d1.length = szE kd act 1
    rw [szE_kind (by omega), h1]
theorem dig_sz {x : Im} {act : Int} (hx : imgE x = 0) : (dig1 sha1S (imgB x) act 0).length = szE 1 act 0 ∧ (dig1 sha256S (imgB x) act 1).length = szE 1 act 1 := by
  have hl := imgB_len hx
  constructor
  · by_cases h2 : hasS act 0 = true
    · rw [dig_yes (by omega) h2, szE_y (by decide) h2]; exact sha1S_len _
    · rw [dig_no (fun q => h2 q.2), szE_n (fun q => h2 q.2)]; rfl
  · by_cases h2 : hasS act 1 = true
    · rw [dig_yes (by omega) h2, szE_y (by decide) h2]; exact sha256S_len _
    · rw [dig_no (fun q => h2 q.2), szE_n (fun q => h2 q.2)]; rfl
/-- a new event -/
def NewEvR (w : World) (act : Int) (e : Ending) (w' : World) : Prop := ∃ (x : Ev) (r : ERow), e = .returned (.agg #[.int .i64 x.reg, .int .i64 x.kind, .slice r.D r.dn r.dc, .slice r.S r.m r.d]) ∧ EvtV w' (fun q => w.heap.size ≤ q) x r ∧ evE x act = 0 ∧ Ext w w'
theorem reg_rng {x : Im} (h : imgE x = 0) : 0 ≤ regS x.role ∧ regS x.role ≤ 11 := by
  obtain ⟨⟨h1, h2, _⟩, _⟩ := img_ok h
  rcases (show x.role = 1 ∨ x.role = 2 ∨ x.role = 3 ∨ x.role = 4 by omega) with h | h | h | h <;> rw [h] <;> decide
set_option maxRecDepth 20000 in
set_option maxHeartbeats 2000000 in
theorem ofImD {P : Nat → Prop} (w : World) (hT : Tab w) (r v : Int) (nm : List UInt8) (A : Option Addr) (n c : Nat) (pay : List UInt8) (hp : BV w P A n c pay) (act : Int) (ha : 1 ≤ act ∧ act ≤ 3) (hx : imgE ⟨r, nm, v, pay⟩ = 0) (hr : r ≠ 4) :
    Calls Tryd.prog 63 #[.agg #[.int .i64 r, txt nm, .int .i64 v, .slice A n c], .int .i64 act] w (NewEvR w act) := by
  have hpl := hp.len
  obtain ⟨⟨hr1, hr4, hv0, hv1⟩, hnm, hp64, _⟩ := img_ok hx
  dsimp only at hr1 hr4 hv0 hv1 hnm hp64
  have hn12 := (name_max hnm).2
  obtain ⟨vt, rfl⟩ := Int.eq_ofNat_of_zero_le hv0
  have hrr := reg_rng hx
  have hds := dig_sz (act := act) hx
  refine calls_enter Tryd.func63 rfl Tryd.ntmps63 rfl ?_
  have hE : Ext w w := Ext.refl w
  refine vs fun K1 hK1 => vR [(0, _), (1, _)] ?_
  refine Wl.does rfl rfl rfl (Does.boxA rfl rfl) ?_
  rintro _ w0_0 ⟨b2, rfl, hs2, hb2, hx0_0⟩
  have hg2 : w.heap.size ≤ b2 := Nat.le_trans hE.size hs2
  replace hE := hE.trans hx0_0
  refine Wl.does rfl rfl rfl (Does.alB (.agg #[(.int .i64 0), (.int .i64 0), (.slice none 0 0), (.slice none 0 0)]) rfl (by kernel_rfl) rfl) ?_
  rintro _ w0_1 ⟨b4, rfl, hs4, hb4, hx0_1⟩
  have hn2_4 : b2 ≠ b4 := hb2.ne hs4
  have hg4 : w.heap.size ≤ b4 := Nat.le_trans hE.size hs4
  replace hb2 := hb2.ext hx0_1
  replace hE := hE.trans hx0_1
  refine vn (hK1 _ _ ?_)
  refine Wc.seq (fun K2 hK2 => ?_)
  refine vs fun K3 hK3 => vR [(1, _), (2, _), (4, _)] ?_
  refine vl (Gives.ldW rfl (by kernel_rfl) rfl hb2 (by kernel_rfl)) ?_
  refine Wl.call rfl rfl rfl rfl Tryd.func83 rfl (by kernel_rfl) rfl (checkR0 _ r (vt : Int) nm A n c pay (hp.ext hE)) ?_
  rintro x1 w11 ⟨rfl, hx11⟩
  refine ⟨_, rfl, ?_⟩
  replace hb2 := hb2.ext hx11
  replace hb4 := hb4.ext hx11
  replace hE := hE.trans hx11
  refine vl (Gives.neq rfl rfl rfl) ?_
  refine vM ?_
  refine Wl.guardT rfl rfl rfl (by rw [hx]; rfl) ?_
  refine vF 0 Tryd.underlying84 ?_
  refine vL hb2 ?_
  refine vl (Gives.eql rfl rfl rfl) ?_
  refine vU ?_
  refine vn (hK3 _ _ ?_)
  refine Wc.condF rfl (by first | exact decide_eq_false (by omega) | rfl) ?_
  refine Wc.skip ?_
  refine Wx.thenN (hK2 _ _ ?_)
  refine vs fun K4 hK4 => vK [(1, _), (2, _), (4, _)] ?_
  refine Wc.regionB (fun q => [1, 3, 5, 7, 9].contains q) [] (.read 0 (.read 1 (.read 2 (.read 3 (.read 4 (.read 6 (.read 7 (.read 8 (.read 9 (.call false 5 .tail .none)))))))))) 10 (by kernel_rfl) (by kernel_rfl) (by kernel_rfl) ?_
  intro w3 hR3
  replace hb2 := hb2.ext hR3.ext
  replace hb4 := hb4.ext hR3.ext
  replace hE := hE.trans hR3.ext
  have hO3_2 : Old w3.heap.size [] b2 := ⟨hb2.lt, trivial⟩
  have hO3_4 : Old w3.heap.size [] b4 := ⟨hb4.lt, trivial⟩
  have hX := Ext.refl w3
  have hl4 := hb4.lt
  have hzR := hE.size
  refine RunE.read rfl rfl rfl rfl (fun wS _ => (Gives.fieldAt 0 rfl Tryd.underlying84 rfl (by kernel_rfl) rfl rfl)) ?_
  refine RunE.readM rfl rfl rfl rfl rfl (fun wS hS => (Gives.ldK rfl (by kernel_rfl) rfl ((hb2.ext hX).fr hS hO3_2) rfl)) ?_
  refine RunE.read rfl rfl rfl rfl (fun wS _ => (Gives.call rfl Tryd.func84 rfl (by kernel_rfl) rfl (regR _ r))) ?_
  refine RunE.readM rfl rfl rfl rfl rfl (fun wS hS => (Gives.ldW rfl (by kernel_rfl) rfl ((hb2.ext hX).fr hS hO3_2) (by kernel_rfl))) ?_
  refine RunE.read rfl rfl rfl rfl (fun wS _ => (Gives.move rfl rfl)) ?_
  refine RunE.read rfl rfl rfl rfl (fun wS _ => (Gives.fieldAt 1 rfl Tryd.underlying84 rfl (by kernel_rfl) rfl rfl)) ?_
  refine RunE.readM rfl rfl rfl rfl rfl (fun wS hS => (Gives.ldK rfl (by kernel_rfl) rfl ((hb2.ext hX).fr hS hO3_2) rfl)) ?_
  refine RunE.read rfl rfl rfl rfl (fun wS _ => (Gives.fieldAt 2 rfl Tryd.underlying84 rfl (by kernel_rfl) rfl rfl)) ?_
  refine RunE.readM rfl rfl rfl rfl rfl (fun wS hS => (Gives.ldK rfl (by kernel_rfl) rfl ((hb2.ext hX).fr hS hO3_2) rfl)) ?_
  refine RunE.turnC rfl rfl rfl rfl rfl Tryd.func85 rfl (by kernel_rfl) rfl (digestsR _ (hT.ext (hE.trans hX)) r (vt : Int) nm A n c pay (hp.ext (hE.trans hX)) (by omega) act sha1S (fun _ => sumRX (i := 0) (by omega))) ?_ RunE.none
  rintro x2 w32 ⟨S3, k3, rfl, hD3, hx32⟩
  refine ⟨_, rfl, ?_⟩
  have hz32 := hx32.size
  refine ⟨hx32.fr, ?_⟩
  replace hX := hX.trans hx32
  refine RunE.tail rfl ?_
  replace hb2 := hb2.ext hX
  replace hb4 := hb4.ext hX
  replace hE := hE.trans hX
  refine Wl.call rfl rfl rfl rfl Tryd.func86 rfl (by kernel_rfl) rfl (labelD _ nm hn12 vt (by omega)) ?_
  rintro x3 w33 ⟨S4, m4, k4, l4, rfl, hS4, hm4, hx33⟩
  refine ⟨_, rfl, ?_⟩
  replace hD3 := hD3.ext hx33
  replace hb2 := hb2.ext hx33
  replace hb4 := hb4.ext hx33
  replace hE := hE.trans hx33
  refine vl (Gives.buildS (pl := [(0, 1), (1, 1), (2, 1), (3, 1)]) (zv := (.agg #[(.int .i64 0), (.int .i64 0), (.slice none 0 0), (.slice none 0 0)])) rfl Tryd.underlying34 (by kernel_rfl) (by kernel_rfl) rfl rfl) ?_
  refine Wl.acts rfl rfl (Does.stL 4 rfl rfl rfl hb4 (by kernel_rfl) rfl rfl rfl) ?_
  rintro _ w3_12 ⟨hbn, hF3_12⟩
  replace hb2 := hb2.frA hF3_12
  replace hE := Ext.over hE hF3_12 hg4
  replace hb4 := hbn
  clear hbn
  have hl4n := hS4.1.len
  have hD := hD3.fr (hF3_12.mono fun q hq => by omega)
  have hS := hS4.1.fr (hF3_12.mono fun q hq => by omega)
  refine vn (hK4 _ _ ?_)
  refine Wc.ret ?_
  refine Wx.ret [_] ⟨⟨_, rfl, res_blk hb4 Tryd.underlying34 rfl (by kernel_rfl)⟩, trivial⟩ ?_
  exact ⟨⟨regS r, 1, [dig1 sha1S (imgB ⟨r, nm, (vt : Int), pay⟩) act 0, dig1 sha256S (imgB ⟨r, nm, (vt : Int), pay⟩) act 1], l4⟩, ⟨S3, 2, k3, S4, m4, k4⟩, rfl, ⟨hD.mono fun q hq => by omega, hS.mono fun q hq => by omega⟩, dg_ok ha hrr ⟨by decide, by decide⟩ (by omega) hds.1 hds.2, hE⟩
theorem byte_z (z : Int) (h0 : 0 ≤ z) (h1 : z < 256) : z = ((UInt8.ofNat z.toNat).toNat : Int) := by rw [UInt8.toNat_ofNat']; omega
theorem bits_xor_u8 (x : UInt8) (k : Nat) (hk : k < 256) : 0 ≤ bits .xor .u8 (x.toNat : Int) (k : Int) ∧ bits .xor .u8 (x.toNat : Int) (k : Int) < 256 := by
  have e : bits .xor .u8 (x.toNat : Int) (k : Int) = IntKind.u8.wrap ((BitVec.ofInt 8 (x.toNat : Int) ^^^ BitVec.ofInt 8 (k : Int)).toNat : Int) := rfl
  have h := (BitVec.ofInt 8 (x.toNat : Int) ^^^ BitVec.ofInt 8 (k : Int)).isLt
  rw [e, u8_in _ (by omega)]
  omega
def DigDR (w : World) (act : Int) (e : Ending) (w' : World) : Prop := ∃ S c d0 d1, e = .returned (.slice S 2 c) ∧ BL w' (fun q => w.heap.size ≤ q) S 2 c [d0, d1] ∧ d0.length = szE 1 act 0 ∧ d1.length = szE 1 act 1 ∧ Ext w w'
set_option maxRecDepth 20000 in
set_option maxHeartbeats 2000000 in
theorem digestsD {P : Nat → Prop} (w : World) (act : Int) (A : Option Addr) (n c : Nat) (l : List UInt8) (ha : BV w P A n c l) :
    Calls Tryd.prog 38 #[.int .i64 act, .slice A n c] w (DigDR w act) := by
  have hle := ha.le
  refine calls_enter Tryd.func38 rfl Tryd.ntmps38 rfl ?_
  have hE : Ext w w := Ext.refl w
  refine vs fun K1 hK1 => vR [(0, _), (1, _)] ?_
  refine vA ?_
  refine vn (hK1 _ _ ?_)
  refine vs fun K2 hK2 => vR [(0, _), (1, _)] ?_
  refine Wl.does rfl rfl rfl (Does.mkA 2 rfl rfl Tryd.underlying32 infoL rfl rfl rfl (by omega) (by omega)) ?_
  rintro _ w10 ⟨gr, rfl, hgr, hk10, hx10⟩
  have hkr : Blk w10 gr 22 #[.slice none 0 0, .slice none 0 0] := hk10
  have hgw : w.heap.size ≤ gr := Nat.le_trans hE.size hgr
  replace hE := hE.trans hx10
  refine vA ?_
  refine vn (hK2 _ _ ?_)
  refine Wc.seq (fun K3 hK3 => ?_)
  refine vs fun K4 hK4 => vR [(0, _), (1, _), (5, _)] ?_
  refine vA ?_
  refine vn (hK4 _ _ ?_)
  refine Wc.block ?_
  refine vK [(0, _), (1, _), (5, _), (6, _)] ?_
  refine Wc.loopC (ι := Nat × ((Option Addr × Nat × Nat) × List UInt8) × ((Option Addr × Nat × Nat) × List UInt8)) [(0, _), (1, _), (5, _)] (fun | (i, _, _) => [(6, .int .i64 (i : Int))]) (fun | (i, ((S0, m0, k0), d0), ((S1, m1, k1), d1)), wr => i ≤ 2 ∧ BV wr (fun q => q ≠ gr ∧ w.heap.size ≤ q) S0 m0 k0 d0 ∧ BV wr (fun q => q ≠ gr ∧ w.heap.size ≤ q) S1 m1 k1 d1 ∧ d0.length = (if 0 < i then szE 1 act 0 else 0) ∧ d1.length = (if 1 < i then szE 1 act 1 else 0) ∧ Blk wr gr 22 #[.slice S0 m0 k0, .slice S1 m1 k1] ∧ Ext w wr) (fun | (i, _) => 2 - i) ((0, ((none, 0, 0), []), ((none, 0, 0), []))) (.co (.cons rfl (.cons rfl (.cons rfl (.nil))))) (⟨by omega, BV.nil_ _ _, BV.nil_ _ _, rfl, rfl, hkr, hE⟩) ?_
  intro ⟨i, ⟨⟨S0, m0, k0⟩, d0⟩, ⟨⟨S1, m1, k1⟩, d1⟩⟩ wr hJ KL1 hKL1
  clear hE hkr
  obtain ⟨hi, h0, h1, hd0, hd1, hkr, hE⟩ := hJ
  have hlr := hkr.lt
  refine Wc.seq (fun K5 hK5 => ?_)
  refine vs fun K6 hK6 => vR [(0, _), (1, _), (5, _), (6, _)] ?_
  refine vM ?_
  refine vl (Gives.lss rfl rfl rfl) ?_
  refine vn (hK6 _ _ ?_)
  refine Wc.cond _ rfl (fun h10 => ?_) (fun h10 => ?_)
  · first | replace h10 := dT h10 | replace h10 := nT h10 | skip
    refine Wc.skip ?_
    refine Wx.thenN (hK5 _ _ ?_)
    refine Wc.seq (fun K7 hK7 => ?_)
    refine Wc.block ?_
    refine vs fun K8 hK8 => vR [(0, _), (1, _), (5, _), (6, _)] ?_
    refine vM ?_
    refine vM ?_
    refine vl (Gives.conv rfl Tryd.underlying3 Tryd.underlying73 rfl (u64_in _ (by omega))) ?_
    refine vl (Gives.shr rfl rfl rfl (by omega) rfl) ?_
    refine vl (Gives.bits .and (by simp) rfl rfl rfl rfl) ?_
    refine vl (Gives.eql rfl rfl rfl) ?_
    refine vn (hK8 _ _ ?_)
    refine Wc.cond _ rfl (fun h18 => ?_) (fun h18 => ?_)
    · first | replace h18 := dT h18 | replace h18 := nT h18 | skip
      refine vs fun K9 hK9 => vR [(0, _), (1, _), (5, _), (6, _)] ?_
      refine vM ?_
      refine vl (Gives.mul rfl rfl rfl (by first | exact IntWalk.i64_in _ (by omega) | exact u64_in _ (by omega) | exact u32_in _ (by omega) | exact u8_in _ (by omega) | exact rfl)) ?_
      refine vAdd ?_
      refine Wl.does rfl rfl rfl (Does.mkM (20 + 12 * i) rfl rfl Tryd.underlying22 infoB rfl (by omega) rfl (by omega)) ?_
      rintro _ w63 ⟨gx, rfl, hgx, hM, hx63⟩
      have hgxr : gx ≠ gr := by omega
      have hgxw : w.heap.size ≤ gx := Nat.le_trans hE.size hgx
      replace hkr := hkr.ext hx63
      replace h0 := h0.bd.ext hx63
      replace h1 := h1.bd.ext hx63
      replace hE := hE.trans hx63
      refine vA ?_
      refine vn (hK9 _ _ ?_)
      refine vs fun K10 hK10 => vR [(0, _), (1, _), (5, _), (6, _), (7, _)] ?_
      refine vM ?_
      refine vM ?_
      refine Wl.does rfl rfl rfl (Does.cpM (off := 0) rfl rfl Tryd.underlying22 infoB rfl rfl (ha.ext hE) (fun _ => rfl) hM (by simp)) ?_
      rintro _ w72 ⟨rfl, hM2, hF72⟩
      obtain ⟨lm, hlm⟩ : ∃ q, spliceB (List.replicate (20 + 12 * i) 0) 0 (l.take (20 + 12 * i)) = q := ⟨_, rfl⟩
      have hlml : lm.length = 20 + 12 * i := by rw [← hlm, spliceB_len _ _ _ (by simp; omega), List.length_replicate]
      rw [hlm] at hM2
      replace hkr := hkr.fr hF72 hgxr.symm
      replace h0 := h0.fr (hF72.mono fun q hq => by omega)
      replace h1 := h1.fr (hF72.mono fun q hq => by omega)
      replace hE := Ext.over hE hF72 hgxw
      refine vn (hK10 _ _ ?_)
      refine Wc.seq (fun K11 hK11 => ?_)
      refine vs fun K12 hK12 => vR [(0, _), (1, _), (5, _), (6, _), (7, _)] ?_
      refine vM ?_
      refine vl (Gives.lenS rfl Tryd.underlying22 rfl) ?_
      refine vl (Gives.gtr rfl rfl rfl) ?_
      refine vn (hK12 _ _ ?_)
      refine Wc.condT rfl (by first | exact decide_eq_true (by omega) | rfl) ?_
      refine vK [(0, _), (1, _), (5, _), (6, _), (7, _)] ?_
      obtain ⟨xz, hxz⟩ := at_some (l := lm) (k := 19 + 12 * i) (by omega)
      have hxr := bits_xor_u8 xz i (by omega)
      refine Wc.region ?_
      refine vM ?_
      refine vM ?_
      refine vl (Gives.lenS rfl Tryd.underlying22 rfl) ?_
      refine vSub ?_
      refine vl (Gives.ixS (i := (19 + 12 * i)) rfl Tryd.underlying22 (by kernel_rfl) rfl rfl (by omega) (by omega)) ?_
      refine vl (Gives.ldC rfl (by kernel_rfl) rfl ((hM2.bv (P := fun _ => True) trivial (n := 20 + 12 * i) (c := 20 + 12 * i) hlml (Nat.le_refl _) (by omega)).cellAt hxz)) ?_
      refine vM ?_
      refine vl (Gives.conv rfl Tryd.underlying3 Tryd.underlying5 rfl (by first | exact IntWalk.i64_in _ (by omega) | exact u64_in _ (by omega) | exact u32_in _ (by omega) | exact u8_in _ (by omega) | exact rfl)) ?_
      refine vl (Gives.bits .xor (by simp) rfl rfl rfl rfl) ?_
      refine vl (Gives.ixS (i := (19 + 12 * i)) rfl Tryd.underlying22 (by kernel_rfl) rfl rfl (by omega) (by omega)) ?_
      refine Wl.acts rfl rfl (Does.stM (i := 19 + 12 * i) _ rfl rfl rfl (byte_z _ hxr.1 hxr.2) hM2 (by kernel_rfl) (by omega)) ?_
      rintro _ w910 ⟨hM3, hF910⟩
      replace hkr := hkr.fr hF910 hgxr.symm
      replace h0 := h0.fr (hF910.mono fun q hq => by omega)
      replace h1 := h1.fr (hF910.mono fun q hq => by omega)
      replace hE := Ext.over hE hF910 hgxw
      refine vn (hK11 _ _ ?_)
      refine vR [(0, _), (1, _), (5, _), (6, _), (7, _)] ?_
      refine vM ?_
      refine vM ?_
      refine vM ?_
      refine vl (Gives.ixS (i := i) rfl Tryd.underlying32 (by kernel_rfl) rfl rfl (by omega) (by omega)) ?_
      have hhas : hasS act i = true := by first | exact decide_eq_true h18 | simpa using h18
      refine Wl.acts rfl rfl (Does.stC (i := 0 + i) rfl rfl rfl hkr (by kernel_rfl) (by show 0 + i < 2; omega) rfl) ?_
      rintro _ w104 ⟨hk2, hF104⟩
      have hB4 := (hM3.fr hF104 hgxr).bv (P := fun q => q ≠ gr ∧ w.heap.size ≤ q) ⟨hgxr, hgxw⟩ (n := 20 + 12 * i) (c := 20 + 12 * i) (by rw [List.length_set]; exact hlml) (Nat.le_refl _) (by omega)
      have hB4l := hB4.len
      replace h0 := (h0.mono (P' := fun q => q ≠ gr ∧ w.heap.size ≤ q) fun q hq => hq.1).fr (hF104.mono fun q hq => hq.1)
      replace h1 := (h1.mono (P' := fun q => q ≠ gr ∧ w.heap.size ≤ q) fun q hq => hq.1).fr (hF104.mono fun q hq => hq.1)
      replace hE := Ext.over hE hF104 hgw
      refine Wl.nil ?_
      refine Wx.blockN ?_
      refine Wx.thenN (hK7 _ _ ?_)
      refine vR [(0, _), (1, _), (5, _), (6, _)] ?_
      refine vM ?_
      refine vAdd ?_
      refine vA ?_
      refine Wl.nil ?_
      refine Wx.thenN ?_
      have hsz : 20 + 12 * i = szE 1 act i := by
        rw [szE_y (by decide) hhas]
        rcases (show i = 0 ∨ i = 1 by omega) with rfl | rfl <;> rfl
      rcases (show i = 0 ∨ i = 1 by omega) with rfl | rfl
      · exact hKL1 (0 + 1, ((_, _, _), _), ((S1, m1, k1), d1)) _ _ (.co (.cons rfl (.cons rfl (.cons rfl (.nil))))) ⟨by omega, hB4, h1, by rw [hB4l, hsz]; rfl, hd1, hk2, hE⟩ (by show 2 - (0 + 1) < 2 - 0; omega)
      · exact hKL1 (1 + 1, ((S0, m0, k0), d0), ((_, _, _), _)) _ _ (.co (.cons rfl (.cons rfl (.cons rfl (.nil))))) ⟨by omega, h0, hB4, hd0, by rw [hB4l, hsz]; rfl, hk2, hE⟩ (by show 2 - (1 + 1) < 2 - 1; omega)
    first | replace h18 := dF h18 | replace h18 := nF h18 | skip
    refine Wc.skip ?_
    refine Wx.blockN ?_
    refine Wx.thenN (hK7 _ _ ?_)
    refine vR [(0, _), (1, _), (5, _), (6, _)] ?_
    refine vM ?_
    refine vAdd ?_
    refine vA ?_
    refine Wl.nil ?_
    refine Wx.thenN ?_
    have hno : ¬ hasS act i = true := fun h => h18 (of_decide_eq_true h)
    have hsz := szE_n (kind := 1) (act := act) (i := i) (fun q => hno q.2)
    rcases (show i = 0 ∨ i = 1 by omega) with rfl | rfl
    · exact hKL1 (0 + 1, ((S0, m0, k0), d0), ((S1, m1, k1), d1)) _ _ (.co (.cons rfl (.cons rfl (.cons rfl (.nil))))) ⟨by omega, h0, h1, by rw [hd0]; exact hsz.symm, hd1, hkr, hE⟩ (by show 2 - (0 + 1) < 2 - 0; omega)
    · exact hKL1 (1 + 1, ((S0, m0, k0), d0), ((S1, m1, k1), d1)) _ _ (.co (.cons rfl (.cons rfl (.cons rfl (.nil))))) ⟨by omega, h0, h1, hd0, by rw [hd1]; exact hsz.symm, hkr, hE⟩ (by show 2 - (1 + 1) < 2 - 1; omega)
  first | replace h10 := dF h10 | replace h10 := nF h10 | skip
  refine Wc.exit ?_
  refine Wx.thenE ?_
  refine Wx.thenE ?_
  refine Wx.hit ?_
  refine Wx.thenN (hK3 _ _ ?_)
  refine vs fun K13 hK13 => vR [(5, _)] ?_
  refine vM ?_
  refine vA ?_
  refine vn (hK13 _ _ ?_)
  refine Wc.ret ?_
  refine Wx.ret [_] ⟨rfl, trivial⟩ ?_
  obtain rfl : i = 2 := by omega
  exact ⟨_, _, d0, d1, rfl, bl2 hkr (h0.mono fun q hq => hq.2) (h1.mono fun q hq => hq.2) hgw, hd0, hd1, hE⟩
theorem leftD (w : World) (g N : Nat) (h : CD w g N) : Calls Tryd.prog 59 #[.pointer (some ⟨g, 0, none⟩)] w fun e w' => ∃ b, e = .returned (.bool b) ∧ Quiet w w' := by
  obtain ⟨B, bn, bc, l, k, h1, h2, h3, h4⟩ := h
  refine calls_enter Tryd.func59 rfl Tryd.ntmps59 rfl ?_
  refine vs fun K1 hK1 => vR [(0, _)] ?_
  refine vA ?_
  refine vn (hK1 _ _ ?_)
  refine vs fun K2 hK2 => vK [(0, _)] ?_
  refine Wc.regionD (fun _ => true) Eq (.read 0 (.read 1 (.read 2 (.read 3 (.read 4 (.read 5 (.read 6 (.read 7 (.read 8 .tail))))))))) 9 (by kernel_rfl) (by kernel_rfl) (by kernel_rfl) (fun _ => rfl) (fun _ _ _ h k => h.trans k) Quiet ⟨1, rfl⟩ ?_
  intro w1 hR1
  have h1a := h1.ext hR1.ext
  refine rE rfl (Gives.move rfl rfl) ?_
  refine rE rfl (Gives.nilCheck rfl rfl) ?_
  refine rE rfl (Gives.fieldAt 1 rfl Tryd.underlying61 rfl (by kernel_rfl) rfl rfl) ?_
  refine rE rfl (Gives.ldC rfl (by kernel_rfl) rfl ((h1a.cell 1).trans rfl)) ?_
  refine rE rfl (Gives.move rfl rfl) ?_
  refine rE rfl (Gives.nilCheck rfl rfl) ?_
  refine rE rfl (Gives.fieldAt 0 rfl Tryd.underlying61 rfl (by kernel_rfl) rfl rfl) ?_
  refine rE rfl (Gives.ldC rfl (by kernel_rfl) rfl ((h1a.cell 0).trans rfl)) ?_
  refine rE rfl (Gives.lenS rfl Tryd.underlying22 rfl) ?_
  refine RunE.tail rfl ?_
  refine vl (Gives.lss rfl rfl rfl) ?_
  refine vA ?_
  refine vn (hK2 _ _ ?_)
  refine Wc.ret ?_
  refine Wx.ret [_] ⟨rfl, trivial⟩ ?_
  exact ⟨_, rfl, hR1⟩
end Go.Proofs.YtnbgieccindpnaaDoor
/- Drawn logs: events. -/
namespace Go.Proofs.YtnbgieccindpnaaDoor
set_option linter.all false
set_option maxRecDepth 20000
open Go.RowKit
theorem Tab.fr {P : Nat → Prop} {w w' : World} (h : Tab w) (f : Fr P w w') (hp : P 0) : Tab w' := GV.fr h f hp
theorem infoI8 : (Tryd.prog.info? 3).map (fun i => (i.zero, i.size)) = some (some (.int .i64 0), 1) := by kernel_rfl
def regK (k : Nat) : Int := [0, 0, 4, 8, 9, 9, 1, 11].getD k 0
theorem regK_at {k : Nat} (h : k < 8) : (#[Value.int .i64 0, .int .i64 0, .int .i64 4, .int .i64 8, .int .i64 9, .int .i64 9, .int .i64 1, .int .i64 11] : Array Value)[k]? = some (.int .i64 (regK k)) := by
  match k, h with
  | 0, _ => rfl
  | 1, _ => rfl
  | 2, _ => rfl
  | 3, _ => rfl
  | 4, _ => rfl
  | 5, _ => rfl
  | 6, _ => rfl
  | 7, _ => rfl
theorem regK_ok : ∀ k < 8, 0 ≤ regK k ∧ regK k ≤ 11 := by decide
def EvDR (w : World) (g N : Nat) (act : Int) (e : Ending) (w' : World) : Prop := ∃ (x : Ev) (r : ERow), e = .returned (.agg #[.int .i64 x.reg, .int .i64 x.kind, .slice r.D r.dn r.dc, .slice r.S r.m r.d]) ∧ EvtV w' (fun q => w.heap.size ≤ q) x r ∧ evE x act = 0 ∧ CD w' g N ∧ Fr (fun k => k ≠ g) w w'
set_option maxRecDepth 20000 in
set_option maxHeartbeats 4000000 in
theorem eventD (w : World) (hT : Tab w) (gC N : Nat) (h : CD w gC N) (hN : N ≤ w.heap.size) (hgT : 0 ≠ gC) (act : Int) (ha : 1 ≤ act ∧ act ≤ 3) :
    Calls Tryd.prog 15 #[.pointer (some ⟨gC, 0, none⟩), .int .i64 act] w (EvDR w gC N act) := by
  have hlt := h.lt
  refine calls_enter Tryd.func15 rfl Tryd.ntmps15 rfl ?_
  have hE : Fr (fun k => k ≠ gC) w w := Fr.refl _ _
  refine vs fun K1 hK1 => vR [(0, _), (1, _)] ?_
  refine Wl.does rfl rfl rfl (Does.alB (.agg #[(.int .i64 0), (.int .i64 0), (.slice none 0 0), (.slice none 0 0)]) rfl (by kernel_rfl) rfl) ?_
  rintro _ w0_0 ⟨b4, rfl, hs4, hb4, hx0_0⟩
  have hg4 : w.heap.size ≤ b4 := Nat.le_trans hE.size hs4
  replace hE := hE.trans (Ext.fr hx0_0)
  have hC := h.ext hx0_0
  have hn4g : b4 ≠ gC := by omega
  have hzE := hE.size
  have hl0 := hb4.lt
  refine vn (hK1 _ _ ?_)
  refine vs fun K2 hK2 => vR [(0, _), (1, _), (4, _)] ?_
  refine vM ?_
  refine Wl.call rfl rfl rfl rfl Tryd.func35 rfl (by kernel_rfl) rfl (lineD _ gC N hC (by omega)) ?_
  rintro x1 w11 ⟨S1, m1, k1, i, hi, rfl, hB1, hC1, hF1⟩
  refine ⟨_, rfl, ?_⟩
  have hlk := lineK_ok i hi
  have hm1 := hB1.len
  have hk1 := hB1.le
  replace hb4 := hb4.frA hF1
  replace hE := hE.trans hF1
  refine vA ?_
  refine vn (hK2 _ _ ?_)
  refine Wc.joinC (ι := (Option Addr × Nat × Nat) × List UInt8) [(0, _), (1, _), (4, _)] (fun | ((S, m, k), _) => [(5, .slice S m k)]) (fun | ((S, m, k), data), wr => data.length ≤ 8 ∧ BV wr (fun q => b4 < q) S m k data ∧ CD wr gC N ∧ Blk wr b4 34 #[.int .i64 0, .int .i64 0, .slice none 0 0, .slice none 0 0] ∧ Fr (fun k => k ≠ gC) w wr) ?_ ?_ (.cons rfl (.cons rfl (.cons rfl (.nil))))
  · intro K3 hJ3
    refine vs fun K4 hK4 => vR [(0, _), (1, _), (4, _), (5, _)] ?_
    refine vM ?_
    refine Wl.call rfl rfl rfl rfl Tryd.func36 rfl (by kernel_rfl) rfl (nextD _ gC N hC1 4 (by omega)) ?_
    rintro x2 w21 ⟨z2, rfl, ⟨hz2, hz2'⟩, hC2, hF2⟩
    refine ⟨_, rfl, ?_⟩
    replace hB1 := (hB1.fr (hF2.mono fun q hq => by omega)).mono (P' := fun q => b4 < q) fun q hq => by omega
    replace hb4 := hb4.frA hF2
    replace hE := hE.trans hF2
    refine vl (Gives.eql rfl rfl rfl) ?_
    refine vn (hK4 _ _ ?_)
    refine Wc.cond _ rfl (fun h13 => ?_) (fun h13 => ?_)
    · first | replace h13 := dT h13 | replace h13 := nT h13 | skip
      refine vR [(0, _), (1, _), (4, _), (5, _)] ?_
      refine vM ?_
      refine vM ?_
      refine Wl.call rfl rfl rfl rfl Tryd.func36 rfl (by kernel_rfl) rfl (nextD _ gC N hC2 2 (by omega)) ?_
      rintro x3 w32 ⟨z3, rfl, ⟨hz3, hz3'⟩, hC3, hF3⟩
      refine ⟨_, rfl, ?_⟩
      have hB3 := (hB1.fr (hF3.mono fun q hq => by omega)).take (k := z3.toNat) (by omega)
      replace hb4 := hb4.frA hF3
      replace hE := hE.trans hF3
      refine vl (Gives.cutHi rfl Tryd.underlying22 (by kernel_rfl) rfl z3.toNat rfl (by omega) (by omega)) ?_
      refine vA ?_
      refine Wl.nil ?_
      refine Wx.thenN ?_
      first | exact hJ3 ((_, _, _), _) _ _ (.co (.cons rfl (.cons rfl (.cons rfl (.nil))))) ⟨by rw [List.length_take]; omega, hB3, hC3, hb4, hE⟩ | exact hJ3 ((_, _, _), _) _ _ (.co (.cons rfl (.cons rfl (.cons rfl (.nil))))) ⟨by omega, hB1, hC2, hb4, hE⟩
    first | replace h13 := dF h13 | replace h13 := nF h13 | skip
    refine Wc.skip ?_
    refine Wx.thenN ?_
    first | exact hJ3 ((_, _, _), _) _ _ (.co (.cons rfl (.cons rfl (.cons rfl (.nil))))) ⟨by rw [List.length_take]; omega, hB3, hC3, hb4, hE⟩ | exact hJ3 ((_, _, _), _) _ _ (.co (.cons rfl (.cons rfl (.cons rfl (.nil))))) ⟨by omega, hB1, hC2, hb4, hE⟩
  intro ⟨⟨S, m, k⟩, data⟩ wj hJ
  clear hb4 hE
  obtain ⟨hdl, hB, hC, hb4, hE⟩ := hJ
  have hml := hB.len
  refine vs fun K5 hK5 => vR [(0, _), (1, _), (4, _), (5, _)] ?_
  refine vM ?_
  refine Wl.call rfl rfl rfl rfl Tryd.func36 rfl (by kernel_rfl) rfl (nextD _ gC N hC 5 (by omega)) ?_
  rintro x4 w41 ⟨z4, rfl, ⟨hz4, hz4'⟩, hC4, hF41⟩
  refine ⟨_, rfl, ?_⟩
  replace hB := hB.fr (hF41.mono fun q hq => by omega)
  replace hb4 := hb4.frA hF41
  replace hE := hE.trans hF41
  refine vAdd ?_
  refine vA ?_
  refine vn (hK5 _ _ ?_)
  refine vs fun K6 hK6 => vR [(0, _), (1, _), (4, _), (5, _), (6, _)] ?_
  have hz50 := hE.size
  refine Wl.does rfl rfl rfl (Does.lit rfl Tryd.underlying51 infoI8 rfl rfl rfl rfl rfl) ?_
  rintro _ w50 ⟨g50, rfl, hs50, hk50, hx50⟩
  have hg50 : gC < g50 := by omega
  replace hC4 := hC4.ext hx50
  replace hB := hB.ext hx50
  replace hb4 := hb4.ext hx50
  replace hE := hE.trans (Ext.fr hx50)
  refine vM ?_
  refine Wl.call rfl rfl rfl rfl Tryd.func36 rfl (by kernel_rfl) rfl (nextD _ gC N hC4 8 (by omega)) ?_
  rintro x5 w52 ⟨z5, rfl, ⟨hz5, hz5'⟩, hC5, hF52⟩
  refine ⟨_, rfl, ?_⟩
  replace hk50 := hk50.fr hF52 (by omega)
  replace hB := hB.fr (hF52.mono fun q hq => by omega)
  replace hb4 := hb4.frA hF52
  replace hE := hE.trans hF52
  refine vl (Gives.ixS (i := z5.toNat) rfl Tryd.underlying51 (by kernel_rfl) rfl rfl (by omega) (by omega)) ?_
  refine vl (Gives.ldC rfl (by kernel_rfl) rfl (cell_k hk50 (regK_at (k := z5.toNat) (by omega)))) ?_
  refine vA ?_
  have hrk := regK_ok z5.toNat (by omega)
  refine vn (hK6 _ _ ?_)
  refine Wc.joinC (ι := ((Option Addr × Nat × Nat) × List UInt8) × Int) [(0, _), (1, _), (4, _), (6, _)] (fun | (((S, m, k), _), rg) => [(5, .slice S m k), (7, .int .i64 rg)]) (fun | (((S, m, k), data), rg), wr => data.length ≤ 8 ∧ (0 ≤ rg ∧ rg ≤ 11) ∧ BV wr (fun q => b4 < q) S m k data ∧ CD wr gC N ∧ Blk wr b4 34 #[.int .i64 0, .int .i64 0, .slice none 0 0, .slice none 0 0] ∧ Fr (fun k => k ≠ gC) w wr) ?_ ?_ (.cons rfl (.cons rfl (.cons rfl (.cons rfl (.nil)))))
  · intro K7 hJ7
    refine Wc.joinC (ι := Bool) [(0, _), (1, _), (4, _), (5, _), (6, _), (7, _)] (fun b => [(32, .bool b)]) (fun b wr => BV wr (fun q => b4 < q) S m k data ∧ CD wr gC N ∧ Blk wr b4 34 #[.int .i64 0, .int .i64 0, .slice none 0 0, .slice none 0 0] ∧ Fr (fun k => k ≠ gC) w wr) ?_ ?_ (.cons rfl (.cons rfl (.cons rfl (.cons rfl (.cons rfl (.cons rfl (.nil)))))))
    · intro K8 hJ8
      refine vK [(0, _), (1, _), (4, _), (5, _), (6, _), (7, _)] ?_
      clear hk50
      refine Wc.region ?_
      refine vM ?_
      refine vl (Gives.eql rfl rfl rfl) ?_
      refine vM ?_
      refine Wl.guard rfl rfl rfl (fun h28 => ?_) (fun h28 => ?_)
      · first | replace h28 := dT h28 | replace h28 := nT h28 | skip
        refine vM ?_
        refine Wl.call rfl rfl rfl rfl Tryd.func36 rfl (by kernel_rfl) rfl (nextD _ gC N hC5 4 (by omega)) ?_
        rintro x6 w64 ⟨z6, rfl, ⟨hz6, hz6'⟩, hC6, hF64⟩
        refine ⟨_, rfl, ?_⟩
        have hB6 := hB.fr (hF64.mono fun q hq => by omega)
        replace hb4 := hb4.frA hF64
        replace hE := hE.trans hF64
        refine vl (Gives.gtr rfl rfl rfl) ?_
        refine vT ?_
        refine Wl.nil ?_
        refine Wx.thenN ?_
        first | exact hJ8 _ _ _ (.co (.cons rfl (.cons rfl (.cons rfl (.cons rfl (.cons rfl (.cons rfl (.nil)))))))) ⟨hB6, hC6, hb4, hE⟩ | exact hJ8 _ _ _ (.co (.cons rfl (.cons rfl (.cons rfl (.cons rfl (.cons rfl (.cons rfl (.nil)))))))) ⟨hB, hC5, hb4, hE⟩
      first | replace h28 := dF h28 | replace h28 := nF h28 | skip
      refine vP ?_
      refine vP ?_
      refine vP ?_
      refine vU ?_
      refine Wl.nil ?_
      refine Wx.thenN ?_
      first | exact hJ8 _ _ _ (.co (.cons rfl (.cons rfl (.cons rfl (.cons rfl (.cons rfl (.cons rfl (.nil)))))))) ⟨hB6, hC6, hb4, hE⟩ | exact hJ8 _ _ _ (.co (.cons rfl (.cons rfl (.cons rfl (.cons rfl (.cons rfl (.cons rfl (.nil)))))))) ⟨hB, hC5, hb4, hE⟩
    intro c32 wk hJ
    clear hb4 hE hC hB
    obtain ⟨hB, hC, hb4, hE⟩ := hJ
    have hz7 := hE.size
    have hl7 := hb4.lt
    refine Wc.cond _ rfl (fun h32 => ?_) (fun h32 => ?_)
    · first | replace h32 := dT h32 | replace h32 := nT h32 | skip
      refine vs fun K9 hK9 => vR [(0, _), (1, _), (4, _), (6, _)] ?_
      refine Wl.does rfl rfl rfl (Does.lit rfl Tryd.underlying22 infoB2 rfl rfl rfl rfl rfl) ?_
      rintro _ w70 ⟨g70, rfl, hs70, hk70, hx70⟩
      have hM7 : MB w70 g70 5 [0, 0, 0, 0] := hk70
      have hC7 := hC.ext hx70
      replace hb4 := hb4.ext hx70
      replace hE := hE.trans (Ext.fr hx70)
      refine vA ?_
      refine vn (hK9 _ _ ?_)
      refine vR [(0, _), (1, _), (4, _), (5, _), (6, _)] ?_
      refine vM ?_
      refine Wl.call rfl rfl rfl rfl Tryd.func36 rfl (by kernel_rfl) rfl (nextD _ gC N hC7 8 (by omega)) ?_
      rintro x7 w81 ⟨z8, rfl, ⟨hz8, hz8'⟩, hC8, hF81⟩
      refine ⟨_, rfl, ?_⟩
      have hB8 := (hM7.fr hF81 (by omega)).bv (P := fun q => b4 < q) (by omega) (n := 4) (c := 4) rfl (Nat.le_refl _) (by omega)
      replace hb4 := hb4.frA hF81
      replace hE := hE.trans hF81
      refine vA ?_
      refine Wl.nil ?_
      refine Wx.thenN ?_
      first | exact hJ7 (((_, _, _), _), _) _ _ (.co (.co (.cons rfl (.cons rfl (.cons rfl (.cons rfl (.nil))))))) ⟨by decide, ⟨by omega, by omega⟩, hB8, hC8, hb4, hE⟩ | exact hJ7 (((_, _, _), _), _) _ _ (.co (.co (.cons rfl (.cons rfl (.cons rfl (.cons rfl (.nil))))))) ⟨hdl, hrk, hB, hC, hb4, hE⟩
    first | replace h32 := dF h32 | replace h32 := nF h32 | skip
    refine Wc.skip ?_
    refine Wx.thenN ?_
    first | exact hJ7 (((_, _, _), _), _) _ _ (.co (.co (.cons rfl (.cons rfl (.cons rfl (.cons rfl (.nil))))))) ⟨by decide, ⟨by omega, by omega⟩, hB8, hC8, hb4, hE⟩ | exact hJ7 (((_, _, _), _), _) _ _ (.co (.co (.cons rfl (.cons rfl (.cons rfl (.cons rfl (.nil))))))) ⟨hdl, hrk, hB, hC, hb4, hE⟩
  intro ⟨⟨⟨S, m, k⟩, data⟩, rg⟩ wl hJ
  clear hb4 hE hC hB hdl hml
  obtain ⟨hdl, hrg, hB, hC, hb4, hE⟩ := hJ
  have hml := hB.len
  have hz9 := hE.size
  have hl9 := hb4.lt
  refine vs fun K10 hK10 => vR [(0, _), (1, _), (4, _), (5, _), (6, _), (7, _)] ?_
  refine vM ?_
  refine vM ?_
  refine vM ?_
  refine vM ?_
  refine Wl.call rfl rfl rfl rfl Tryd.func37 rfl (by kernel_rfl) rfl (makeRR _ (hT.fr hE hgT) rg (1 + z4) act S m k data hB (by omega)) ?_
  rintro x8 w94 ⟨D, dc, S2, m2, k2, rfl, hD, hP, hx94⟩
  refine ⟨_, rfl, ?_⟩
  have hV : EvtV w94 (fun q => b4 < q) (mkE rg (1 + z4) act data) ⟨D, 2, dc, S2, m2, k2⟩ := ⟨hD.mono fun q hq => by omega, hP.mono fun q hq => by omega⟩
  replace hC := hC.ext hx94
  replace hb4 := hb4.ext hx94
  replace hE := hE.trans (Ext.fr hx94)
  refine Wl.does rfl rfl rfl (Does.alB (.agg #[(.int .i64 0), (.int .i64 0), (.slice none 0 0), (.slice none 0 0)]) rfl (by kernel_rfl) rfl) ?_
  rintro _ w9_5 ⟨b8, rfl, hs8, hb8, hx9_5⟩
  have hn4_8 : b4 ≠ b8 := hb4.ne hs8
  have hg8 : w.heap.size ≤ b8 := Nat.le_trans hE.size hs8
  replace hb4 := hb4.ext hx9_5
  replace hE := hE.trans (Ext.fr hx9_5)
  refine Wl.acts rfl rfl (Does.stL 4 rfl rfl rfl hb8 (by kernel_rfl) rfl rfl rfl) ?_
  rintro _ w9_6 ⟨hbn, hF9_6⟩
  replace hb4 := hb4.frA hF9_6
  replace hE := Fr.over hE hF9_6 hg8
  replace hb8 := hbn
  clear hbn
  have hn8g : b8 ≠ gC := by omega
  replace hV := (hV.bd.ext hx9_5).fr (hF9_6.mono fun q hq => by omega)
  replace hC := (hC.ext hx9_5).fr hF9_6 (fun q hq => by omega)
  have hok := mk_ok (act := act) (rg := rg) (kd := 1 + z4) (pay := data) ha hrg ⟨by omega, by omega⟩ (by omega)
  replace hV := hV.mono (P' := fun q => b4 < q ∧ q ≠ b8) fun q hq => ⟨hq.1, by omega⟩
  have hl48 : b4 ≠ b8 := by first | assumption | exact Ne.symm (by assumption)
  replace hV := hV.bd
  refine vn (hK10 _ _ ?_)
  refine Wc.seq (fun K11 hK11 => ?_)
  refine Wc.joinC (ι := Bool) [(0, _), (1, _), (4, _), (6, _), (8, _)] (fun b => [(47, .bool b)]) (fun b wr => (b = true → 1 + z4 ≠ 5) ∧ EvtV wr (fun q => b4 < q ∧ q ≠ b8) (mkE rg (1 + z4) act data) ⟨D, 2, dc, S2, m2, k2⟩ ∧ CD wr gC N ∧ Blk wr b4 34 #[.int .i64 0, .int .i64 0, .slice none 0 0, .slice none 0 0] ∧ Blk wr b8 34 #[.int .i64 rg, .int .i64 (1 + z4), .slice D 2 dc, .slice S2 m2 k2] ∧ Fr (fun k => k ≠ gC) w wr) ?_ ?_ (.cons rfl (.cons rfl (.cons rfl (.cons rfl (.cons rfl (.nil))))))
  · intro K12 hJ12
    refine vR [(0, _), (1, _), (4, _), (6, _), (8, _)] ?_
    refine vM ?_
    refine vl (Gives.neq rfl rfl rfl) ?_
    refine vM ?_
    refine Wl.guard rfl rfl rfl (fun h43 => ?_) (fun h43 => ?_)
    · first | replace h43 := dT h43 | replace h43 := nT h43 | skip
      refine vM ?_
      refine Wl.call rfl rfl rfl rfl Tryd.func36 rfl (by kernel_rfl) rfl (nextD _ gC N hC 4 (by omega)) ?_
      rintro x9 w104 ⟨z10, rfl, ⟨hz10, hz10'⟩, hC10, hF104⟩
      refine ⟨_, rfl, ?_⟩
      have hV10 := (hV.mono (P' := fun q => b4 < q ∧ q ≠ b8) fun q hq => hq.1).fr (hF104.mono fun q hq => by omega)
      replace hb4 := hb4.frA hF104
      replace hb8 := hb8.frA hF104
      replace hE := hE.trans hF104
      refine vl (Gives.eql rfl rfl rfl) ?_
      refine vT ?_
      refine Wl.nil ?_
      refine Wx.thenN ?_
      first | exact hJ12 _ _ _ (.co (.cons rfl (.cons rfl (.cons rfl (.cons rfl (.cons rfl (.nil))))))) ⟨fun _ => by omega, hV10, hC10, hb4, hb8, hE⟩ | exact hJ12 _ _ _ (.co (.cons rfl (.cons rfl (.cons rfl (.cons rfl (.cons rfl (.nil))))))) ⟨fun h => (by cases h), hV.mono fun q hq => hq.1, hC, hb4, hb8, hE⟩
    first | replace h43 := dF h43 | replace h43 := nF h43 | skip
    refine vP ?_
    refine vP ?_
    refine vP ?_
    refine vU ?_
    refine Wl.nil ?_
    refine Wx.thenN ?_
    first | exact hJ12 _ _ _ (.co (.cons rfl (.cons rfl (.cons rfl (.cons rfl (.cons rfl (.nil))))))) ⟨fun _ => by omega, hV10, hC10, hb4, hb8, hE⟩ | exact hJ12 _ _ _ (.co (.cons rfl (.cons rfl (.cons rfl (.cons rfl (.cons rfl (.nil))))))) ⟨fun h => (by cases h), hV.mono fun q hq => hq.1, hC, hb4, hb8, hE⟩
  intro c47 wm hJ
  clear hb4 hb8 hE hC hV
  obtain ⟨hk5, hV, hC, hb4, hb8, hE⟩ := hJ
  have hz11 := hE.size
  have hl4 := hb4.lt
  have hl8 := hb8.lt
  refine Wc.cond _ rfl (fun h47 => ?_) (fun h47 => ?_)
  · first | replace h47 := dT h47 | replace h47 := nT h47 | skip
    refine vR [(0, _), (1, _), (4, _), (6, _), (8, _)] ?_
    refine vM ?_
    refine vM ?_
    refine Wl.call rfl rfl rfl rfl Tryd.func36 rfl (by kernel_rfl) rfl (nextD _ gC N hC 4 (by omega)) ?_
    rintro x10 w112 ⟨z11, rfl, ⟨hz11a, hz11b⟩, hC11, hF112⟩
    refine ⟨_, rfl, ?_⟩
    replace hV := hV.fr (hF112.mono fun q hq => by omega)
    have hz112 := hF112.size
    replace hb4 := hb4.frA hF112
    replace hb8 := hb8.frA hF112
    replace hE := hE.trans hF112
    refine vl (Gives.conv rfl Tryd.underlying3 Tryd.underlying5 rfl (by first | exact IntWalk.i64_in _ (by omega) | exact u64_in _ (by omega) | exact u32_in _ (by omega) | exact u8_in _ (by omega) | exact rfl)) ?_
    refine vM ?_
    refine vl (Gives.conv rfl Tryd.underlying3 Tryd.underlying5 rfl (by first | exact IntWalk.i64_in _ (by omega) | exact u64_in _ (by omega) | exact u32_in _ (by omega) | exact u8_in _ (by omega) | exact rfl)) ?_
    refine Wl.does rfl rfl rfl (Does.lit rfl Tryd.underlying22 infoB2 rfl rfl rfl rfl rfl) ?_
    rintro _ w116 ⟨g116, rfl, hs116, hk116, hx116⟩
    have hM11 : MB w116 g116 5 [UInt8.ofNat z11.toNat, UInt8.ofNat (1 + z4).toNat] := by
      unfold MB u8s
      simp only [List.map]
      rw [← byte_z z11 (by omega) (by omega), ← byte_z (1 + z4) (by omega) (by omega)]
      exact hk116
    replace hV := hV.ext hx116
    replace hC11 := hC11.ext hx116
    have hz116 := hx116.size
    replace hb4 := hb4.ext hx116
    replace hb8 := hb8.ext hx116
    replace hE := hE.trans (Ext.fr hx116)
    refine Wl.call rfl rfl rfl rfl Tryd.func38 rfl (by kernel_rfl) rfl (digestsD _ act _ 2 2 _ (hM11.bv (P := fun _ => True) trivial (n := 2) (c := 2) rfl (Nat.le_refl _) (by omega))) ?_
    rintro x11 w117 ⟨S3, k3, d0, d1, rfl, hD3, hd0, hd1, hx117⟩
    refine ⟨_, rfl, ?_⟩
    replace hV := hV.ext hx117
    replace hC11 := hC11.ext hx117
    have hz117 := hx117.size
    replace hb4 := hb4.ext hx117
    replace hb8 := hb8.ext hx117
    replace hE := hE.trans (Ext.fr hx117)
    refine vF 2 Tryd.underlying34 ?_
    refine Wl.acts rfl rfl (Does.stC rfl rfl rfl hb8 (by kernel_rfl) (Nat.le_of_ble_eq_true rfl) rfl) ?_
    rintro _ w11_9 ⟨hbn, hF11_9⟩
    replace hb4 := hb4.frA hF11_9
    replace hE := Fr.over hE hF11_9 hg8
    replace hb8 := hbn
    clear hbn
    (try simp only [List.setIfInBounds_toArray, List.set_cons_zero, List.set_cons_succ, Nat.reduceAdd, Nat.zero_add] at hb8)
    replace hD3 := hD3.fr (hF11_9.mono fun q hq => by omega)
    have hS3 := hV.2.fr (hF11_9.mono fun q hq => hq.2)
    have hC12 := hC11.fr hF11_9 (fun q hq => by omega)
    refine vn (hK11 _ _ ?_)
    refine vs fun K13 hK13 => vR [(4, _), (8, _)] ?_
    refine vl (Gives.ldW rfl (by kernel_rfl) rfl hb8 (by kernel_rfl)) ?_
    refine Wl.acts rfl rfl (Does.stL 4 rfl rfl rfl hb4 (by kernel_rfl) rfl rfl rfl) ?_
    rintro _ w12_1 ⟨hbn, hF12_1⟩
    replace hb8 := hb8.frA hF12_1
    replace hE := Fr.over hE hF12_1 hg4
    replace hb4 := hbn
    clear hbn
    refine vn (hK13 _ _ ?_)
    refine Wc.ret ?_
    refine Wx.ret [_] ⟨⟨_, rfl, res_blk hb4 Tryd.underlying34 rfl (by kernel_rfl)⟩, trivial⟩ ?_
    exact ⟨⟨rg, 1 + z4, [d0, d1], data⟩, ⟨S3, 2, k3, S2, m2, k2⟩, rfl, ⟨(hD3.fr (hF12_1.mono fun q hq => by omega)).mono fun q hq => by omega, (hS3.fr (hF12_1.mono fun q hq => by omega)).mono fun q hq => by omega⟩, dg_ok ha hrg ⟨by omega, by have := hk5 h47; omega⟩ (by omega) hd0 hd1, hC12.fr hF12_1 (fun q hq => by omega), hE⟩
  first | replace h47 := dF h47 | replace h47 := nF h47 | skip
  refine Wc.skip ?_
  refine Wx.thenN (hK11 _ _ ?_)
  refine vs fun K14 hK14 => vR [(4, _), (8, _)] ?_
  refine vl (Gives.ldW rfl (by kernel_rfl) rfl hb8 (by kernel_rfl)) ?_
  refine Wl.acts rfl rfl (Does.stL 4 rfl rfl rfl hb4 (by kernel_rfl) rfl rfl rfl) ?_
  rintro _ w12_1 ⟨hbn, hF12_1⟩
  replace hb8 := hb8.frA hF12_1
  replace hE := Fr.over hE hF12_1 hg4
  replace hb4 := hbn
  clear hbn
  refine vn (hK14 _ _ ?_)
  refine Wc.ret ?_
  refine Wx.ret [_] ⟨⟨_, rfl, res_blk hb4 Tryd.underlying34 rfl (by kernel_rfl)⟩, trivial⟩ ?_
  exact ⟨mkE rg (1 + z4) act data, ⟨D, 2, dc, S2, m2, k2⟩, rfl, (hV.fr (hF12_1.mono fun q hq => by omega)).mono fun q hq => by omega, hok, hC.fr hF12_1 (fun q hq => by omega), hE⟩
/-! rows of events -/
section
variable {w w' : World} {base n c : Nat} {A : Option Addr} {l : List Ev}
theorem NOwn.up {S : Nat → Prop} {v : Value} {k : Nat} (h : NOwn w S v k) (hs : w.heap.size ≤ w'.heap.size) : NOwn w' S v k := ⟨h.1, Nat.lt_of_lt_of_le h.2.1 hs, h.2.2⟩
variable {n' : Nat} {e : Env} {o : Oper} {x y : Operand}
/-- events onto a row of events -/
theorem Does.appEOn {p sc m c : Nat} {B A : Option Addr} {l r : List Ev} {ys : List Value} {T : Nat → Prop} (ho : o.op = .call { callee := .builtin .append, args := #[x, y], argTypes := #[28, 28] })
    (hx : ev e x = some (.slice B p sc)) (hy : ev e y = some (.slice A m c)) (hown : EO w base B p sc l) (hr : Row w T 4 A m c ys) (he : EachR Rp.evt w (NOwn w (fun k => base ≤ k) (.slice B p sc)) ys r) (hp : p + m ≤ 1000000) (hb : base ≤ w.heap.size) :
    Does Tryd.prog n' o e w (fun v w' => ∃ B' sc', v = .slice B' (p + m) sc' ∧ EO w' base B' (p + m) sc' (l ++ r) ∧ Below base w w' ∧ Fr (NOwn w (fun _ => True) (.slice B p sc)) w w' ∧ ∀ k, NOwn w (fun _ => True) (.slice B p sc) k → NOwn w' (fun _ => True) (.slice B' (p + m) sc') k) := by
  obtain ⟨vs, hw1, hw2⟩ := hown
  refine (Does.appX ho Tryd.underlying28 infoE4 rfl (by decide) hx hy hw1 hr he.one (by omega) (by decide) hb).mono ?_
  rintro v w' ⟨B', sc', rfl, h1, h2, h3, h4⟩
  have key : ∀ k, NOwn w (fun k => base ≤ k) (.slice B p sc) k → NOwn w (fun _ => True) (.slice B p sc) k := fun k hk => ⟨trivial, hk.2⟩
  refine ⟨B', sc', rfl, ⟨_, h1, ?_⟩, h2, h3, h4⟩
  exact ((hw2.app he).fr (h3.mono key)).mono fun k hk _ => ⟨hk.1, (h4 k (key k hk)).2⟩
end
def EvsDR (w : World) (g N : Nat) (act : Int) (most : Nat) (e : Ending) (w' : World) : Prop := ∃ A n c l, e = .returned (.slice A n c) ∧ EO w' w.heap.size A n c l ∧ (∀ x ∈ l, evE x act = 0) ∧ n ≤ most ∧ CD w' g N ∧ Fr (fun k => k ≠ g) w w'
theorem all_snoc {act : Int} {l : List Ev} {x : Ev} (h : ∀ y ∈ l, evE y act = 0) (hx : evE x act = 0) : ∀ y ∈ l ++ [x], evE y act = 0 := fun y hy => by
  rcases List.mem_append.1 hy with h1 | h1
  · exact h y h1
  · rw [List.mem_singleton.1 h1]; exact hx
set_option maxRecDepth 20000 in
set_option maxHeartbeats 2000000 in
theorem eventsD (w : World) (hT : Tab w) (gC N : Nat) (h : CD w gC N) (hN : N ≤ w.heap.size) (hgT : 0 ≠ gC) (act : Int) (ha : 1 ≤ act ∧ act ≤ 3) (most : Nat) (hmost : most ≤ 1000) :
    Calls Tryd.prog 42 #[.pointer (some ⟨gC, 0, none⟩), .int .i64 act, .int .i64 (most : Int)] w (EvsDR w gC N act most) := by
  have hlt := h.lt
  refine calls_enter Tryd.func42 rfl Tryd.ntmps42 rfl ?_
  have hE : Fr (fun k => k ≠ gC) w w := Fr.refl _ _
  refine vs fun K1 hK1 => vR [(0, _), (1, _), (2, _)] ?_
  refine vA ?_
  refine vn (hK1 _ _ ?_)
  refine vs fun K2 hK2 => vK [(0, _), (1, _), (2, _)] ?_
  have hE := Fr.refl (fun k => k ≠ gC) w
  refine Wc.region ?_
  refine vA ?_
  refine vn (hK2 _ _ ?_)
  refine Wc.seq (fun K3 hK3 => ?_)
  refine Wc.block ?_
  refine vK [(0, _), (1, _), (2, _), (7, _)] ?_
  refine Wc.loopC (ι := (Option Addr × Nat × Nat) × List Ev) [(0, _), (1, _), (2, _)] (fun | ((S, m, k), _) => [(7, .slice S m k)]) (fun | ((S, m, k), l), wr => m ≤ most ∧ (∀ x ∈ l, evE x act = 0) ∧ EO wr w.heap.size S m k l ∧ CD wr gC N ∧ Fr (fun k => k ≠ gC) w wr) (fun | ((S, m, k), _) => most - m) (((none, 0, 0), [])) (.co (.cons rfl (.cons rfl (.cons rfl (.nil))))) (⟨by omega, by simp, EO.nil_ _ _, h, hE⟩) ?_
  intro ⟨⟨S, m, k⟩, l⟩ wr hJ KL1 hKL1
  clear hE
  obtain ⟨hm, hok, hIO, hC, hE⟩ := hJ
  have hzE := hE.size
  refine Wc.seq (fun K4 hK4 => ?_)
  refine vs fun K5 hK5 => vR [(0, _), (1, _), (2, _), (7, _)] ?_
  refine vM ?_
  refine Wl.call rfl rfl rfl rfl Tryd.func59 rfl (by kernel_rfl) rfl (leftD _ gC N hC) ?_
  rintro x1 w21 ⟨b, rfl, hq21⟩
  refine ⟨_, rfl, ?_⟩
  replace hC := hC.ext hq21.ext
  replace hIO := hIO.ext hq21.ext
  have hz21 := hq21.ext.size
  replace hE := hE.trans (Ext.fr hq21.ext)
  refine vM ?_
  refine Wl.guard rfl rfl rfl (fun h10 => ?_) (fun h10 => ?_)
  · first | replace h10 := dT h10 | replace h10 := nT h10 | skip
    refine vM ?_
    refine vl (Gives.lenS rfl Tryd.underlying28 rfl) ?_
    refine vM ?_
    refine vl (Gives.lss rfl rfl rfl) ?_
    refine vT ?_
    refine vn (hK5 _ _ ?_)
    refine Wc.cond _ rfl (fun h15 => ?_) (fun h15 => ?_)
    · first | replace h15 := dT h15 | replace h15 := nT h15 | skip
      refine Wc.skip ?_
      refine Wx.thenN (hK4 _ _ ?_)
      refine Wc.block ?_
      refine vR [(0, _), (1, _), (2, _), (7, _)] ?_
      refine vM ?_
      refine vM ?_
      refine vM ?_
      refine Wl.call rfl rfl rfl rfl Tryd.func15 rfl (by kernel_rfl) rfl (eventD _ (hT.fr hE hgT) gC N hC (by omega) hgT act ha) ?_
      rintro x2 w33 ⟨x, r, rfl, hV, hxe, hC2, hF33⟩
      refine ⟨_, rfl, ?_⟩
      have hown := hIO.lt
      replace hIO := hIO.fr hF33 (fun q hq => by omega)
      have hz33 := hF33.size
      replace hE := hE.trans hF33
      refine Wl.does rfl rfl rfl (Does.lit1 4 rfl Tryd.underlying28 infoE2 rfl rfl rfl) ?_
      rintro _ w34 ⟨g34, rfl, hs34, hk34, hx34⟩
      replace hIO := hIO.ext hx34
      replace hV := hV.ext hx34
      replace hC2 := hC2.ext hx34
      have hz34 := hx34.size
      replace hE := hE.trans (Ext.fr hx34)
      have hln : EvtV w34 (NOwn w34 (fun k => w.heap.size ≤ k) (.slice S m k)) x r := (hV.bd).mono fun q hq => ⟨by omega, hq.2, fun he => by have := hown q he; omega⟩
      refine Wl.does rfl rfl rfl (Does.appEO (xi := x) (r := r) rfl rfl rfl hIO hk34 hln (by omega) (by omega)) ?_
      rintro _ w35 ⟨B2, sc2, rfl, hIO2, hB35⟩
      have hC3 := hC2.fr (below_fr hB35) (fun q hq => by omega)
      replace hE := Fr.step hE hB35 (by omega)
      refine vA ?_
      refine Wl.nil ?_
      refine Wx.blockN ?_
      refine Wx.thenN ?_
      exact hKL1 ((B2, m + 1, sc2), l ++ [x]) _ _ (.co (.cons rfl (.cons rfl (.cons rfl (.nil))))) ⟨by omega, all_snoc hok hxe, hIO2, hC3, hE⟩ (by show most - (m + 1) < most - m; omega)
    first | replace h15 := dF h15 | replace h15 := nF h15 | skip
    refine Wc.exit ?_
    refine Wx.thenE ?_
    refine Wx.thenE ?_
    refine Wx.hit ?_
    refine Wx.thenN (hK3 _ _ ?_)
    refine vs fun K6 hK6 => vR [(7, _)] ?_
    refine vM ?_
    refine vA ?_
    refine vn (hK6 _ _ ?_)
    refine Wc.ret ?_
    refine Wx.ret [_] ⟨rfl, trivial⟩ ?_
    exact ⟨S, m, k, l, rfl, hIO, hok, hm, hC, hE⟩
  first | replace h10 := dF h10 | replace h10 := nF h10 | skip
  refine vP ?_
  refine vP ?_
  refine vP ?_
  refine vP ?_
  refine vU ?_
  refine vn (hK5 _ _ ?_)
  refine Wc.condF rfl rfl ?_
  refine Wc.exit ?_
  refine Wx.thenE ?_
  refine Wx.thenE ?_
  refine Wx.hit ?_
  refine Wx.thenN (hK3 _ _ ?_)
  refine vs fun K7 hK7 => vR [(7, _)] ?_
  refine vM ?_
  refine vA ?_
  refine vn (hK7 _ _ ?_)
  refine Wc.ret ?_
  refine Wx.ret [_] ⟨rfl, trivial⟩ ?_
  exact ⟨S, m, k, l, rfl, hIO, hok, hm, hC, hE⟩
end Go.Proofs.YtnbgieccindpnaaDoor
/- Drawn logs: the events of a chain. -/
namespace Go.Proofs.YtnbgieccindpnaaDoor
set_option linter.all false
set_option maxRecDepth 20000
open Go.RowKit
theorem linesG_le {B : Nat} : ∀ (l : List UInt8) (out : List (List UInt8)) (line : List UInt8), (∀ y ∈ out, y.length ≤ B) → line.length + l.length ≤ B → ∀ y ∈ linesG l out line, y.length ≤ B
  | [], out, line, h1, h2, y, hy => by
    rw [linesG_end] at hy
    split at hy
    · exact h1 y hy
    · simp at hy
  | c :: r, out, line, h1, h2, y, hy => by
    rw [linesG_cons] at hy
    rw [List.length_cons] at h2
    split at hy
    · split at hy
      · simp at hy
      · refine linesG_le r (out ++ [line]) [] (fun z hz => ?_) (by simp; omega) y hy
        rcases List.mem_append.1 hz with h | h
        · exact h1 z h
        · rw [List.mem_singleton.1 h]; omega
    · split at hy
      · exact linesG_le r out (line ++ [c]) h1 (by rw [List.length_append]; simp; omega) y hy
      · simp at hy
theorem linesS_le {l y : List UInt8} (h : y ∈ linesS l) : y.length ≤ l.length := linesG_le l [] [] (by simp) (by simp) y h
theorem linesS_4 (l : List UInt8) : (linesS l).length ≤ 4 := linesG_len l [] [] (by simp)
def cR (l : List Im) (r : Int) : Nat := l.countP (fun x => decide (x.role = r))
theorem cR_le : ∀ l : List Im, cR l 1 + cR l 2 + cR l 3 + cR l 4 ≤ l.length
  | [] => by simp [cR]
  | x :: r => by
    have h := cR_le r
    have e : ∀ k : Int, cR (x :: r) k = cR r k + (if x.role = k then 1 else 0) := fun k => by
      unfold cR
      rw [List.countP_cons]
      by_cases hk : x.role = k
      · rw [if_pos (decide_eq_true hk), if_pos hk]
      · rw [if_neg (by simp [hk]), if_neg hk]
    rw [e 1, e 2, e 3, e 4, List.length_cons]
    split <;> split <;> split <;> split <;> omega
theorem cR_step {l : List Im} {i : Nat} {x : Im} (h : l[i]? = some x) (r : Int) : cR (l.take (i + 1)) r = cR (l.take i) r + (if x.role = r then 1 else 0) := by
  unfold cR
  rw [← take_im h, List.countP_append, List.countP_cons, List.countP_nil, Nat.zero_add]
  by_cases hk : x.role = r
  · rw [if_pos (decide_eq_true hk), if_pos hk]
  · rw [if_neg (by simp [hk]), if_neg hk]
theorem cR_take (l : List Im) (i : Nat) (r : Int) : cR (l.take i) r ≤ i := by
  have h : cR (l.take i) r ≤ (l.take i).length := List.countP_le_length
  rw [List.length_take] at h
  omega
theorem cR_pos {l : List Im} {r : Int} (h : hasK l r = true) : 1 ≤ cR l r := by
  obtain ⟨y, hy, h2⟩ := List.any_eq_true.1 h
  exact List.countP_pos_iff.2 ⟨y, hy, h2⟩
def ChEvR (w : World) (act : Int) (e : Ending) (w' : World) : Prop := ∃ A n c l, e = .returned (.slice A n c) ∧ EO w' w.heap.size A n c l ∧ (∀ x ∈ l, evE x act = 0) ∧ 8 ≤ n ∧ n ≤ 34 ∧ Ext w w'
set_option maxRecDepth 20000 in
set_option maxHeartbeats 4000000 in
theorem chEvD {P : Nat → Prop} (w : World) (hT : Tab w) (A : Option Addr) (n c : Nat) (l : List Im) (hl : SL Rp.img w P A n c l) (hce : chainE l = 0) (act : Int) (ha : 1 ≤ act ∧ act ≤ 3) :
    Calls Tryd.prog 44 #[.slice A n c, .int .i64 act] w (ChEvR w act) := by
  obtain ⟨⟨hl1, hl8⟩, hck, ⟨hk1, hk3⟩, hie⟩ := chain_ok hce
  have hln := hl.len
  have hcl := cR_le l
  have hc1 := cR_pos hk1
  have hc3 := cR_pos hk3
  refine calls_enter Tryd.func44 rfl Tryd.ntmps44 rfl ?_
  have hE : Ext w w := Ext.refl w
  refine vs fun K1 hK1 => vR [(0, _), (1, _)] ?_
  refine vA ?_
  refine vn (hK1 _ _ ?_)
  refine Wc.seq (fun K2 hK2 => ?_)
  refine vs fun K3 hK3 => vR [(0, _), (1, _)] ?_
  refine vM ?_
  refine Wl.call rfl rfl rfl rfl Tryd.func61 rfl (by kernel_rfl) rfl (chainR _ A n c l (hl.ext hE)) ?_
  rintro x1 w11 ⟨rfl, hx11⟩
  refine ⟨_, rfl, ?_⟩
  replace hE := hE.trans hx11
  refine vl (Gives.neq rfl rfl rfl) ?_
  refine vM ?_
  refine Wl.guardT rfl rfl rfl (by rw [hce]; rfl) ?_
  refine vM ?_
  refine vl (Gives.lss rfl rfl rfl) ?_
  refine vU ?_
  refine vM ?_
  refine Wl.guardT rfl rfl rfl (by first | exact decide_eq_false (by omega) | rfl) ?_
  refine vM ?_
  refine vl (Gives.gtr rfl rfl rfl) ?_
  refine vU ?_
  refine vn (hK3 _ _ ?_)
  refine Wc.condF rfl (by first | exact decide_eq_false (by omega) | rfl) ?_
  refine Wc.skip ?_
  refine Wx.thenN (hK2 _ _ ?_)
  refine vs fun K4 hK4 => vR [(0, _), (1, _)] ?_
  refine vA ?_
  refine vn (hK4 _ _ ?_)
  refine Wc.seq (fun K5 hK5 => ?_)
  refine vs fun K6 hK6 => vR [(0, _), (1, _), (5, _)] ?_
  refine vA ?_
  refine vn (hK6 _ _ ?_)
  refine Wc.block ?_
  refine vK [(0, _), (1, _), (5, _), (6, _)] ?_
  refine Wc.loopC (ι := Int × (Option Addr × Nat × Nat) × List Ev × Nat) [(0, _), (1, _)] (fun | (r, (S, m, k), _, _) => [(6, .int .i64 r), (5, .slice S m k)]) (fun | (r, (S, m, k), evs, bd), wr => ((r = 1 ∧ bd = 0) ∨ (r = 2 ∧ bd = cR l 1) ∨ (r = 3 ∧ bd = cR l 1 + cR l 2) ∨ (r = 4 ∧ bd = cR l 1 + cR l 2 + cR l 3 + 8) ∨ (r = 5 ∧ bd = cR l 1 + cR l 2 + cR l 3 + 8 + 4 * cR l 4)) ∧ m ≤ bd ∧ (3 < r → 8 ≤ m) ∧ (∀ x ∈ evs, evE x act = 0) ∧ EO wr w.heap.size S m k evs ∧ Ext w wr) (fun | (r, _) => (6 - r).toNat) ((1, (none, 0, 0), [], 0)) (.co (.co (.cons rfl (.cons rfl (.nil))))) (⟨.inl ⟨rfl, rfl⟩, by omega, fun h => absurd h (by omega), by simp, EO.nil_ _ _, hE⟩) ?_
  intro ⟨r, ⟨S, m, k⟩, evs, bd⟩ wr hJ KL1 hKL1
  clear hE
  obtain ⟨hrb, hmb, hm8, hok, hIO, hE⟩ := hJ
  refine Wc.seq (fun K7 hK7 => ?_)
  refine vs fun K8 hK8 => vR [(0, _), (1, _), (5, _), (6, _)] ?_
  refine vM ?_
  refine vl (Gives.leq rfl rfl rfl) ?_
  refine vn (hK8 _ _ ?_)
  refine Wc.cond _ rfl (fun h23 => ?_) (fun h23 => ?_)
  · first | replace h23 := dT h23 | replace h23 := nT h23 | skip
    refine Wc.skip ?_
    refine Wx.thenN (hK7 _ _ ?_)
    refine Wc.seq (fun K9 hK9 => ?_)
    refine Wc.block ?_
    refine Wc.joinC (ι := (Option Addr × Nat × Nat) × List Ev × Nat) [(0, _), (1, _), (6, _)] (fun | ((S, m, k), _, _) => [(5, .slice S m k)]) (fun | ((S, m, k), evs, b2), wr => ((r = 3 ∧ b2 = bd + 8) ∨ (r ≠ 3 ∧ b2 = bd)) ∧ m ≤ b2 ∧ (3 ≤ r → 8 ≤ m) ∧ (∀ x ∈ evs, evE x act = 0) ∧ EO wr w.heap.size S m k evs ∧ Ext w wr) ?_ ?_ (.cons rfl (.cons rfl (.cons rfl (.nil))))
    · intro K10 hJ10
      refine vs fun K11 hK11 => vR [(0, _), (1, _), (5, _), (6, _)] ?_
      refine vM ?_
      refine vl (Gives.eql rfl rfl rfl) ?_
      refine vn (hK11 _ _ ?_)
      refine Wc.cond _ rfl (fun h27 => ?_) (fun h27 => ?_)
      · first | replace h27 := dT h27 | replace h27 := nT h27 | skip
        refine vs fun K12 hK12 => vR [(0, _), (1, _), (5, _), (6, _)] ?_
        refine vA ?_
        refine vn (hK12 _ _ ?_)
        refine Wc.block ?_
        refine vK [(0, _), (1, _), (5, _), (6, _), (7, _)] ?_
        refine Wc.loopC (ι := Nat × (Option Addr × Nat × Nat) × List Ev) [(0, _), (1, _), (6, _)] (fun | (j, (S, m, k), _) => [(7, .int .i64 (j : Int)), (5, .slice S m k)]) (fun | (j, (S, m, k), evs), wr => j ≤ 8 ∧ m ≤ bd + j ∧ j ≤ m ∧ (∀ x ∈ evs, evE x act = 0) ∧ EO wr w.heap.size S m k evs ∧ Ext w wr) (fun | (j, _) => 8 - j) ((0, (S, m, k), evs)) (.co (.co (.cons rfl (.cons rfl (.cons rfl (.nil)))))) (⟨by omega, by omega, by omega, hok, hIO, hE⟩) ?_
        intro ⟨j, ⟨S, m, k⟩, evs⟩ ws hJ KL2 hKL2
        clear hE hIO hok
        obtain ⟨hj8, hmj, hjm, hok, hIO, hE⟩ := hJ
        have hzs := hE.size
        refine Wc.seq (fun K13 hK13 => ?_)
        refine vs fun K14 hK14 => vR [(0, _), (1, _), (5, _), (6, _), (7, _)] ?_
        refine vM ?_
        refine vl (Gives.lss rfl rfl rfl) ?_
        refine vn (hK14 _ _ ?_)
        refine Wc.cond _ rfl (fun h29 => ?_) (fun h29 => ?_)
        · first | replace h29 := dT h29 | replace h29 := nT h29 | skip
          refine Wc.skip ?_
          refine Wx.thenN (hK13 _ _ ?_)
          refine Wc.seq (fun K15 hK15 => ?_)
          refine Wc.block ?_
          refine vR [(0, _), (1, _), (5, _), (6, _), (7, _)] ?_
          refine vM ?_
          refine vM ?_
          refine vM ?_
          refine Wl.call rfl rfl rfl rfl Tryd.func62 rfl (by kernel_rfl) rfl (sepD _) ?_
          rintro x2 w113 ⟨gs, rfl, hgs, hMs, hx113⟩
          refine ⟨_, rfl, ?_⟩
          have hown := hIO.lt
          replace hIO := hIO.ext hx113
          have hz113 := hx113.size
          replace hE := hE.trans hx113
          refine Wl.call rfl rfl rfl rfl Tryd.func37 rfl (by kernel_rfl) rfl (makeRR _ (hT.ext hE) (j : Int) 2 act (some ⟨gs, 0, none⟩) 4 4 [0, 0, 0, 0] (hMs.bv (P := fun q => ws.heap.size ≤ q) hgs (n := 4) (c := 4) rfl (Nat.le_refl _) (by omega)) (by omega)) ?_
          rintro x3 w114 ⟨D, dc, S2, m2, k2, rfl, hD, hP, hx114⟩
          refine ⟨_, rfl, ?_⟩
          have hV : EvtV w114 (fun q => ws.heap.size ≤ q) (mkE (j : Int) 2 act [0, 0, 0, 0]) ⟨D, 2, dc, S2, m2, k2⟩ := ⟨hD.mono fun q hq => by omega, hP.mono fun q hq => by omega⟩
          replace hIO := hIO.ext hx114
          have hz114 := hx114.size
          replace hE := hE.trans hx114
          refine Wl.does rfl rfl rfl (Does.lit1 4 rfl Tryd.underlying28 infoE2 rfl rfl rfl) ?_
          rintro _ w115 ⟨gE, rfl, hsE, hkE, hxE⟩
          replace hIO := hIO.ext hxE
          replace hV := hV.ext hxE
          have hzE2 := hxE.size
          replace hE := hE.trans hxE
          have hzE3 := hE.size
          have hln : EvtV w115 (NOwn w115 (fun q => w.heap.size ≤ q) (.slice S m k)) (mkE (j : Int) 2 act [0, 0, 0, 0]) ⟨D, 2, dc, S2, m2, k2⟩ := (hV.bd).mono fun q hq => ⟨by omega, hq.2, fun he => by have := hown q he; omega⟩
          refine Wl.does rfl rfl rfl (Does.appEO (xi := mkE (j : Int) 2 act [0, 0, 0, 0]) (r := ⟨D, 2, dc, S2, m2, k2⟩) rfl rfl rfl hIO hkE hln (by omega) (by omega)) ?_
          rintro _ w116 ⟨B2, sc2, rfl, hIO2, hB2⟩
          replace hE := Ext.step hE hB2 (by omega)
          refine vA ?_
          refine Wl.nil ?_
          refine Wx.blockN ?_
          refine Wx.thenN (hK15 _ _ ?_)
          refine vR [(0, _), (1, _), (5, _), (6, _), (7, _)] ?_
          refine vM ?_
          refine vAdd ?_
          refine vA ?_
          refine Wl.nil ?_
          refine Wx.thenN ?_
          exact hKL2 (j + 1, (B2, m + 1, sc2), evs ++ [mkE (j : Int) 2 act [0, 0, 0, 0]]) _ _ (.co (.co (.cons rfl (.cons rfl (.cons rfl (.nil)))))) ⟨by omega, by omega, by omega, all_snoc hok (mk_ok ha ⟨by omega, by omega⟩ ⟨by decide, by decide⟩ (by decide)), hIO2, hE⟩ (by show 8 - (j + 1) < 8 - j; omega)
        first | replace h29 := dF h29 | replace h29 := nF h29 | skip
        refine Wc.exit ?_
        refine Wx.thenE ?_
        refine Wx.thenE ?_
        refine Wx.hit ?_
        refine Wx.thenN ?_
        first | exact hJ10 ((S, m, k), evs, bd + 8) _ _ (.co (.cons rfl (.cons rfl (.cons rfl (.nil))))) ⟨.inl ⟨by omega, rfl⟩, by omega, fun _ => by omega, hok, hIO, hE⟩ | exact hJ10 ((S, m, k), evs, bd) _ _ (.co (.cons rfl (.cons rfl (.cons rfl (.nil))))) ⟨.inr ⟨by omega, rfl⟩, by omega, fun _ => by omega, hok, hIO, hE⟩
      first | replace h27 := dF h27 | replace h27 := nF h27 | skip
      refine Wc.skip ?_
      refine Wx.thenN ?_
      first | exact hJ10 ((S, m, k), evs, bd + 8) _ _ (.co (.cons rfl (.cons rfl (.cons rfl (.nil))))) ⟨.inl ⟨by omega, rfl⟩, by omega, fun _ => by omega, hok, hIO, hE⟩ | exact hJ10 ((S, m, k), evs, bd) _ _ (.co (.cons rfl (.cons rfl (.cons rfl (.nil))))) ⟨.inr ⟨by omega, rfl⟩, by omega, fun _ => by omega, hok, hIO, hE⟩
    intro ⟨⟨S, m, k⟩, evs, b2⟩ wt hJ
    clear hE hIO hok hmb hm8
    obtain ⟨hb2, hmb, hm8, hok, hIO, hE⟩ := hJ
    refine vs fun K16 hK16 => vR [(0, _), (1, _), (5, _), (6, _)] ?_
    refine vA ?_
    refine vn (hK16 _ _ ?_)
    refine Wc.block ?_
    refine vK [(0, _), (1, _), (5, _), (6, _), (8, _)] ?_
    refine Wc.loopC (ι := Nat × (Option Addr × Nat × Nat) × List Ev) [(0, _), (1, _), (6, _)] (fun | (i, (S, m, k), _) => [(8, .int .i64 (i : Int)), (5, .slice S m k)]) (fun | (i, (S, m, k), evs), wr => i ≤ n ∧ ((r ≠ 4 ∧ m ≤ b2 + cR (l.take i) r) ∨ (r = 4 ∧ m ≤ b2 + 4 * cR (l.take i) r)) ∧ (3 ≤ r → 8 ≤ m) ∧ (∀ x ∈ evs, evE x act = 0) ∧ EO wr w.heap.size S m k evs ∧ Ext w wr) (fun | (i, _) => n - i) ((0, (S, m, k), evs)) (.co (.co (.cons rfl (.cons rfl (.cons rfl (.nil)))))) (⟨by omega, by omega, hm8, hok, hIO, hE⟩) ?_
    intro ⟨i, ⟨S, m, k⟩, evs⟩ wu hJ KL3 hKL3
    clear hE hIO hok hmb hm8
    obtain ⟨hi, hmb, hm8, hok, hIO, hE⟩ := hJ
    have hzu := hE.size
    have hown := hIO.lt
    have hct := cR_take l i r
    refine Wc.seq (fun K17 hK17 => ?_)
    refine vs fun K18 hK18 => vR [(0, _), (1, _), (5, _), (6, _), (8, _)] ?_
    refine vM ?_
    refine vM ?_
    refine vl (Gives.lenS rfl Tryd.underlying68 rfl) ?_
    refine vl (Gives.lss rfl rfl rfl) ?_
    refine vn (hK18 _ _ ?_)
    refine Wc.cond _ rfl (fun h42 => ?_) (fun h42 => ?_)
    · first | replace h42 := dT h42 | replace h42 := nT h42 | skip
      refine Wc.skip ?_
      refine Wx.thenN (hK17 _ _ ?_)
      refine Wc.seq (fun K19 hK19 => ?_)
      refine Wc.block ?_
      refine Wc.seq (fun K20 hK20 => ?_)
      refine vs fun K21 hK21 => vK [(0, _), (1, _), (5, _), (6, _), (8, _)] ?_
      obtain ⟨xb, xo, hxA, hbw, x, xS, xm, xd, hz, hr0, hp⟩ := IL.at_ (hl.ext hE) (show i < n by omega)
      subst hxA
      have hxe := hie x (List.mem_of_getElem? hz)
      have hpl := hp.len
      have hp64 := (img_ok hxe).2.2.1
      have hst := cR_step hz r
      refine Wc.region ?_
      refine vM ?_
      refine vM ?_
      refine vl (Gives.ixSZ (i := i) (sz := 4) rfl Tryd.underlying68 (by kernel_rfl) rfl rfl rfl (by omega)) ?_
      refine vF 0 Tryd.underlying84 ?_
      refine vl (Gives.ldC rfl (by kernel_rfl) rfl (hr0 0 _ rfl)) ?_
      refine vM ?_
      refine vl (Gives.neq rfl rfl rfl) ?_
      refine vn (hK21 _ _ ?_)
      refine Wc.cond _ rfl (fun h51 => ?_) (fun h51 => ?_)
      · first | replace h51 := dT h51 | replace h51 := nT h51 | skip
        refine Wc.exit ?_
        refine Wx.thenE ?_
        refine Wx.hit ?_
        refine Wx.thenN (hK19 _ _ ?_)
        refine vR [(0, _), (1, _), (5, _), (6, _), (8, _)] ?_
        refine vM ?_
        refine vAdd ?_
        refine vA ?_
        refine Wl.nil ?_
        refine Wx.thenN ?_
        rw [if_neg h51] at hst
        exact hKL3 (i + 1, (S, m, k), evs) _ _ (.co (.co (.cons rfl (.cons rfl (.cons rfl (.nil)))))) ⟨by omega, by rw [hst]; exact hmb, hm8, hok, hIO, hE⟩ (by show n - (i + 1) < n - i; omega)
      first | replace h51 := dF h51 | replace h51 := nF h51 | skip
      refine Wc.skip ?_
      refine Wx.thenN (hK20 _ _ ?_)
      refine Wc.seq (fun K22 hK22 => ?_)
      refine vs fun K23 hK23 => vR [(0, _), (1, _), (5, _), (6, _), (8, _)] ?_
      refine vM ?_
      refine vl (Gives.neq rfl rfl rfl) ?_
      refine vn (hK23 _ _ ?_)
      refine Wc.cond _ rfl (fun h53 => ?_) (fun h53 => ?_)
      · first | replace h53 := dT h53 | replace h53 := nT h53 | skip
        refine vs fun K24 hK24 => vR [(0, _), (1, _), (5, _), (6, _), (8, _)] ?_
        refine vM ?_
        refine vM ?_
        refine vM ?_
        refine vl (Gives.ixSZ (i := i) (sz := 4) rfl Tryd.underlying68 (by kernel_rfl) rfl rfl rfl (by omega)) ?_
        refine vl (Gives.ldM rfl (by kernel_rfl) rfl hr0 (by kernel_rfl)) ?_
        refine vM ?_
        refine Wl.call rfl rfl rfl rfl Tryd.func63 rfl (by kernel_rfl) rfl (ofImD _ (hT.ext hE) x.role x.ver x.name xS xm xd x.pay hp act ha hxe (by omega)) ?_
        rintro x4 w176 ⟨y, ry, rfl, hV, hye, hx176⟩
        refine ⟨_, rfl, ?_⟩
        replace hIO := hIO.ext hx176
        have hz176 := hx176.size
        replace hE := hE.trans hx176
        refine Wl.does rfl rfl rfl (Does.lit1 4 rfl Tryd.underlying28 infoE2 rfl rfl rfl) ?_
        rintro _ w177 ⟨gE, rfl, hsE, hkE, hxE⟩
        replace hIO := hIO.ext hxE
        replace hV := hV.ext hxE
        have hzE2 := hxE.size
        replace hE := hE.trans hxE
        have hzE3 := hE.size
        have hln : EvtV w177 (NOwn w177 (fun q => w.heap.size ≤ q) (.slice S m k)) (y) ry := (hV.bd).mono fun q hq => ⟨by omega, hq.2, fun he => by have := hown q he; omega⟩
        refine Wl.does rfl rfl rfl (Does.appEO (xi := y) (r := ry) rfl rfl rfl hIO hkE hln (by omega) (by omega)) ?_
        rintro _ w178 ⟨B2, sc2, rfl, hIO2, hB2⟩
        replace hE := Ext.step hE hB2 (by omega)
        refine vA ?_
        refine vn (hK24 _ _ ?_)
        refine Wc.exit ?_
        refine Wx.thenE ?_
        refine Wx.hit ?_
        refine Wx.thenN (hK19 _ _ ?_)
        refine vR [(0, _), (1, _), (5, _), (6, _), (8, _)] ?_
        refine vM ?_
        refine vAdd ?_
        refine vA ?_
        refine Wl.nil ?_
        refine Wx.thenN ?_
        rw [if_pos (by omega)] at hst
        exact hKL3 (i + 1, (B2, m + 1, sc2), evs ++ [y]) _ _ (.co (.co (.cons rfl (.cons rfl (.cons rfl (.nil)))))) ⟨by omega, by rw [hst]; omega, fun _ => by omega, all_snoc hok hye, hIO2, hE⟩ (by show n - (i + 1) < n - i; omega)
      first | replace h53 := dF h53 | replace h53 := nF h53 | skip
      refine Wc.skip ?_
      refine Wx.thenN (hK22 _ _ ?_)
      refine vs fun K25 hK25 => vR [(0, _), (1, _), (5, _), (6, _), (8, _)] ?_
      refine vM ?_
      refine vM ?_
      refine vl (Gives.ixSZ (i := i) (sz := 4) rfl Tryd.underlying68 (by kernel_rfl) rfl rfl rfl (by omega)) ?_
      refine vl (Gives.ldM rfl (by kernel_rfl) rfl hr0 (by kernel_rfl)) ?_
      refine Wl.call rfl rfl rfl rfl Tryd.func64 rfl (by kernel_rfl) rfl (linesRN _ x.role x.ver x.name xS xm xd x.pay hp (by omega)) ?_
      rintro x5 w184 ⟨LS, Lm, Lk, rfl, hL, hx184⟩
      refine ⟨_, rfl, ?_⟩
      replace hIO := hIO.ext hx184
      have hz184 := hx184.size
      have hLl := hL.len
      have hL4 := linesS_4 x.pay
      replace hE := hE.trans hx184
      refine vA ?_
      refine vn (hK25 _ _ ?_)
      refine vs fun K26 hK26 => vR [(0, _), (1, _), (5, _), (6, _), (8, _), (9, _)] ?_
      refine vA ?_
      refine vn (hK26 _ _ ?_)
      refine Wc.block ?_
      refine vK [(0, _), (1, _), (5, _), (6, _), (8, _), (9, _), (10, _)] ?_
      refine Wc.loopC (ι := Nat × (Option Addr × Nat × Nat) × List Ev) [(0, _), (1, _), (6, _), (8, _), (9, _)] (fun | (q, (S, m, k), _) => [(10, .int .i64 (q : Int)), (5, .slice S m k)]) (fun | (q, (S, m', k), evs), wr => q ≤ Lm ∧ m' = m + q ∧ (∀ x ∈ evs, evE x act = 0) ∧ BL wr (NOwn wr (fun q => w.heap.size ≤ q) (.slice S m' k)) LS Lm Lk (linesS x.pay) ∧ EO wr w.heap.size S m' k evs ∧ Ext w wr) (fun | (q, _) => Lm - q) ((0, (S, m, k), evs)) (.co (.co (.cons rfl (.cons rfl (.cons rfl (.cons rfl (.cons rfl (.nil)))))))) (⟨by omega, by omega, hok, hL.bdP.mono fun q hq => ⟨by omega, hq.2, fun he => by have := hown q he; omega⟩, hIO, hE⟩) ?_
      intro ⟨q, ⟨S, m, k⟩, evs⟩ wv hJ KL4 hKL4
      have hm0 : m ≤ 1000 := by omega
      clear hE hIO hok hown
      obtain ⟨hq, hmq, hok, hL, hIO, hE⟩ := hJ
      have hown := hIO.lt
      have hzv := hE.size
      refine Wc.seq (fun K27 hK27 => ?_)
      refine vs fun K28 hK28 => vR [(0, _), (1, _), (5, _), (6, _), (8, _), (9, _), (10, _)] ?_
      refine vM ?_
      refine vM ?_
      refine vl (Gives.lenS rfl Tryd.underlying32 rfl) ?_
      refine vl (Gives.lss rfl rfl rfl) ?_
      refine vn (hK28 _ _ ?_)
      refine Wc.cond _ rfl (fun h71 => ?_) (fun h71 => ?_)
      · first | replace h71 := dT h71 | replace h71 := nT h71 | skip
        refine Wc.skip ?_
        refine Wx.thenN (hK27 _ _ ?_)
        refine Wc.seq (fun K29 hK29 => ?_)
        refine Wc.block ?_
        refine vK [(0, _), (1, _), (5, _), (6, _), (8, _), (9, _), (10, _)] ?_
        obtain ⟨yb, yo, hLA, hLw, f, fA, fn, fc, hzf, hcellf, hF⟩ := hL.at'' (show q < Lm by omega)
        subst hLA
        have hfl := linesS_le (List.mem_of_getElem? hzf)
        have hfm := hF.len
        refine Wc.region ?_
        refine vM ?_
        refine vM ?_
        refine vM ?_
        refine vM ?_
        refine vl (Gives.ixS (i := _) rfl Tryd.underlying32 (by kernel_rfl) rfl rfl rfl (by omega)) ?_
        refine vl (Gives.ldC rfl (by kernel_rfl) rfl hcellf) ?_
        refine Wl.call rfl rfl rfl rfl Tryd.func37 rfl (by kernel_rfl) rfl (makeRR _ (hT.ext hE) 9 3 act fA fn fc f hF (by omega)) ?_
        rintro x6 w226 ⟨D, dc, S2, m2, k2, rfl, hD, hP, hx226⟩
        refine ⟨_, rfl, ?_⟩
        have hz226 := hx226.size
        have hV : EvtV w226 (NOwn w226 (fun q => w.heap.size ≤ q) (.slice S m k)) (mkE 9 3 act f) ⟨D, 2, dc, S2, m2, k2⟩ := ⟨hD.bdP.mono fun q hq => ⟨by omega, hq.2, fun he => by have := hown q he; omega⟩, hP.bd.mono fun q hq => ⟨by rcases hq.1 with h | h; exact h.1; omega, hq.2, fun he => by rcases hq.1 with h | h; exact h.2.2 he; have := hown q he; omega⟩⟩
        replace hIO := hIO.ext hx226
        replace hL := (hL.ext hx226).mono fun q hq => hq.up hz226
        replace hE := hE.trans hx226
        refine Wl.does rfl rfl rfl (Does.lit1 4 rfl Tryd.underlying28 infoE2 rfl rfl rfl) ?_
        rintro _ w227 ⟨gE, rfl, hsE, hkE, hxE⟩
        have hzE2 := hxE.size
        replace hIO := hIO.ext hxE
        replace hV := (hV.ext hxE).mono fun q hq => hq.up hzE2
        replace hL := (hL.ext hxE).mono fun q hq => hq.up hzE2
        replace hE := hE.trans hxE
        have hzE3 := hE.size
        refine Wl.does rfl rfl rfl (Does.appEOn (r := [mkE 9 3 act f]) rfl rfl rfl hIO (row_evt (x := mkE 9 3 act f) (r := ⟨D, 2, dc, S2, m2, k2⟩) hkE) (EachR.single (evt_rep hV)) (by omega) (by omega)) ?_
        rintro _ w228 ⟨B2, sc2, rfl, hIO2, hB2, hN2, hNN2⟩
        replace hL := (hL.fr (hN2.mono fun q hq => ⟨trivial, hq.2⟩)).mono (P' := NOwn w228 (fun q => w.heap.size ≤ q) (.slice B2 (m + 1) sc2)) fun q hq => ⟨hq.1, (hNN2 q ⟨trivial, hq.2⟩).2⟩
        replace hE := Ext.step hE hB2 (by omega)
        refine vA ?_
        refine Wl.nil ?_
        refine Wx.blockN ?_
        refine Wx.thenN (hK29 _ _ ?_)
        refine vR [(0, _), (1, _), (5, _), (6, _), (8, _), (9, _), (10, _)] ?_
        refine vM ?_
        refine vAdd ?_
        refine vA ?_
        refine Wl.nil ?_
        refine Wx.thenN ?_
        exact hKL4 (q + 1, (B2, _, sc2), evs ++ [mkE 9 3 act f]) _ _ (.co (.co (.cons rfl (.cons rfl (.cons rfl (.cons rfl (.cons rfl (.nil)))))))) ⟨by omega, by omega, all_snoc hok (mk_ok ha ⟨by decide, by decide⟩ ⟨by decide, by decide⟩ (by omega)), hL, hIO2, hE⟩ (by show Lm - (q + 1) < Lm - q; omega)
      first | replace h71 := dF h71 | replace h71 := nF h71 | skip
      refine Wc.exit ?_
      refine Wx.thenE ?_
      refine Wx.thenE ?_
      refine Wx.hit ?_
      refine Wx.blockN ?_
      refine Wx.thenN (hK19 _ _ ?_)
      refine vR [(0, _), (1, _), (5, _), (6, _), (8, _)] ?_
      refine vM ?_
      refine vAdd ?_
      refine vA ?_
      refine Wl.nil ?_
      refine Wx.thenN ?_
      rw [if_pos (by omega)] at hst
      exact hKL3 (i + 1, (S, m, k), evs) _ _ (.co (.co (.cons rfl (.cons rfl (.cons rfl (.nil)))))) ⟨by omega, by rw [hst]; omega, fun _ => by omega, hok, hIO, hE⟩ (by show n - (i + 1) < n - i; omega)
    first | replace h42 := dF h42 | replace h42 := nF h42 | skip
    refine Wc.exit ?_
    refine Wx.thenE ?_
    refine Wx.thenE ?_
    refine Wx.hit ?_
    refine Wx.blockN ?_
    refine Wx.thenN (hK9 _ _ ?_)
    refine vR [(0, _), (1, _), (5, _), (6, _)] ?_
    refine vM ?_
    refine vAdd ?_
    refine vA ?_
    refine Wl.nil ?_
    refine Wx.thenN ?_
    obtain rfl : i = n := by omega
    rw [List.take_of_length_le (by omega)] at hmb
    refine hKL1 (r + 1, (S, m, k), evs, bd + (if r = 3 then 8 else 0) + (if r = 4 then 4 * cR l 4 else cR l r)) _ _ (.co (.co (.cons rfl (.cons rfl (.nil))))) ⟨?_, ?_, fun _ => by omega, hok, hIO, hE⟩ (by show (6 - (r + 1)).toNat < (6 - r).toNat; omega)
    · rcases hrb with ⟨rfl, rfl⟩ | ⟨rfl, rfl⟩ | ⟨rfl, rfl⟩ | ⟨rfl, rfl⟩ | ⟨rfl, rfl⟩
      · right; left; exact ⟨rfl, by simp⟩
      · right; right; left; exact ⟨rfl, by simp⟩
      · right; right; right; left; exact ⟨rfl, by simp; omega⟩
      · right; right; right; right; exact ⟨rfl, by simp⟩
      · omega
    · split <;> split <;> first | omega | (rename_i h1 h2; subst h2; omega) | (rename_i h1 h2; subst h1; omega)
  first | replace h23 := dF h23 | replace h23 := nF h23 | skip
  refine Wc.exit ?_
  refine Wx.thenE ?_
  refine Wx.thenE ?_
  refine Wx.hit ?_
  refine Wx.thenN (hK5 _ _ ?_)
  refine vs fun K30 hK30 => vR [(5, _)] ?_
  refine vM ?_
  refine vA ?_
  refine vn (hK30 _ _ ?_)
  refine Wc.ret ?_
  refine Wx.ret [_] ⟨rfl, trivial⟩ ?_
  exact ⟨S, m, k, evs, rfl, hIO, hok, by omega, by omega, hE⟩
end Go.Proofs.YtnbgieccindpnaaDoor
/- Drawn logs: rows of events put together, an event stored; drawn logs. -/
namespace Go.Proofs.YtnbgieccindpnaaDoor
set_option linter.all false
set_option maxRecDepth 20000
open Go.RowKit
/-- a row of events of the call's own, from block base on; what the events hold lies in blocks of S, not in the row's own -/
def EOs (w : World) (base : Nat) (S : Nat → Prop) (A : Option Addr) (n c : Nat) (l : List Ev) : Prop := ∃ vs, w.ownsRow base 34 4 (.slice A n c) n vs ∧ EachR Rp.evt w (NOwn w S (.slice A n c)) vs l
section
variable {w w' : World} {base n c : Nat} {A : Option Addr} {l : List Ev} {P S S' : Nat → Prop}
theorem EOs.fr (h : EOs w base S A n c l) (f : Fr P w w') (hp : ∀ k, base ≤ k → P k) (hs : ∀ k, S k → P k) : EOs w' base S A n c l :=
  let ⟨vs, ho, he⟩ := h
  ⟨vs, own_fr ho f hp, (he.fr (f.mono fun k hk => hs k hk.1)).mono fun k hk _ => ⟨hk.1, Nat.lt_of_lt_of_le hk.2.1 f.size, hk.2.2⟩⟩
theorem EOs.ext (h : EOs w base S A n c l) (e : Ext w w') : EOs w' base S A n c l := h.fr (P := fun _ => True) e.fr (fun _ _ => trivial) (fun _ _ => trivial)
theorem EOs.frN {b : Nat} (h : EOs w base S A n c l) (f : Fr (fun k => k ≠ b) w w') (hne : Value.ownBlock (.slice A n c) ≠ some b) (hs : ∀ k, S k → k ≠ b) : EOs w' base S A n c l :=
  let ⟨vs, ho, he⟩ := h
  ⟨vs, own_frN ho f hne, (he.fr (f.mono fun k hk => hs k hk.1)).mono fun k hk _ => ⟨hk.1, Nat.lt_of_lt_of_le hk.2.1 f.size, hk.2.2⟩⟩
theorem EOs.lit0 {g : Nat} (hk : Blk w g 34 #[]) (hg : base ≤ g) : EOs w base S (some ⟨g, 0, none⟩) 0 0 [] := ⟨[], Blk.own (xs := []) hk hg rfl rfl (by omega), EachR.nil_⟩
theorem EOs.far (h : EOs w base S A n c l) {q : Nat} (hq : q < base) : Value.ownBlock (.slice A n c) ≠ some q := fun he => by
  obtain ⟨vs, ho, _⟩ := h
  have := (own_lt ho q he).1
  omega
theorem EOs.lt (h : EOs w base S A n c l) : ∀ k, Value.ownBlock (.slice A n c) = some k → k < w.heap.size := let ⟨_, ho, _⟩ := h; fun k hk => (own_lt ho k hk).2
theorem EOs.mono (h : EOs w base S A n c l) (hs : ∀ k, S k → S' k) : EOs w base S' A n c l := let ⟨vs, ho, he⟩ := h; ⟨vs, ho, he.mono fun k hk _ => ⟨hs k hk.1, hk.2⟩⟩
theorem EOs.eo {b : Nat} (h : EOs w base S A n c l) (hs : ∀ k, S k → b ≤ k) (hb : b ≤ base) : EO w b A n c l := let ⟨vs, ho, he⟩ := h; ⟨vs, own_mono ho hb, he.mono fun k hk _ => ⟨hs k hk.1, hk.2⟩⟩
theorem EO.head (h : EO w base A n c l) (hm : 0 < n) : ∃ g, A = some ⟨g, 0, none⟩ ∧ base ≤ g ∧ g < w.heap.size := let ⟨vs, ho, _⟩ := h; own_head ho hm
theorem EO.at_ {g k : Nat} (h : EO w base (some ⟨g, 0, none⟩) n c l) (hk : k < n) :
    ∃ x r, l[k]? = some x ∧ w.rangeAt g (0 + k * 4) (evtC x r) ∧ EvtV w (NOwn w (fun q => base ≤ q) (.slice (some ⟨g, 0, none⟩) n c)) x r := by
  have hln := h.len
  obtain ⟨vs, ho, he⟩ := h
  have hz : l[k]? = some l[k] := List.getElem?_eq_getElem (by omega)
  generalize l[k] = x at hz
  obtain ⟨r, h5, h6⟩ := evt_of (he.2 k x hz)
  refine ⟨x, r, hz, fun j v hj => ?_, h6⟩
  have hc := ho.cells (g := g) rfl (k * 4 + j) v (by
    have e : ((vs.drop (k * Rp.evt.size)).take Rp.evt.size)[j]? = some v := by rw [h5]; exact hj
    rw [List.getElem?_take] at e
    split at e
    · rw [List.getElem?_drop] at e; exact e
    · cases e)
  have e2 : (0 + k * 4 + j) = k * 4 + j := by omega
  rw [e2]
  simpa [Addr.add_lit] using hc
variable {n' : Nat} {e : Env} {o : Oper} {x y : Operand}
theorem Does.appEOs {p sc m c : Nat} {B A : Option Addr} {l r : List Ev} {ys : List Value} {T : Nat → Prop} (ho : o.op = .call { callee := .builtin .append, args := #[x, y], argTypes := #[28, 28] })
    (hx : ev e x = some (.slice B p sc)) (hy : ev e y = some (.slice A m c)) (hown : EOs w base S B p sc l) (hr : Row w T 4 A m c ys) (he : EachR Rp.evt w (NOwn w S (.slice B p sc)) ys r) (hp : p + m ≤ 1000000) (hb : base ≤ w.heap.size) :
    Does Tryd.prog n' o e w (fun v w' => ∃ B' sc', v = .slice B' (p + m) sc' ∧ EOs w' base S B' (p + m) sc' (l ++ r) ∧ Below base w w' ∧ Fr (NOwn w (fun _ => True) (.slice B p sc)) w w' ∧ ∀ k, NOwn w (fun _ => True) (.slice B p sc) k → NOwn w' (fun _ => True) (.slice B' (p + m) sc') k) := by
  obtain ⟨vs, hw1, hw2⟩ := hown
  refine (Does.appX ho Tryd.underlying28 infoE4 rfl (by decide) hx hy hw1 hr he.one (by omega) (by decide) hb).mono ?_
  rintro v w' ⟨B', sc', rfl, h1, h2, h3, h4⟩
  have key : ∀ k, NOwn w S (.slice B p sc) k → NOwn w (fun _ => True) (.slice B p sc) k := fun k hk => ⟨trivial, hk.2⟩
  refine ⟨B', sc', rfl, ⟨_, h1, ?_⟩, h2, h3, h4⟩
  exact ((hw2.app he).fr (h3.mono key)).mono fun k hk _ => ⟨hk.1, (h4 k (key k hk)).2⟩
theorem Does.appEO0 {sc m c : Nat} {B A : Option Addr} {r : List Ev} {ys : List Value} {T : Nat → Prop} (ho : o.op = .call { callee := .builtin .append, args := #[x, y], argTypes := #[28, 28] })
    (hx : ev e x = some (.slice B 0 sc)) (hy : ev e y = some (.slice A m c)) (hown : EOs w base S B 0 sc []) (hr : Row w T 4 A m c ys) (he : EachR Rp.evt w (NOwn w S (.slice B 0 sc)) ys r) (hp : m ≤ 1000000) (hb : base ≤ w.heap.size) :
    Does Tryd.prog n' o e w (fun v w' => ∃ B' sc', v = .slice B' m sc' ∧ EOs w' base S B' m sc' r ∧ Below base w w' ∧ Fr (NOwn w (fun _ => True) (.slice B 0 sc)) w w' ∧ ∀ k, NOwn w (fun _ => True) (.slice B 0 sc) k → NOwn w' (fun _ => True) (.slice B' m sc') k) := by
  refine (Does.appEOs ho hx hy hown hr he (by omega) hb).mono ?_
  rintro v w' ⟨B', sc', rfl, h1, h2⟩
  rw [Nat.zero_add] at h1 h2
  exact ⟨B', sc', by rw [Nat.zero_add], h1, h2⟩
/-- an event stored at a place of the row -/
theorem Does.stEO {g m c j : Nat} {l : List Ev} {xi : Ev} {r : ERow} {t : TypeId} (ho : o.op = .store t x y) (hx : ev e x = some (.pointer (some ⟨g, 0 + j * 4, none⟩))) (hy : ev e y = some (.agg (evtC xi r).toArray)) (hown : EO w base (some ⟨g, 0, none⟩) m c l) (hp : EvtV w (NOwn w (fun k => base ≤ k) (.slice (some ⟨g, 0, none⟩) m c)) xi r) (hi : (Tryd.prog.info? t).map (·.size) = some 4) (hj : j < m) :
    Does Tryd.prog n' o e w (fun _ w' => EO w' base (some ⟨g, 0, none⟩) m c (l.take j ++ [xi] ++ l.drop (j + 1)) ∧ Fr (fun k => k ≠ g) w w') := by
  obtain ⟨vs, hw, he⟩ := hown
  have hl := hw.1
  rcases hw.2 with ⟨hv, h0⟩ | ⟨g', cap, cur, hv, hb, hg, hnc, hcm, hcs, ht⟩
  · simp only [Value.slice.injEq] at hv; cases hv.1
  · simp only [Value.slice.injEq, Option.some.injEq, Addr.mk.injEq, and_true, true_and] at hv
    obtain ⟨rfl, rfl⟩ := hv
    have hcl : m * 4 ≤ cur.toList.length := by
      have := congrArg List.length ht
      rw [List.length_take] at this
      omega
    intro a ha ops Q rest hwd hK
    refine BigFrame.wpList_want hwd fun K hk => ?_
    have hst := run_stVar (P := Tryd.prog) g (0 + j * 4) 34 t (evtC xi r) cur w hg (by show 0 + j * 4 + 4 ≤ cur.size; simp at hcl; omega) (evtC_one xi r) hi
    unfold Oper.wp execOp
    simp only [ho, ha.ev hx, ha.ev hy, Instr.storeAt, Instr.sureAddr, Sem.run_bind, Sem.run_pure, Result.andThen_ok, hst]
    have hF := fr_setRow w g (cur.toList.take (0 + j * 4) ++ evtC xi r ++ cur.toList.drop (0 + j * 4 + (evtC xi r).length)).toArray
    have hG := setRow_heap w g cur (cur.toList.take (0 + j * 4) ++ evtC xi r ++ cur.toList.drop (0 + j * 4 + (evtC xi r).length)).toArray 34 (0, 0) hg
    refine hk _ _ (hK _ _ ⟨⟨vs.take (j * 4) ++ evtC xi r ++ vs.drop ((j + 1) * 4), ⟨?_, .inr ⟨g, c, _, rfl, hb, hG, hnc, hcm, ?_, ?_⟩⟩, ?_⟩, hF⟩)
    · simp [evtC]; omega
    · simp [evtC] at *; omega
    · have h2 := take_mid cur.toList (evtC xi r) (j * 4) 4 (m * 4) rfl (by omega) hcl
      rw [ht] at h2
      have e1 : 0 + j * 4 = j * 4 := by omega
      have e2 : (evtC xi r).length = 4 := rfl
      have e3 : (j + 1) * 4 = j * 4 + 4 := by omega
      rw [e1, e2, e3]
      exact h2
    · refine ((((he.take j).app (EachR.single (evt_rep hp))).app (he.drop (j + 1))).fr (hF.mono fun k hk hkg => ?_)).mono fun k hk _ => ⟨hk.1, Nat.lt_of_lt_of_le hk.2.1 hF.size, hk.2.2⟩
      subst hkg
      exact hk.2.2 rfl
end
theorem all_app {act : Int} {l r : List Ev} (h : ∀ y ∈ l, evE y act = 0) (h2 : ∀ y ∈ r, evE y act = 0) : ∀ y ∈ l ++ r, evE y act = 0 := fun y hy => by
  rcases List.mem_append.1 hy with h1 | h1
  · exact h y h1
  · exact h2 y h1
theorem all_take {act : Int} {l : List Ev} (h : ∀ y ∈ l, evE y act = 0) (k : Nat) : ∀ y ∈ l.take k, evE y act = 0 := fun y hy => h y (List.mem_of_mem_take hy)
theorem all_drop {act : Int} {l : List Ev} (h : ∀ y ∈ l, evE y act = 0) (k : Nat) : ∀ y ∈ l.drop k, evE y act = 0 := fun y hy => h y (List.mem_of_mem_drop hy)
theorem all_one {act : Int} {x : Ev} (h : evE x act = 0) : ∀ y ∈ [x], evE y act = 0 := fun y hy => by rw [List.mem_singleton.1 hy]; exact h
theorem activeD (w : World) (n : Int) : Calls Tryd.prog 11 #[.int .i64 n] w fun e w' => e = .returned (.int .i64 (1 + n % 3)) ∧ w = w' := by
  refine calls_enter Tryd.func11 rfl Tryd.ntmps11 rfl ?_
  refine vs fun K1 hK1 => vR [(0, _)] ?_
  refine vA ?_
  refine vn (hK1 _ _ ?_)
  refine vs fun K2 hK2 => vK [(0, _)] ?_
  have h0 := Int.emod_nonneg n (show (3 : Int) ≠ 0 by decide)
  have h1 := Int.emod_lt_of_pos n (show (0 : Int) < 3 by decide)
  refine Wc.region ?_
  refine vM ?_
  refine Wl.call rfl rfl rfl rfl Tryd.func12 rfl (by kernel_rfl) rfl (mod_calls _ n 3 (by omega) (by omega)) ?_
  rintro x1 w1 ⟨rfl, rfl⟩
  refine ⟨_, rfl, ?_⟩
  refine vAdd ?_
  refine vA ?_
  refine vn (hK2 _ _ ?_)
  refine Wc.ret ?_
  refine Wx.ret [_] ⟨rfl, trivial⟩ ?_
  exact ⟨rfl, rfl⟩
end Go.Proofs.YtnbgieccindpnaaDoor
/- Drawn logs: Log. -/
namespace Go.Proofs.YtnbgieccindpnaaDoor
set_option linter.all false
set_option maxRecDepth 20000
open Go.RowKit
def DLogR (w : World) (act rs : Int) (e : Ending) (w' : World) : Prop := ∃ S m k evs, e = .returned (.agg #[.int .i64 act, .int .i64 (rs % 1000), .slice S m k]) ∧ EO w' w.heap.size S m k evs ∧ (∀ x ∈ evs, evE x act = 0) ∧ m ≤ 37 ∧ Ext w w'
set_option maxRecDepth 20000 in
set_option maxHeartbeats 8000000 in
theorem drawLog {P : Nat → Prop} (w : World) (hT : Tab w) (A : Option Addr) (n c : Nat) (codes : List UInt8) (ha : BV w P A n c codes) (act : Int) (hact : 1 ≤ act ∧ act ≤ 3) (rs : Int) :
    Calls Tryd.prog 19 #[.slice A n c, .int .i64 act, .int .i64 rs] w (DLogR w act rs) := by
  have hTl := hT.lt
  have hok0 : ∀ y ∈ ([] : List Ev), evE y act = 0 := by simp
  refine calls_enter Tryd.func19 rfl Tryd.ntmps19 rfl ?_
  have hE : Ext w w := Ext.refl w
  refine vs fun K1 hK1 => vR [(0, _), (1, _), (2, _)] ?_
  refine Wl.does rfl rfl rfl (Does.alB (.agg #[(.int .i64 0), (.int .i64 0), (.slice none 0 0)]) rfl (by kernel_rfl) rfl) ?_
  rintro _ w0_0 ⟨b6, rfl, hs6, hb6, hx0_0⟩
  have hg6 : w.heap.size ≤ b6 := Nat.le_trans hE.size hs6
  replace hE := hE.trans hx0_0
  refine vn (hK1 _ _ ?_)
  refine vs fun K2 hK2 => vR [(0, _), (1, _), (2, _), (6, _)] ?_
  refine vM ?_
  refine Wl.call rfl rfl rfl rfl Tryd.func13 rfl (by kernel_rfl) rfl (newD _ A n c codes (ha.ext hE) 240) ?_
  rintro x0 w11 ⟨gC, rfl, hgC0, hC, hx11⟩
  refine ⟨_, rfl, ?_⟩
  have hgC : w.heap.size ≤ gC := Nat.le_trans hE.size hgC0
  have hz11 := hx11.size
  have hl6 := hb6.lt
  generalize hN : w11.heap.size = N at *
  have hgN := hC.lt
  have hn6g : b6 ≠ gC := by omega
  have hgT : 0 ≠ gC := by omega
  replace hb6 := hb6.ext hx11
  replace hE := hE.trans hx11
  refine vA ?_
  refine vn (hK2 _ _ ?_)
  refine vs fun K3 hK3 => vR [(1, _), (2, _), (6, _), (7, _)] ?_
  refine vM ?_
  refine vM ?_
  refine Wl.call rfl rfl rfl rfl Tryd.func12 rfl (by kernel_rfl) rfl (mod_calls _ rs 1000 (by omega) (by omega)) ?_
  rintro x1 w22 ⟨rfl, rfl⟩
  refine ⟨_, rfl, ?_⟩
  refine vl (Gives.buildS (pl := [(0, 1), (1, 1), (2, 1)]) (zv := (.agg #[(.int .i64 0), (.int .i64 0), (.slice none 0 0)])) rfl Tryd.underlying30 (by kernel_rfl) (by kernel_rfl) rfl rfl) ?_
  refine Wl.does rfl rfl rfl (Does.alB (.agg #[(.int .i64 0), (.int .i64 0), (.slice none 0 0)]) rfl (by kernel_rfl) rfl) ?_
  rintro _ w2_4 ⟨b8, rfl, hs8, hb8, hx2_4⟩
  have hn6_8 : b6 ≠ b8 := hb6.ne hs8
  have hg8 : w.heap.size ≤ b8 := Nat.le_trans hE.size hs8
  replace hb6 := hb6.ext hx2_4
  replace hE := hE.trans hx2_4
  refine Wl.acts rfl rfl (Does.stL 3 rfl rfl rfl hb8 (by kernel_rfl) rfl rfl rfl) ?_
  rintro _ w2_5 ⟨hbn, hF2_5⟩
  replace hb6 := hb6.frA hF2_5
  replace hE := Ext.over hE hF2_5 hg8
  replace hb8 := hbn
  clear hbn
  have hn8g : b8 ≠ gC := by omega
  have hN8 : N ≤ b8 := by omega
  have hb68 : b6 < b8 := by omega
  have hw8 : w.heap.size ≤ b8 := by omega
  replace hC := (hC.ext hx2_4).fr hF2_5 (fun q hq => by omega)
  refine vn (hK3 _ _ ?_)
  refine Wc.seq (fun K4 hK4 => ?_)
  refine vs fun K5 hK5 => vR [(1, _), (6, _), (7, _), (8, _)] ?_
  refine vM ?_
  refine Wl.call rfl rfl rfl rfl Tryd.func36 rfl (by kernel_rfl) rfl (nextD _ gC N hC 3 (by omega)) ?_
  rintro x2 w31 ⟨z, rfl, ⟨hz, hz'⟩, hC1, hF1⟩
  refine ⟨_, rfl, ?_⟩
  replace hb6 := hb6.frA hF1
  replace hb8 := hb8.frA hF1
  replace hE := Ext.over hE hF1 hgC
  refine vl (Gives.eql rfl rfl rfl) ?_
  refine vn (hK5 _ _ ?_)
  refine Wc.cond _ rfl (fun h21 => ?_) (fun h21 => ?_)
  · first | replace h21 := dT h21 | replace h21 := nT h21 | skip
    refine vs fun K6 hK6 => vR [(1, _), (6, _), (7, _), (8, _)] ?_
    refine vM ?_
    refine vM ?_
    refine Wl.call rfl rfl rfl rfl Tryd.func42 rfl (by kernel_rfl) rfl (eventsD _ (hT.ext hE) gC N hC1 (by have := hb8.lt; omega) hgT act hact 14 (by omega)) ?_
    rintro x3 w42 ⟨S, m, k, evs, rfl, hIO, hok, hm14, hC2, hF42⟩
    refine ⟨_, rfl, ?_⟩
    have hl8 := hb8.lt
    replace hIO := hIO.low (base' := b8 + 1) (by omega)
    replace hb6 := hb6.frA hF42
    replace hb8 := hb8.frA hF42
    replace hE := Ext.over hE hF42 hgC
    refine vF 2 Tryd.underlying30 ?_
    refine Wl.acts rfl rfl (Does.stC rfl rfl rfl hb8 (by kernel_rfl) (Nat.le_of_ble_eq_true rfl) rfl) ?_
    rintro _ w4_4 ⟨hbn, hF4_4⟩
    replace hb6 := hb6.frA hF4_4
    replace hE := Ext.over hE hF4_4 hg8
    replace hb8 := hbn
    clear hbn
    (try simp only [List.setIfInBounds_toArray, List.set_cons_zero, List.set_cons_succ, Nat.reduceAdd, Nat.zero_add] at hb8)
    replace hIO := hIO.fr hF4_4 (fun q hq => by omega)
    refine vn (hK6 _ _ ?_)
    refine vs fun K7 hK7 => vR [(6, _), (8, _)] ?_
    refine vl (Gives.ldW rfl (by kernel_rfl) rfl hb8 (by kernel_rfl)) ?_
    refine Wl.acts rfl rfl (Does.stL 3 rfl rfl rfl hb6 (by kernel_rfl) rfl rfl rfl) ?_
    rintro _ w5_1 ⟨hbn, hF5_1⟩
    replace hb8 := hb8.frA hF5_1
    replace hE := Ext.over hE hF5_1 hg6
    replace hb6 := hbn
    clear hbn
    replace hIO := hIO.fr hF5_1 (fun q hq => by omega)
    refine vn (hK7 _ _ ?_)
    refine Wc.ret ?_
    refine Wx.thenR ?_
    refine Wx.ret [_] ⟨⟨_, rfl, res_blk hb6 Tryd.underlying30 rfl (by kernel_rfl)⟩, trivial⟩ ?_
    exact ⟨S, m, k, evs, rfl, hIO.low (by omega), hok, by omega, hE⟩
  first | replace h21 := dF h21 | replace h21 := nF h21 | skip
  refine Wc.skip ?_
  refine Wx.thenN (hK4 _ _ ?_)
  refine vs fun K8 hK8 => vK [(1, _), (6, _), (7, _), (8, _)] ?_
  refine Wc.regionD (fun _ => true) Eq (.read 0 (.read 1 (.read 2 (.read 3 (.read 4 (.read 5 (.read 6 (.read 7 .tail)))))))) 8 (by kernel_rfl) (by kernel_rfl) (by kernel_rfl) (fun _ => rfl) (fun _ _ _ h k => h.trans k) Quiet ⟨1, rfl⟩ ?_
  intro w6 hR6
  replace hb6 := hb6.ext hR6.ext
  replace hb8 := hb8.ext hR6.ext
  replace hE := hE.trans hR6.ext
  obtain ⟨cB, cn, cc, cl, ck, hc1, hc2, hc3, hc4⟩ := hC1.ext hR6.ext
  replace hC1 := hC1.ext hR6.ext
  refine rE rfl (Gives.move rfl rfl) ?_
  refine rE rfl (Gives.nilCheck rfl rfl) ?_
  refine rE rfl (Gives.fieldAt 0 rfl Tryd.underlying61 rfl (by kernel_rfl) rfl rfl) ?_
  refine rE rfl (Gives.ldC rfl (by kernel_rfl) rfl ((hc1.cell 0).trans rfl)) ?_
  refine rE rfl (Gives.move rfl rfl) ?_
  refine rE rfl (Gives.nilCheck rfl rfl) ?_
  refine rE rfl (Gives.fieldAt 1 rfl Tryd.underlying61 rfl (by kernel_rfl) rfl rfl) ?_
  refine rE rfl (Gives.ldC rfl (by kernel_rfl) rfl ((hc1.cell 1).trans rfl)) ?_
  refine RunE.tail rfl ?_
  refine vl (Gives.cutLo rfl Tryd.underlying22 (by kernel_rfl) rfl ck rfl rfl (by omega)) ?_
  refine Wl.call rfl rfl rfl rfl Tryd.func43 rfl (by kernel_rfl) rfl (drawChain _ _ _ _ _ (hc2.cut (k := ck) (by omega))) ?_
  rintro x4 w69 ⟨S1, m1, k1, l1, rfl, hI1, hce, hx69⟩
  refine ⟨_, rfl, ?_⟩
  have hl8a := hb8.lt
  have hz69 := hx69.size
  replace hC1 := hC1.ext hx69
  replace hb6 := hb6.ext hx69
  replace hb8 := hb8.ext hx69
  replace hE := hE.trans hx69
  refine vA ?_
  refine vn (hK8 _ _ ?_)
  refine vs fun K9 hK9 => vR [(1, _), (6, _), (7, _), (8, _), (9, _)] ?_
  refine vM ?_
  refine vM ?_
  refine Wl.call rfl rfl rfl rfl Tryd.func44 rfl (by kernel_rfl) rfl (chEvD _ (hT.ext hE) S1 m1 k1 l1 (hI1.sl (P := fun _ => True) fun _ _ => trivial) hce act hact) ?_
  rintro x5 w72 ⟨S, m, k, evs, rfl, hIO, hok, hm8, hm34, hx72⟩
  refine ⟨_, rfl, ?_⟩
  have hl8 := hb8.lt
  replace hIO := hIO.low (base' := b8 + 1) (by omega)
  replace hC1 := hC1.ext hx72
  replace hb6 := hb6.ext hx72
  replace hb8 := hb8.ext hx72
  replace hE := hE.trans hx72
  refine vF 2 Tryd.underlying30 ?_
  refine Wl.acts rfl rfl (Does.stC rfl rfl rfl hb8 (by kernel_rfl) (Nat.le_of_ble_eq_true rfl) rfl) ?_
  rintro _ w7_4 ⟨hbn, hF7_4⟩
  replace hb6 := hb6.frA hF7_4
  replace hE := Ext.over hE hF7_4 hg8
  replace hb8 := hbn
  clear hbn
  (try simp only [List.setIfInBounds_toArray, List.set_cons_zero, List.set_cons_succ, Nat.reduceAdd, Nat.zero_add] at hb8)
  replace hIO := hIO.fr hF7_4 (fun q hq => by omega)
  replace hC1 := hC1.fr hF7_4 (fun q hq => by omega)
  refine vn (hK9 _ _ ?_)
  refine Wc.seq (fun K10 hK10 => ?_)
  refine vs fun K11 hK11 => vR [(1, _), (6, _), (7, _), (8, _)] ?_
  refine vM ?_
  refine Wl.call rfl rfl rfl rfl Tryd.func36 rfl (by kernel_rfl) rfl (nextD _ gC N hC1 4 (by omega)) ?_
  rintro x6 w81 ⟨q0, rfl, ⟨hq0, hq0'⟩, hC2, hF81⟩
  refine ⟨_, rfl, ?_⟩
  replace hIO := hIO.fr hF81 (fun q hq => by omega)
  replace hb6 := hb6.frA hF81
  replace hb8 := hb8.frA hF81
  replace hE := Ext.over hE hF81 hgC
  refine vA ?_
  refine vn (hK11 _ _ ?_)
  refine Wc.block ?_
  refine vK [(1, _), (6, _), (7, _), (8, _), (10, _)] ?_
  refine Wc.loopC (ι := Int × (Option Addr × Nat × Nat) × List Ev) [(1, _), (6, _), (7, _), (8, _)] (fun | (q, _, _) => [(10, .int .i64 q)]) (fun | (q, (S, m, k), evs), wr => 0 ≤ q ∧ q ≤ 3 ∧ 5 + q ≤ (m : Int) ∧ (m : Int) + q ≤ 37 ∧ (∀ x ∈ evs, evE x act = 0) ∧ EO wr (b8 + 1) S m k evs ∧ CD wr gC N ∧ Blk wr b8 30 #[.int .i64 act, .int .i64 (rs % 1000), .slice S m k] ∧ Blk wr b6 30 #[.int .i64 0, .int .i64 0, .slice none 0 0] ∧ Ext w wr) (fun | (q, _) => q.toNat) ((q0, (S, m, k), evs)) (.co (.cons rfl (.cons rfl (.cons rfl (.cons rfl (.nil)))))) (⟨by omega, by omega, by omega, by omega, hok, hIO, hC2, hb8, hb6, hE⟩) ?_
  intro ⟨q, ⟨S, m, k⟩, evs⟩ wr hJ KL1 hKL1
  clear hE hIO hok hb8 hb6 hl8 hm8 hm34
  obtain ⟨hq0, hq3, hmq1, hmq2, hok, hIO, hC, hb8, hb6, hE⟩ := hJ
  refine Wc.seq (fun K12 hK12 => ?_)
  refine vs fun K13 hK13 => vR [(1, _), (6, _), (7, _), (8, _), (10, _)] ?_
  refine vM ?_
  refine vl (Gives.gtr rfl rfl rfl) ?_
  refine vn (hK13 _ _ ?_)
  refine Wc.cond _ rfl (fun h44 => ?_) (fun h44 => ?_)
  · first | replace h44 := dT h44 | replace h44 := nT h44 | skip
    refine Wc.skip ?_
    refine Wx.thenN (hK12 _ _ ?_)
    refine Wc.joinC (ι := (Option Addr × Nat × Nat) × List Ev) [(1, _), (6, _), (7, _), (8, _), (10, _)] (fun _ => []) (fun | ((S, m, k), evs), wr => 4 + q ≤ (m : Int) ∧ (m : Int) + q ≤ 38 ∧ (∀ x ∈ evs, evE x act = 0) ∧ EO wr (b8 + 1) S m k evs ∧ CD wr gC N ∧ Blk wr b8 30 #[.int .i64 act, .int .i64 (rs % 1000), .slice S m k] ∧ Blk wr b6 30 #[.int .i64 0, .int .i64 0, .slice none 0 0] ∧ Ext w wr) ?_ ?_ (.cons rfl (.cons rfl (.cons rfl (.cons rfl (.cons rfl (.nil))))))
    · intro K14 hJ14
      refine Wc.block ?_
      refine vs fun K15 hK15 => vR [(1, _), (6, _), (7, _), (8, _), (10, _)] ?_
      refine vM ?_
      refine vF 2 Tryd.underlying30 ?_
      refine vL hb8 ?_
      refine vl (Gives.lenS rfl Tryd.underlying28 rfl) ?_
      refine Wl.call rfl rfl rfl rfl Tryd.func36 rfl (by kernel_rfl) rfl (nextD _ gC N hC (m : Int) (by omega)) ?_
      rintro x7 w114 ⟨zj, rfl, ⟨hj0, hj1⟩, hC3, hF114⟩
      refine ⟨_, rfl, ?_⟩
      obtain ⟨j, rfl⟩ := Int.eq_ofNat_of_zero_le hj0
      replace hIO := hIO.fr hF114 (fun q hq => by omega)
      replace hb6 := hb6.frA hF114
      replace hb8 := hb8.frA hF114
      replace hE := Ext.over hE hF114 hgC
      refine vA ?_
      refine vn (hK15 _ _ ?_)
      refine vs fun K16 hK16 => vR [(1, _), (6, _), (7, _), (8, _), (10, _), (11, _)] ?_
      refine vM ?_
      refine Wl.call rfl rfl rfl rfl Tryd.func36 rfl (by kernel_rfl) rfl (nextD _ gC N hC3 5 (by omega)) ?_
      rintro x8 w121 ⟨z5, rfl, ⟨hz50, hz51⟩, hC4, hF121⟩
      refine ⟨_, rfl, ?_⟩
      replace hIO := hIO.fr hF121 (fun q hq => by omega)
      replace hb6 := hb6.frA hF121
      replace hb8 := hb8.frA hF121
      replace hE := Ext.over hE hF121 hgC
      refine vn (hK16 _ _ ?_)
      refine Wc.block ?_
      refine vs fun K17 hK17 => vR [(1, _), (6, _), (7, _), (8, _), (10, _), (11, _), (53, _)] ?_
      refine vl (Gives.eql rfl rfl rfl) ?_
      refine vA ?_
      refine vn (hK17 _ _ ?_)
      refine Wc.cond _ rfl (fun h72 => ?_) (fun h72 => ?_)
      · first | replace h72 := dT h72 | replace h72 := nT h72 | skip
        refine vK [(1, _), (6, _), (7, _), (8, _), (10, _), (11, _)] ?_
        refine Wc.regionB (fun q => [2, 7].contains q) [] (.read 1 (.read 2 (.read 3 (.read 4 (.read 6 (.read 7 (.read 8 (.read 9 (.read 10 (.call false 0 (.call false 5 .tail .none) .none)))))))))) 11 (by kernel_rfl) (by kernel_rfl) (by kernel_rfl) ?_
        intro w15 hR15
        replace hb6 := hb6.ext hR15.ext
        replace hb8 := hb8.ext hR15.ext
        replace hE := hE.trans hR15.ext
        have hO15_6 : Old w15.heap.size [] b6 := ⟨hb6.lt, trivial⟩
        have hO15_8 : Old w15.heap.size [] b8 := ⟨hb8.lt, trivial⟩
        have hX := Ext.refl w15
        replace hC4 := hC4.ext hR15.ext
        have hl8r := hb8.lt
        have hl6r := hb6.lt
        have hSL := ((hIO.ext hR15.ext).sl (P := fun q => b8 + 1 ≤ q) fun _ h => h).bd
        have hkc := hSL.le
        obtain ⟨vsA, hrA, heA⟩ := hSL.take (show j ≤ m by omega)
        obtain ⟨vsB, hrB, heB⟩ := hSL.cut (show j + 1 ≤ m by omega)
        refine RunE.read rfl rfl rfl rfl (fun wS _ => (Gives.fieldAt 2 rfl Tryd.underlying30 rfl (by kernel_rfl) rfl rfl)) ?_
        refine RunE.readM rfl rfl rfl rfl rfl (fun wS hS => (Gives.ldK rfl (by kernel_rfl) rfl ((hb8.ext hX).fr hS hO15_8) rfl)) ?_
        refine RunE.read rfl rfl rfl rfl (fun wS _ => (Gives.move rfl rfl)) ?_
        refine RunE.read rfl rfl rfl rfl (fun wS _ => (Gives.cutHiZ j rfl Tryd.underlying28 (by kernel_rfl) rfl rfl rfl (by omega))) ?_
        refine RunE.read rfl rfl rfl rfl (fun wS _ => (Gives.fieldAt 2 rfl Tryd.underlying30 rfl (by kernel_rfl) rfl rfl)) ?_
        refine RunE.readM rfl rfl rfl rfl rfl (fun wS hS => (Gives.ldK rfl (by kernel_rfl) rfl ((hb8.ext hX).fr hS hO15_8) rfl)) ?_
        refine RunE.read rfl rfl rfl rfl (fun wS _ => (Gives.move rfl rfl)) ?_
        refine RunE.read rfl rfl rfl rfl (fun wS _ => (gAdd rfl rfl rfl)) ?_
        refine RunE.read rfl rfl rfl rfl (fun wS _ => (Gives.cutLoZ 4 (j + 1) rfl Tryd.underlying28 (by kernel_rfl) rfl rfl rfl (by omega))) ?_
        refine RunE.turn rfl rfl rfl rfl (Does.lit0 4 rfl Tryd.underlying28 infoE2) ?_ RunE.none
        rintro _ w150 ⟨g150, rfl, hs150, hk150, hx150⟩
        have hl150 := hk150.lt
        have hz150 := hx150.size
        have hO0 : EOs w150 w15.heap.size (fun q => b8 + 1 ≤ q) (some ⟨g150, 0, none⟩) 0 0 [] := EOs.lit0 hk150 (by have := hX.size; omega)
        refine ⟨hx150.fr, ?_⟩
        replace hX := hX.trans hx150
        refine RunE.turn rfl rfl rfl rfl (Does.appEO0 rfl rfl rfl hO0 (hrA.fr hX.fr) ((heA.fr hX.fr).mono fun q hq hlt => ⟨hq.1, hlt, hO0.far hq.2⟩) (by omega) hX.size) ?_ RunE.none
        rintro _ w155 ⟨B1, sc1, rfl, hO1, hB155, hN155, hNN155⟩
        refine ⟨below_old hB155 (Nat.le_refl _), ?_⟩
        replace hX := Ext.step hX hB155 (Nat.le_refl _)
        refine RunE.tail rfl ?_
        replace hb6 := hb6.ext hX
        replace hb8 := hb8.ext hX
        replace hE := hE.trans hX
        have hxs := hX.size
        refine Wl.does rfl rfl rfl (Does.appEOs rfl rfl rfl hO1 (hrB.fr hX.fr) ((heB.fr hX.fr).mono fun q hq hlt => ⟨hq.1, hlt, hO1.far hq.2⟩) (by omega) hxs) ?_
        rintro _ w15t ⟨B9, sc9, rfl, hO9, hB15t, _, _⟩
        have hCf := (hC4.ext hX).fr (below_fr hB15t) (fun q hq => by omega)
        replace hb6 := Blk.bel hb6 hB15t (by omega)
        replace hb8 := Blk.bel hb8 hB15t (by omega)
        replace hE := Ext.step hE hB15t (by omega)
        refine vF 2 Tryd.underlying30 ?_
        refine Wl.acts rfl rfl (Does.stC rfl rfl rfl hb8 (by kernel_rfl) (Nat.le_of_ble_eq_true rfl) rfl) ?_
        rintro _ w15_13 ⟨hbn, hF15_13⟩
        replace hb6 := hb6.frA hF15_13
        replace hE := Ext.over hE hF15_13 hg8
        replace hb8 := hbn
        clear hbn
        (try simp only [List.setIfInBounds_toArray, List.set_cons_zero, List.set_cons_succ, Nat.reduceAdd, Nat.zero_add] at hb8)
        have hIOf := (hO9.eo (b := b8 + 1) (fun _ h => h) (by omega)).fr hF15_13 (fun q hq => by omega)
        replace hCf := hCf.fr hF15_13 (fun q hq => by omega)
        have hokf := all_app (all_take hok j) (all_drop hok (j + 1))
        refine Wl.nil ?_
        refine Wx.blockN ?_
        refine Wx.blockN ?_
        refine Wx.thenN ?_
        exact hJ14 ((_, _, _), _) _ _ (.cons rfl (.cons rfl (.cons rfl (.cons rfl (.cons rfl (.nil)))))) ⟨by omega, by omega, hokf, hIOf, hCf, hb8, hb6, hE⟩
      first | replace h72 := dF h72 | replace h72 := nF h72 | skip
      refine vs fun K18 hK18 => vR [(1, _), (6, _), (7, _), (8, _), (10, _), (11, _), (53, _)] ?_
      refine vl (Gives.eql rfl rfl rfl) ?_
      refine vA ?_
      refine vn (hK18 _ _ ?_)
      refine Wc.cond _ rfl (fun h87 => ?_) (fun h87 => ?_)
      · first | replace h87 := dT h87 | replace h87 := nT h87 | skip
        refine vK [(1, _), (6, _), (7, _), (8, _), (10, _), (11, _)] ?_
        refine Wc.regionB (fun q => [2, 7, 10, 14].contains q) [] (.read 1 (.read 2 (.read 3 (.read 4 (.read 6 (.read 7 (.read 8 (.read 9 (.read 10 (.read 13 (.read 14 (.read 15 (.read 16 (.call false 0 (.call false 5 (.call false 11 (.call false 12 .tail .none) .none) (.call false 11 (.call false 5 (.call false 12 .tail .none) .none) .none)) (.call false 11 (.call false 0 (.call false 5 (.call false 12 .tail .none) .none) .none) .none))))))))))))))) 17 (by kernel_rfl) (by kernel_rfl) (by kernel_rfl) ?_
        intro w17 hR17
        replace hb6 := hb6.ext hR17.ext
        replace hb8 := hb8.ext hR17.ext
        replace hE := hE.trans hR17.ext
        have hO17_6 : Old w17.heap.size [] b6 := ⟨hb6.lt, trivial⟩
        have hO17_8 : Old w17.heap.size [] b8 := ⟨hb8.lt, trivial⟩
        have hX := Ext.refl w17
        replace hC4 := hC4.ext hR17.ext
        have hl8r := hb8.lt
        have hl6r := hb6.lt
        have hSL := ((hIO.ext hR17.ext).sl (P := fun q => b8 + 1 ≤ q) fun _ h => h).bd
        have hkc := hSL.le
        obtain ⟨vsA, hrA, heA⟩ := hSL.take (show j ≤ m by omega)
        obtain ⟨vsB, hrB, heB⟩ := hSL.cut (show j ≤ m by omega)
        obtain ⟨xb, xo, hSA, hxb, x, rx, hzx, hrx, hvx⟩ := EL.at_ hSL (show j < m by omega)
        subst hSA
        have hxe := hok x (List.mem_of_getElem? hzx)
        refine RunE.read rfl rfl rfl rfl (fun wS _ => (Gives.fieldAt 2 rfl Tryd.underlying30 rfl (by kernel_rfl) rfl rfl)) ?_
        refine RunE.readM rfl rfl rfl rfl rfl (fun wS hS => (Gives.ldK rfl (by kernel_rfl) rfl ((hb8.ext hX).fr hS hO17_8) rfl)) ?_
        refine RunE.read rfl rfl rfl rfl (fun wS _ => (Gives.move rfl rfl)) ?_
        refine RunE.read rfl rfl rfl rfl (fun wS _ => (Gives.cutHiZ j rfl Tryd.underlying28 (by kernel_rfl) rfl rfl rfl (by omega))) ?_
        refine RunE.read rfl rfl rfl rfl (fun wS _ => (Gives.fieldAt 2 rfl Tryd.underlying30 rfl (by kernel_rfl) rfl rfl)) ?_
        refine RunE.readM rfl rfl rfl rfl rfl (fun wS hS => (Gives.ldK rfl (by kernel_rfl) rfl ((hb8.ext hX).fr hS hO17_8) rfl)) ?_
        refine RunE.read rfl rfl rfl rfl (fun wS _ => (Gives.move rfl rfl)) ?_
        refine RunE.read rfl rfl rfl rfl (fun wS _ => (Gives.ixSZ (i := j) (sz := 4) rfl Tryd.underlying28 (by kernel_rfl) rfl rfl rfl (by omega))) ?_
        refine RunE.readM rfl rfl rfl rfl rfl (fun wS hS => (Gives.ldM rfl (by kernel_rfl) rfl (range_goX hrx hxb hX hS) (by kernel_rfl))) ?_
        refine RunE.read rfl rfl rfl rfl (fun wS _ => (Gives.fieldAt 2 rfl Tryd.underlying30 rfl (by kernel_rfl) rfl rfl)) ?_
        refine RunE.readM rfl rfl rfl rfl rfl (fun wS hS => (Gives.ldK rfl (by kernel_rfl) rfl ((hb8.ext hX).fr hS hO17_8) rfl)) ?_
        refine RunE.read rfl rfl rfl rfl (fun wS _ => (Gives.move rfl rfl)) ?_
        refine RunE.read rfl rfl rfl rfl (fun wS _ => (Gives.cutLoZ 4 (j) rfl Tryd.underlying28 (by kernel_rfl) rfl rfl rfl (by omega))) ?_
        refine RunE.turn rfl rfl rfl rfl (Does.lit0 4 rfl Tryd.underlying28 infoE2) ?_ ?_
        · rintro _ w170 ⟨g170, rfl, hs170, hk170, hx170⟩
          have hl170 := hk170.lt
          have hz170 := hx170.size
          have hO0 : EOs w170 w17.heap.size (fun q => b8 + 1 ≤ q) (some ⟨g170, 0, none⟩) 0 0 [] := EOs.lit0 hk170 (by have := hX.size; omega)
          first | replace hkE := hkE.ext hx170 | skip
          refine ⟨hx170.fr, ?_⟩
          replace hX := hX.trans hx170
          refine RunE.turn rfl rfl rfl rfl (Does.appEO0 rfl rfl rfl hO0 (hrA.fr hX.fr) ((heA.fr hX.fr).mono fun q hq hlt => ⟨hq.1, hlt, hO0.far hq.2⟩) (by omega) hX.size) ?_ ?_
          · rintro _ w175 ⟨B1, sc1, rfl, hO1, hB175, hN175, hNN175⟩
            first | replace hkE := hkE.fr hN175 ⟨trivial, hkE.lt, fun he => by have h : g170 = gE := Option.some.inj he; omega⟩ | skip
            refine ⟨below_old hB175 (Nat.le_refl _), ?_⟩
            replace hX := Ext.step hX hB175 (Nat.le_refl _)
            refine RunE.turn rfl rfl rfl rfl (Does.lit1 4 rfl Tryd.underlying28 infoE2 rfl rfl rfl) ?_ RunE.none
            rintro _ w1711 ⟨gE, rfl, hsE, hkE, hxE⟩
            replace hkE : Blk w1711 gE 34 (evtC x rx).toArray := hkE
            have hlE := hkE.lt
            first | replace hO0 := hO0.ext hxE | skip
            first | replace hO1 := hO1.ext hxE | skip
            refine ⟨hxE.fr, ?_⟩
            replace hX := hX.trans hxE
            refine RunE.turn rfl rfl rfl rfl (Does.appEOs (r := [x]) rfl rfl rfl hO1 (row_evt hkE) (EachR.single (evt_rep ((hvx.ext hX).mono fun q hq => ⟨hq.1, by have := hX.size; omega, hO1.far hq.2⟩))) (by omega) hX.size) ?_ RunE.none
            rintro _ w1712 ⟨B2, sc2, rfl, hO2, hB1712, _, _⟩
            refine ⟨below_old hB1712 (Nat.le_refl _), ?_⟩
            replace hX := Ext.step hX hB1712 (Nat.le_refl _)
            refine RunE.tail rfl ?_
            replace hb6 := hb6.ext hX
            replace hb8 := hb8.ext hX
            replace hE := hE.trans hX
            have hxs := hX.size
            refine Wl.does rfl rfl rfl (Does.appEOs rfl rfl rfl hO2 (hrB.fr hX.fr) ((heB.fr hX.fr).mono fun q hq hlt => ⟨hq.1, hlt, hO2.far hq.2⟩) (by omega) hxs) ?_
            rintro _ w17t ⟨B9, sc9, rfl, hO9, hB17t, _, _⟩
            have hCf := (hC4.ext hX).fr (below_fr hB17t) (fun q hq => by omega)
            replace hb6 := Blk.bel hb6 hB17t (by omega)
            replace hb8 := Blk.bel hb8 hB17t (by omega)
            replace hE := Ext.step hE hB17t (by omega)
            refine vF 2 Tryd.underlying30 ?_
            refine Wl.acts rfl rfl (Does.stC rfl rfl rfl hb8 (by kernel_rfl) (Nat.le_of_ble_eq_true rfl) rfl) ?_
            rintro _ w17_19 ⟨hbn, hF17_19⟩
            replace hb6 := hb6.frA hF17_19
            replace hE := Ext.over hE hF17_19 hg8
            replace hb8 := hbn
            clear hbn
            (try simp only [List.setIfInBounds_toArray, List.set_cons_zero, List.set_cons_succ, Nat.reduceAdd, Nat.zero_add] at hb8)
            have hIOf := (hO9.eo (b := b8 + 1) (fun _ h => h) (by omega)).fr hF17_19 (fun q hq => by omega)
            replace hCf := hCf.fr hF17_19 (fun q hq => by omega)
            have hokf := all_app (all_app (all_take hok j) (all_one hxe)) (all_drop hok j)
            refine Wl.nil ?_
            refine Wx.blockN ?_
            refine Wx.blockN ?_
            refine Wx.thenN ?_
            exact hJ14 ((_, _, _), _) _ _ (.cons rfl (.cons rfl (.cons rfl (.cons rfl (.cons rfl (.nil)))))) ⟨by omega, by omega, hokf, hIOf, hCf, hb8, hb6, hE⟩
          refine RunE.turn rfl rfl rfl rfl (Does.lit1 4 rfl Tryd.underlying28 infoE2 rfl rfl rfl) ?_ RunE.none
          rintro _ w1711 ⟨gE, rfl, hsE, hkE, hxE⟩
          replace hkE : Blk w1711 gE 34 (evtC x rx).toArray := hkE
          have hlE := hkE.lt
          first | replace hO0 := hO0.ext hxE | skip
          first | replace hO1 := hO1.ext hxE | skip
          refine ⟨hxE.fr, ?_⟩
          replace hX := hX.trans hxE
          refine RunE.turn rfl rfl rfl rfl (Does.appEO0 rfl rfl rfl hO0 (hrA.fr hX.fr) ((heA.fr hX.fr).mono fun q hq hlt => ⟨hq.1, hlt, hO0.far hq.2⟩) (by omega) hX.size) ?_ RunE.none
          rintro _ w175 ⟨B1, sc1, rfl, hO1, hB175, hN175, hNN175⟩
          first | replace hkE := hkE.fr hN175 ⟨trivial, hkE.lt, fun he => by have h : g170 = gE := Option.some.inj he; omega⟩ | skip
          refine ⟨below_old hB175 (Nat.le_refl _), ?_⟩
          replace hX := Ext.step hX hB175 (Nat.le_refl _)
          refine RunE.turn rfl rfl rfl rfl (Does.appEOs (r := [x]) rfl rfl rfl hO1 (row_evt hkE) (EachR.single (evt_rep ((hvx.ext hX).mono fun q hq => ⟨hq.1, by have := hX.size; omega, hO1.far hq.2⟩))) (by omega) hX.size) ?_ RunE.none
          rintro _ w1712 ⟨B2, sc2, rfl, hO2, hB1712, _, _⟩
          refine ⟨below_old hB1712 (Nat.le_refl _), ?_⟩
          replace hX := Ext.step hX hB1712 (Nat.le_refl _)
          refine RunE.tail rfl ?_
          replace hb6 := hb6.ext hX
          replace hb8 := hb8.ext hX
          replace hE := hE.trans hX
          have hxs := hX.size
          refine Wl.does rfl rfl rfl (Does.appEOs rfl rfl rfl hO2 (hrB.fr hX.fr) ((heB.fr hX.fr).mono fun q hq hlt => ⟨hq.1, hlt, hO2.far hq.2⟩) (by omega) hxs) ?_
          rintro _ w17t ⟨B9, sc9, rfl, hO9, hB17t, _, _⟩
          have hCf := (hC4.ext hX).fr (below_fr hB17t) (fun q hq => by omega)
          replace hb6 := Blk.bel hb6 hB17t (by omega)
          replace hb8 := Blk.bel hb8 hB17t (by omega)
          replace hE := Ext.step hE hB17t (by omega)
          refine vF 2 Tryd.underlying30 ?_
          refine Wl.acts rfl rfl (Does.stC rfl rfl rfl hb8 (by kernel_rfl) (Nat.le_of_ble_eq_true rfl) rfl) ?_
          rintro _ w17_19 ⟨hbn, hF17_19⟩
          replace hb6 := hb6.frA hF17_19
          replace hE := Ext.over hE hF17_19 hg8
          replace hb8 := hbn
          clear hbn
          (try simp only [List.setIfInBounds_toArray, List.set_cons_zero, List.set_cons_succ, Nat.reduceAdd, Nat.zero_add] at hb8)
          have hIOf := (hO9.eo (b := b8 + 1) (fun _ h => h) (by omega)).fr hF17_19 (fun q hq => by omega)
          replace hCf := hCf.fr hF17_19 (fun q hq => by omega)
          have hokf := all_app (all_app (all_take hok j) (all_one hxe)) (all_drop hok j)
          refine Wl.nil ?_
          refine Wx.blockN ?_
          refine Wx.blockN ?_
          refine Wx.thenN ?_
          exact hJ14 ((_, _, _), _) _ _ (.cons rfl (.cons rfl (.cons rfl (.cons rfl (.cons rfl (.nil)))))) ⟨by omega, by omega, hokf, hIOf, hCf, hb8, hb6, hE⟩
        refine RunE.turn rfl rfl rfl rfl (Does.lit1 4 rfl Tryd.underlying28 infoE2 rfl rfl rfl) ?_ RunE.none
        rintro _ w1711 ⟨gE, rfl, hsE, hkE, hxE⟩
        replace hkE : Blk w1711 gE 34 (evtC x rx).toArray := hkE
        have hlE := hkE.lt
        first | replace hO0 := hO0.ext hxE | skip
        first | replace hO1 := hO1.ext hxE | skip
        refine ⟨hxE.fr, ?_⟩
        replace hX := hX.trans hxE
        refine RunE.turn rfl rfl rfl rfl (Does.lit0 4 rfl Tryd.underlying28 infoE2) ?_ RunE.none
        rintro _ w170 ⟨g170, rfl, hs170, hk170, hx170⟩
        have hl170 := hk170.lt
        have hz170 := hx170.size
        have hO0 : EOs w170 w17.heap.size (fun q => b8 + 1 ≤ q) (some ⟨g170, 0, none⟩) 0 0 [] := EOs.lit0 hk170 (by have := hX.size; omega)
        first | replace hkE := hkE.ext hx170 | skip
        refine ⟨hx170.fr, ?_⟩
        replace hX := hX.trans hx170
        refine RunE.turn rfl rfl rfl rfl (Does.appEO0 rfl rfl rfl hO0 (hrA.fr hX.fr) ((heA.fr hX.fr).mono fun q hq hlt => ⟨hq.1, hlt, hO0.far hq.2⟩) (by omega) hX.size) ?_ RunE.none
        rintro _ w175 ⟨B1, sc1, rfl, hO1, hB175, hN175, hNN175⟩
        first | replace hkE := hkE.fr hN175 ⟨trivial, hkE.lt, fun he => by have h : g170 = gE := Option.some.inj he; omega⟩ | skip
        refine ⟨below_old hB175 (Nat.le_refl _), ?_⟩
        replace hX := Ext.step hX hB175 (Nat.le_refl _)
        refine RunE.turn rfl rfl rfl rfl (Does.appEOs (r := [x]) rfl rfl rfl hO1 (row_evt hkE) (EachR.single (evt_rep ((hvx.ext hX).mono fun q hq => ⟨hq.1, by have := hX.size; omega, hO1.far hq.2⟩))) (by omega) hX.size) ?_ RunE.none
        rintro _ w1712 ⟨B2, sc2, rfl, hO2, hB1712, _, _⟩
        refine ⟨below_old hB1712 (Nat.le_refl _), ?_⟩
        replace hX := Ext.step hX hB1712 (Nat.le_refl _)
        refine RunE.tail rfl ?_
        replace hb6 := hb6.ext hX
        replace hb8 := hb8.ext hX
        replace hE := hE.trans hX
        have hxs := hX.size
        refine Wl.does rfl rfl rfl (Does.appEOs rfl rfl rfl hO2 (hrB.fr hX.fr) ((heB.fr hX.fr).mono fun q hq hlt => ⟨hq.1, hlt, hO2.far hq.2⟩) (by omega) hxs) ?_
        rintro _ w17t ⟨B9, sc9, rfl, hO9, hB17t, _, _⟩
        have hCf := (hC4.ext hX).fr (below_fr hB17t) (fun q hq => by omega)
        replace hb6 := Blk.bel hb6 hB17t (by omega)
        replace hb8 := Blk.bel hb8 hB17t (by omega)
        replace hE := Ext.step hE hB17t (by omega)
        refine vF 2 Tryd.underlying30 ?_
        refine Wl.acts rfl rfl (Does.stC rfl rfl rfl hb8 (by kernel_rfl) (Nat.le_of_ble_eq_true rfl) rfl) ?_
        rintro _ w17_19 ⟨hbn, hF17_19⟩
        replace hb6 := hb6.frA hF17_19
        replace hE := Ext.over hE hF17_19 hg8
        replace hb8 := hbn
        clear hbn
        (try simp only [List.setIfInBounds_toArray, List.set_cons_zero, List.set_cons_succ, Nat.reduceAdd, Nat.zero_add] at hb8)
        have hIOf := (hO9.eo (b := b8 + 1) (fun _ h => h) (by omega)).fr hF17_19 (fun q hq => by omega)
        replace hCf := hCf.fr hF17_19 (fun q hq => by omega)
        have hokf := all_app (all_app (all_take hok j) (all_one hxe)) (all_drop hok j)
        refine Wl.nil ?_
        refine Wx.blockN ?_
        refine Wx.blockN ?_
        refine Wx.thenN ?_
        exact hJ14 ((_, _, _), _) _ _ (.cons rfl (.cons rfl (.cons rfl (.cons rfl (.cons rfl (.nil)))))) ⟨by omega, by omega, hokf, hIOf, hCf, hb8, hb6, hE⟩
      first | replace h87 := dF h87 | replace h87 := nF h87 | skip
      refine vs fun K19 hK19 => vR [(1, _), (6, _), (7, _), (8, _), (10, _), (11, _), (53, _)] ?_
      refine vl (Gives.eql rfl rfl rfl) ?_
      refine vA ?_
      refine vn (hK19 _ _ ?_)
      refine Wc.cond _ rfl (fun h108 => ?_) (fun h108 => ?_)
      · first | replace h108 := dT h108 | replace h108 := nT h108 | skip
        refine vs fun K20 hK20 => vR [(1, _), (6, _), (7, _), (8, _), (10, _), (11, _)] ?_
        refine vM ?_
        refine vF 2 Tryd.underlying30 ?_
        refine vL hb8 ?_
        refine vl (Gives.lenS rfl Tryd.underlying28 rfl) ?_
        refine Wl.call rfl rfl rfl rfl Tryd.func36 rfl (by kernel_rfl) rfl (nextD _ gC N hC4 (m : Int) (by omega)) ?_
        rintro x9 w194 ⟨zj2, rfl, ⟨hj20, hj21⟩, hC5, hF194⟩
        refine ⟨_, rfl, ?_⟩
        obtain ⟨j2, rfl⟩ := Int.eq_ofNat_of_zero_le hj20
        replace hIO := hIO.fr hF194 (fun q hq => by omega)
        replace hb6 := hb6.frA hF194
        replace hb8 := hb8.frA hF194
        replace hE := Ext.over hE hF194 hgC
        refine vA ?_
        refine vn (hK20 _ _ ?_)
        refine vs fun K21 hK21 => vR [(1, _), (6, _), (7, _), (8, _), (10, _), (11, _), (12, _)] ?_
        have hl8s := hb8.lt
        have hl6s := hb6.lt
        obtain ⟨vsA, hrA, heA⟩ := (hIO.sl (P := fun q => b8 + 1 ≤ q) fun _ h => h).bd
        refine Wl.does rfl rfl rfl (Does.lit0 4 rfl Tryd.underlying28 infoE2) ?_
        rintro _ w200 ⟨g200, rfl, hs200, hk200, hx200⟩
        have hO0 : EOs w200 (b8 + 1) (fun q => b8 + 1 ≤ q) (some ⟨g200, 0, none⟩) 0 0 [] := EOs.lit0 hk200 (by omega)
        replace hC5 := hC5.ext hx200
        have hz200 := hx200.size
        replace hb6 := hb6.ext hx200
        replace hb8 := hb8.ext hx200
        replace hE := hE.trans hx200
        refine vF 2 Tryd.underlying30 ?_
        refine vL hb8 ?_
        refine Wl.does rfl rfl rfl (Does.appEO0 rfl rfl rfl hO0 (hrA.fr hx200.fr) ((heA.fr hx200.fr).mono fun q hq hlt => ⟨hq.1, hlt, fun he => by have h : g200 = q := Option.some.inj he; omega⟩) (by omega) (by omega)) ?_
        rintro _ w203 ⟨B1, sc1, rfl, hO1, hB203, _, _⟩
        replace hC5 := hC5.fr (below_fr hB203) (fun q hq => by omega)
        replace hb6 := Blk.bel hb6 hB203 (by omega)
        replace hb8 := Blk.bel hb8 hB203 (by omega)
        replace hE := Ext.step hE hB203 (by omega)
        refine vF 2 Tryd.underlying30 ?_
        refine Wl.acts rfl rfl (Does.stC rfl rfl rfl hb8 (by kernel_rfl) (Nat.le_of_ble_eq_true rfl) rfl) ?_
        rintro _ w20_5 ⟨hbn, hF20_5⟩
        replace hb6 := hb6.frA hF20_5
        replace hE := Ext.over hE hF20_5 hg8
        replace hb8 := hbn
        clear hbn
        (try simp only [List.setIfInBounds_toArray, List.set_cons_zero, List.set_cons_succ, Nat.reduceAdd, Nat.zero_add] at hb8)
        have hIO3 := (hO1.eo (b := b8 + 1) (fun _ h => h) (Nat.le_refl _)).fr hF20_5 (fun q hq => by omega)
        replace hC5 := hC5.fr hF20_5 (fun q hq => by omega)
        refine vn (hK21 _ _ ?_)
        refine vK [(1, _), (6, _), (7, _), (8, _), (10, _), (11, _), (12, _)] ?_
        refine Wc.regionB (fun q => [1, 7, 10, 12, 15].contains q) [] (.read 0 (.read 1 (.read 2 (.read 3 (.read 5 (.read 6 (.read 7 (.read 8 (.read 9 (.read 10 (.read 11 (.read 12 (.read 13 (.read 14 (.read 15 (.read 16 (.call false 4 (.call true 17 .tail .none) (.call true 17 (.call false 4 .tail .none) .none)))))))))))))))))) 18 (by kernel_rfl) (by kernel_rfl) (by kernel_rfl) ?_
        intro w21 hR21
        replace hb6 := hb6.ext hR21.ext
        replace hb8 := hb8.ext hR21.ext
        replace hE := hE.trans hR21.ext
        have hO21_6 : Old w21.heap.size [] b6 := ⟨hb6.lt, trivial⟩
        have hO21_8 : Old w21.heap.size [] b8 := ⟨hb8.lt, trivial⟩
        have hX := Ext.refl w21
        replace hC5 := hC5.ext hR21.ext
        replace hIO3 := hIO3.ext hR21.ext
        obtain ⟨g, rfl, hgb, hgl⟩ := hIO3.head (by omega)
        have hn8g2 : b8 ≠ g := by omega
        have hn6g2 : b6 ≠ g := by omega
        have hgw : w.heap.size ≤ g := by omega
        obtain ⟨z1, r1, hz1, hzr1, hzv1⟩ := hIO3.at_ (show j < m by omega)
        obtain ⟨z2, r2, hz2, hzr2, hzv2⟩ := hIO3.at_ (show j2 < m by omega)
        have hok1 := hok
        have hze1 := hok1 z1 (List.mem_of_getElem? hz1)
        have hze2 := hok1 z2 (List.mem_of_getElem? hz2)
        refine RunE.read rfl rfl rfl rfl (fun wS _ => (Gives.fieldAt 2 rfl Tryd.underlying30 rfl (by kernel_rfl) rfl rfl)) ?_
        refine RunE.readM rfl rfl rfl rfl rfl (fun wS hS => (Gives.ldK rfl (by kernel_rfl) rfl ((hb8.ext hX).fr hS hO21_8) rfl)) ?_
        refine RunE.read rfl rfl rfl rfl (fun wS _ => (Gives.move rfl rfl)) ?_
        refine RunE.read rfl rfl rfl rfl (fun wS _ => (Gives.fieldAt 2 rfl Tryd.underlying30 rfl (by kernel_rfl) rfl rfl)) ?_
        refine RunE.read rfl rfl rfl rfl (fun wS _ => (Gives.move rfl rfl)) ?_
        refine RunE.read rfl rfl rfl rfl (fun wS _ => (Gives.fieldAt 2 rfl Tryd.underlying30 rfl (by kernel_rfl) rfl rfl)) ?_
        refine RunE.readM rfl rfl rfl rfl rfl (fun wS hS => (Gives.ldK rfl (by kernel_rfl) rfl ((hb8.ext hX).fr hS hO21_8) rfl)) ?_
        refine RunE.read rfl rfl rfl rfl (fun wS _ => (Gives.move rfl rfl)) ?_
        refine RunE.read rfl rfl rfl rfl (fun wS _ => (Gives.ixSZ (i := j2) (sz := 4) rfl Tryd.underlying28 (by kernel_rfl) rfl rfl rfl (by omega))) ?_
        refine RunE.readM rfl rfl rfl rfl rfl (fun wS hS => (Gives.ldM rfl (by kernel_rfl) rfl (range_goX hzr2 hgl hX hS) (by kernel_rfl))) ?_
        refine RunE.read rfl rfl rfl rfl (fun wS _ => (Gives.fieldAt 2 rfl Tryd.underlying30 rfl (by kernel_rfl) rfl rfl)) ?_
        refine RunE.readM rfl rfl rfl rfl rfl (fun wS hS => (Gives.ldK rfl (by kernel_rfl) rfl ((hb8.ext hX).fr hS hO21_8) rfl)) ?_
        refine RunE.read rfl rfl rfl rfl (fun wS _ => (Gives.move rfl rfl)) ?_
        refine RunE.read rfl rfl rfl rfl (fun wS _ => (Gives.ixSZ (i := j) (sz := 4) rfl Tryd.underlying28 (by kernel_rfl) rfl rfl rfl (by omega))) ?_
        refine RunE.readM rfl rfl rfl rfl rfl (fun wS hS => (Gives.ldM rfl (by kernel_rfl) rfl (range_goX hzr1 hgl hX hS) (by kernel_rfl))) ?_
        refine RunE.read rfl rfl rfl rfl (fun wS _ => (Gives.ixSZ (i := j) (sz := 4) rfl Tryd.underlying28 (by kernel_rfl) rfl rfl rfl (by omega))) ?_
        refine RunE.turn rfl rfl rfl rfl (Gives.ldK rfl (by kernel_rfl) rfl (hb8.ext hX) rfl) ?_ ?_
        · rintro _ w214 ⟨rfl, rfl⟩
          have hx214 := Ext.refl w214
          refine ⟨hx214.fr, ?_⟩
          replace hX := hX.trans hx214
          refine RunE.freeN rfl rfl rfl (Does.stEO (j := j) (xi := z2) (r := r2) rfl rfl rfl (hIO3.ext hX) ((hzv2.ext hX).mono fun q hq => hq.up hX.size) (by kernel_rfl) (by omega)) ?_ RunE.none
          rintro _ w2117 ⟨hI2, hF2117⟩
          have hzv1b := ((hzv1.ext hX).fr (hF2117.mono fun q hq he => by subst he; exact hq.2.2 rfl)).mono (P' := NOwn w2117 (fun q => b8 + 1 ≤ q) (.slice (some ⟨g, 0, none⟩) m sc1)) fun q hq => hq.up (Nat.le_trans hX.size hF2117.size)
          have hC6 := (hC5.ext hX).fr hF2117 (fun q hq => by omega)
          replace hb6 := (hb6.ext hX).frA hF2117
          replace hb8 := (hb8.ext hX).frA hF2117
          replace hE := Ext.over (hE.trans hX) hF2117 hgw
          replace hX := Ext.refl w2117
          refine RunE.tail rfl ?_
          replace hb6 := hb6.ext hX
          replace hb8 := hb8.ext hX
          replace hE := hE.trans hX
          refine vl (Gives.ixSZ (i := j2) (sz := 4) rfl Tryd.underlying28 (by kernel_rfl) rfl rfl rfl (by omega)) ?_
          refine Wl.acts rfl rfl (Does.stEO (j := j2) (xi := z1) (r := r1) rfl rfl rfl (hI2.ext hX) ((hzv1b.ext hX).mono fun q hq => hq.up hX.size) (by kernel_rfl) (by omega)) ?_
          rintro _ w2119 ⟨hIOf, hF2119⟩
          have hCf := (hC6.ext hX).fr hF2119 (fun q hq => by omega)
          have hokf := all_app (all_app (all_take (all_app (all_app (all_take hok1 j) (all_one hze2)) (all_drop hok1 (j + 1))) j2) (all_one hze1)) (all_drop (all_app (all_app (all_take hok1 j) (all_one hze2)) (all_drop hok1 (j + 1))) (j2 + 1))
          replace hb6 := hb6.frA hF2119
          replace hb8 := hb8.frA hF2119
          replace hE := Ext.over hE hF2119 hgw
          refine Wl.nil ?_
          refine Wx.blockN ?_
          refine Wx.blockN ?_
          refine Wx.thenN ?_
          exact hJ14 ((_, _, _), _) _ _ (.cons rfl (.cons rfl (.cons rfl (.cons rfl (.cons rfl (.nil)))))) ⟨by omega, by omega, hokf, hIOf, hCf, hb8, hb6, hE⟩
        refine RunE.freeN rfl rfl rfl (Does.stEO (j := j) (xi := z2) (r := r2) rfl rfl rfl (hIO3.ext hX) ((hzv2.ext hX).mono fun q hq => hq.up hX.size) (by kernel_rfl) (by omega)) ?_ RunE.none
        rintro _ w2117 ⟨hI2, hF2117⟩
        have hzv1b := ((hzv1.ext hX).fr (hF2117.mono fun q hq he => by subst he; exact hq.2.2 rfl)).mono (P' := NOwn w2117 (fun q => b8 + 1 ≤ q) (.slice (some ⟨g, 0, none⟩) m sc1)) fun q hq => hq.up (Nat.le_trans hX.size hF2117.size)
        have hC6 := (hC5.ext hX).fr hF2117 (fun q hq => by omega)
        replace hb6 := (hb6.ext hX).frA hF2117
        replace hb8 := (hb8.ext hX).frA hF2117
        replace hE := Ext.over (hE.trans hX) hF2117 hgw
        replace hX := Ext.refl w2117
        refine RunE.turn rfl rfl rfl rfl (Gives.ldK rfl (by kernel_rfl) rfl (hb8.ext hX) rfl) ?_ RunE.none
        rintro _ w214 ⟨rfl, rfl⟩
        have hx214 := Ext.refl w214
        refine ⟨hx214.fr, ?_⟩
        replace hX := hX.trans hx214
        refine RunE.tail rfl ?_
        replace hb6 := hb6.ext hX
        replace hb8 := hb8.ext hX
        replace hE := hE.trans hX
        refine vl (Gives.ixSZ (i := j2) (sz := 4) rfl Tryd.underlying28 (by kernel_rfl) rfl rfl rfl (by omega)) ?_
        refine Wl.acts rfl rfl (Does.stEO (j := j2) (xi := z1) (r := r1) rfl rfl rfl (hI2.ext hX) ((hzv1b.ext hX).mono fun q hq => hq.up hX.size) (by kernel_rfl) (by omega)) ?_
        rintro _ w2119 ⟨hIOf, hF2119⟩
        have hCf := (hC6.ext hX).fr hF2119 (fun q hq => by omega)
        have hokf := all_app (all_app (all_take (all_app (all_app (all_take hok1 j) (all_one hze2)) (all_drop hok1 (j + 1))) j2) (all_one hze1)) (all_drop (all_app (all_app (all_take hok1 j) (all_one hze2)) (all_drop hok1 (j + 1))) (j2 + 1))
        replace hb6 := hb6.frA hF2119
        replace hb8 := hb8.frA hF2119
        replace hE := Ext.over hE hF2119 hgw
        refine Wl.nil ?_
        refine Wx.blockN ?_
        refine Wx.blockN ?_
        refine Wx.thenN ?_
        exact hJ14 ((_, _, _), _) _ _ (.cons rfl (.cons rfl (.cons rfl (.cons rfl (.cons rfl (.nil)))))) ⟨by omega, by omega, hokf, hIOf, hCf, hb8, hb6, hE⟩
      first | replace h108 := dF h108 | replace h108 := nF h108 | skip
      refine vs fun K22 hK22 => vR [(1, _), (6, _), (7, _), (8, _), (10, _), (11, _), (53, _)] ?_
      refine vl (Gives.eql rfl rfl rfl) ?_
      refine vA ?_
      refine vn (hK22 _ _ ?_)
      refine Wc.cond _ rfl (fun h138 => ?_) (fun h138 => ?_)
      · first | replace h138 := dT h138 | replace h138 := nT h138 | skip
        refine vK [(1, _), (6, _), (7, _), (8, _), (10, _), (11, _)] ?_
        refine Wc.regionB (fun q => [2, 8, 12].contains q) [gC] (.read 1 (.read 2 (.read 3 (.read 4 (.read 6 (.read 7 (.read 11 (.read 12 (.read 13 (.read 14 (.call false 0 (.call false 5 (.call false 8 (.call false 9 (.call false 10 .tail .none) .none) .none) .none) .none))))))))))) 15 (by kernel_rfl) (by kernel_rfl) (by kernel_rfl) ?_
        intro w23 hR23
        replace hb6 := hb6.ext hR23.ext
        replace hb8 := hb8.ext hR23.ext
        replace hE := hE.trans hR23.ext
        have hO23_6 : Old w23.heap.size [gC] b6 := ⟨hb6.lt, ⟨by first | assumption | exact Ne.symm (by assumption), trivial⟩⟩
        have hO23_8 : Old w23.heap.size [gC] b8 := ⟨hb8.lt, ⟨by first | assumption | exact Ne.symm (by assumption), trivial⟩⟩
        have hX := Ext.refl w23
        replace hC4 := hC4.ext hR23.ext
        have hl8r := hb8.lt
        have hl6r := hb6.lt
        have hSL := ((hIO.ext hR23.ext).sl (P := fun q => b8 + 1 ≤ q) fun _ h => h).bd
        have hkc := hSL.le
        obtain ⟨vsA, hrA, heA⟩ := hSL.take (show j ≤ m by omega)
        obtain ⟨vsB, hrB, heB⟩ := hSL.cut (show j ≤ m by omega)
        refine RunE.read rfl rfl rfl rfl (fun wS _ => (Gives.fieldAt 2 rfl Tryd.underlying30 rfl (by kernel_rfl) rfl rfl)) ?_
        refine RunE.readM rfl rfl rfl rfl rfl (fun wS hS => (Gives.ldK rfl (by kernel_rfl) rfl ((hb8.ext hX).fr hS hO23_8) rfl)) ?_
        refine RunE.read rfl rfl rfl rfl (fun wS _ => (Gives.move rfl rfl)) ?_
        refine RunE.read rfl rfl rfl rfl (fun wS _ => (Gives.cutHiZ j rfl Tryd.underlying28 (by kernel_rfl) rfl rfl rfl (by omega))) ?_
        refine RunE.read rfl rfl rfl rfl (fun wS _ => (Gives.move rfl rfl)) ?_
        refine RunE.read rfl rfl rfl rfl (fun wS _ => (Gives.move rfl rfl)) ?_
        refine RunE.read rfl rfl rfl rfl (fun wS _ => (Gives.fieldAt 2 rfl Tryd.underlying30 rfl (by kernel_rfl) rfl rfl)) ?_
        refine RunE.readM rfl rfl rfl rfl rfl (fun wS hS => (Gives.ldK rfl (by kernel_rfl) rfl ((hb8.ext hX).fr hS hO23_8) rfl)) ?_
        refine RunE.read rfl rfl rfl rfl (fun wS _ => (Gives.move rfl rfl)) ?_
        refine RunE.read rfl rfl rfl rfl (fun wS _ => (Gives.cutLoZ 4 (j) rfl Tryd.underlying28 (by kernel_rfl) rfl rfl rfl (by omega))) ?_
        refine RunE.turn rfl rfl rfl rfl (Does.lit0 4 rfl Tryd.underlying28 infoE2) ?_ RunE.none
        rintro _ w230 ⟨g230, rfl, hs230, hk230, hx230⟩
        have hl230 := hk230.lt
        have hz230 := hx230.size
        have hO0 : EOs w230 w23.heap.size (fun q => b8 + 1 ≤ q) (some ⟨g230, 0, none⟩) 0 0 [] := EOs.lit0 hk230 (by have := hX.size; omega)
        refine ⟨hx230.fr, ?_⟩
        replace hX := hX.trans hx230
        refine RunE.turn rfl rfl rfl rfl (Does.appEO0 rfl rfl rfl hO0 (hrA.fr hX.fr) ((heA.fr hX.fr).mono fun q hq hlt => ⟨hq.1, hlt, hO0.far hq.2⟩) (by omega) hX.size) ?_ RunE.none
        rintro _ w235 ⟨B1, sc1, rfl, hO1, hB235, hN235, hNN235⟩
        refine ⟨below_old hB235 (Nat.le_refl _), ?_⟩
        replace hX := Ext.step hX hB235 (Nat.le_refl _)
        refine RunE.turnC rfl rfl rfl rfl rfl Tryd.func15 rfl (by kernel_rfl) rfl (eventD _ (hT.ext (hE.trans hX)) gC N ((hC4.ext hX)) (by have := hX.size; omega) hgT act hact) ?_ RunE.none
        rintro x10 w238 ⟨x, rx, rfl, hvx, hxe, hC6, hF238⟩
        refine ⟨_, rfl, ?_⟩
        have hz238 := hF238.size
        have hxz := hX.size
        have hO1lt := hO1.lt
        replace hO1 := hO1.fr hF238 (fun q hq => by omega) (fun q hq => by omega)
        have hrB2 := (hrB.fr hX.fr).fr (hF238.mono fun q hq => by omega)
        have heB2 := (heB.fr hX.fr).fr (hF238.mono fun q hq => by omega)
        refine ⟨hF238.mono (fun k h => h.2.1), ?_⟩
        replace hb6 := (hb6.ext hX).frA hF238
        replace hb8 := (hb8.ext hX).frA hF238
        replace hE := Ext.over (hE.trans hX) hF238 hgC
        replace hX := Ext.refl w238
        refine RunE.turn rfl rfl rfl rfl (Does.lit1 4 rfl Tryd.underlying28 infoE2 rfl rfl rfl) ?_ RunE.none
        rintro _ w239 ⟨gE, rfl, hsE, hkE, hxE⟩
        replace hkE : Blk w239 gE 34 (evtC x rx).toArray := hkE
        have hlE := hkE.lt
        replace hO1 := hO1.ext hxE
        refine ⟨hxE.fr, ?_⟩
        replace hX := hX.trans hxE
        refine RunE.turn rfl rfl rfl rfl (Does.appEOs (r := [x]) rfl rfl rfl hO1 (row_evt hkE) (EachR.single (evt_rep ((hvx.ext hX).bd.mono fun q hq => ⟨by omega, hq.2, fun he => by have := hO1lt q he; omega⟩))) (by omega) (by have := hX.size; omega)) ?_ RunE.none
        rintro _ w2310 ⟨B2, sc2, rfl, hO2, hB2310, _, _⟩
        refine ⟨below_old hB2310 (Nat.le_refl _), ?_⟩
        replace hrB2 := (hrB2.fr hX.fr).fr ((below_fr hB2310).mono fun q hq => hq.2)
        replace heB2 := (heB2.fr hX.fr).fr ((below_fr hB2310).mono fun q hq => hq.2)
        replace hC6 := (hC6.ext hX).fr (below_fr hB2310) (fun q hq => by omega)
        have hz2310 := hB2310.size
        have hxz2 := hX.size
        replace hb6 := Blk.bel (hb6.ext hX) hB2310 (by omega)
        replace hb8 := Blk.bel (hb8.ext hX) hB2310 (by omega)
        replace hE := Ext.step (hE.trans hX) hB2310 (by omega)
        replace hX := Ext.refl w2310
        refine RunE.tail rfl ?_
        replace hb6 := hb6.ext hX
        replace hb8 := hb8.ext hX
        replace hE := hE.trans hX
        refine Wl.does rfl rfl rfl (Does.appEOs rfl rfl rfl hO2 hrB2 (heB2.mono fun q hq hlt => ⟨hq.1, hlt, hO2.far hq.2⟩) (by omega) (by omega)) ?_
        rintro _ w23t ⟨B9, sc9, rfl, hO9, hB23t, _, _⟩
        have hCf := hC6.fr (below_fr hB23t) (fun q hq => by omega)
        replace hb6 := Blk.bel hb6 hB23t (by omega)
        replace hb8 := Blk.bel hb8 hB23t (by omega)
        replace hE := Ext.step hE hB23t (by omega)
        refine vF 2 Tryd.underlying30 ?_
        refine Wl.acts rfl rfl (Does.stC rfl rfl rfl hb8 (by kernel_rfl) (Nat.le_of_ble_eq_true rfl) rfl) ?_
        rintro _ w23_17 ⟨hbn, hF23_17⟩
        replace hb6 := hb6.frA hF23_17
        replace hE := Ext.over hE hF23_17 hg8
        replace hb8 := hbn
        clear hbn
        (try simp only [List.setIfInBounds_toArray, List.set_cons_zero, List.set_cons_succ, Nat.reduceAdd, Nat.zero_add] at hb8)
        have hIOf := (hO9.eo (b := b8 + 1) (fun _ h => h) (by omega)).fr hF23_17 (fun q hq => by omega)
        replace hCf := hCf.fr hF23_17 (fun q hq => by omega)
        have hokf := all_app (all_app (all_take hok j) (all_one hxe)) (all_drop hok j)
        refine Wl.nil ?_
        refine Wx.blockN ?_
        refine Wx.blockN ?_
        refine Wx.thenN ?_
        exact hJ14 ((_, _, _), _) _ _ (.cons rfl (.cons rfl (.cons rfl (.cons rfl (.cons rfl (.nil)))))) ⟨by omega, by omega, hokf, hIOf, hCf, hb8, hb6, hE⟩
      first | replace h138 := dF h138 | replace h138 := nF h138 | skip
      refine vK [(1, _), (6, _), (7, _), (8, _), (10, _), (11, _)] ?_
      refine Wc.regionB (fun q => [2, 9, 13].contains q) [] (.read 1 (.read 2 (.read 3 (.read 4 (.read 6 (.read 12 (.read 13 (.read 14 (.read 15 (.call false 0 (.call false 5 (.call false 7 (.call false 8 (.call false 9 (.call false 10 (.call false 11 .tail .none) .none) .none) .none) .none) (.call false 7 (.call false 5 (.call false 8 (.call false 9 (.call false 10 (.call false 11 .tail .none) .none) .none) .none) (.call false 8 (.call false 5 (.call false 9 (.call false 10 (.call false 11 .tail .none) .none) .none) .none) .none)) .none)) (.call false 7 (.call false 0 (.call false 5 (.call false 8 (.call false 9 (.call false 10 (.call false 11 .tail .none) .none) .none) .none) (.call false 8 (.call false 5 (.call false 9 (.call false 10 (.call false 11 .tail .none) .none) .none) .none) .none)) (.call false 8 (.call false 0 (.call false 5 (.call false 9 (.call false 10 (.call false 11 .tail .none) .none) .none) .none) .none) .none)) .none))))))))))) 16 (by kernel_rfl) (by kernel_rfl) (by kernel_rfl) ?_
      intro w13 hR13
      replace hb6 := hb6.ext hR13.ext
      replace hb8 := hb8.ext hR13.ext
      replace hE := hE.trans hR13.ext
      have hO13_6 : Old w13.heap.size [] b6 := ⟨hb6.lt, trivial⟩
      have hO13_8 : Old w13.heap.size [] b8 := ⟨hb8.lt, trivial⟩
      have hX := Ext.refl w13
      replace hC4 := hC4.ext hR13.ext
      have hl8r := hb8.lt
      have hl6r := hb6.lt
      have hSL := ((hIO.ext hR13.ext).sl (P := fun q => b8 + 1 ≤ q) fun _ h => h).bd
      have hkc := hSL.le
      obtain ⟨vsA, hrA, heA⟩ := hSL.take (show j ≤ m by omega)
      obtain ⟨vsB, hrB, heB⟩ := hSL.cut (show j ≤ m by omega)
      refine RunE.read rfl rfl rfl rfl (fun wS _ => (Gives.fieldAt 2 rfl Tryd.underlying30 rfl (by kernel_rfl) rfl rfl)) ?_
      refine RunE.readM rfl rfl rfl rfl rfl (fun wS hS => (Gives.ldK rfl (by kernel_rfl) rfl ((hb8.ext hX).fr hS hO13_8) rfl)) ?_
      refine RunE.read rfl rfl rfl rfl (fun wS _ => (Gives.move rfl rfl)) ?_
      refine RunE.read rfl rfl rfl rfl (fun wS _ => (Gives.cutHiZ j rfl Tryd.underlying28 (by kernel_rfl) rfl rfl rfl (by omega))) ?_
      refine RunE.read rfl rfl rfl rfl (fun wS _ => (Gives.move rfl rfl)) ?_
      refine RunE.read rfl rfl rfl rfl (fun wS _ => (Gives.fieldAt 2 rfl Tryd.underlying30 rfl (by kernel_rfl) rfl rfl)) ?_
      refine RunE.readM rfl rfl rfl rfl rfl (fun wS hS => (Gives.ldK rfl (by kernel_rfl) rfl ((hb8.ext hX).fr hS hO13_8) rfl)) ?_
      refine RunE.read rfl rfl rfl rfl (fun wS _ => (Gives.move rfl rfl)) ?_
      refine RunE.read rfl rfl rfl rfl (fun wS _ => (Gives.cutLoZ 4 (j) rfl Tryd.underlying28 (by kernel_rfl) rfl rfl rfl (by omega))) ?_
      refine RunE.turn rfl rfl rfl rfl (Does.lit0 4 rfl Tryd.underlying28 infoE2) ?_ ?_
      · rintro _ w130 ⟨g130, rfl, hs130, hk130, hx130⟩
        have hl130 := hk130.lt
        have hz130 := hx130.size
        have hO0 : EOs w130 w13.heap.size (fun q => b8 + 1 ≤ q ∧ q < w13.heap.size) (some ⟨g130, 0, none⟩) 0 0 [] := EOs.lit0 hk130 (by have := hX.size; omega)
        first | replace hk7 := hk7.ext hx130 | skip
        first | replace hB8 := hB8.ext hx130 | skip
        refine ⟨hx130.fr, ?_⟩
        replace hX := hX.trans hx130
        refine RunE.turn rfl rfl rfl rfl (Does.appEO0 rfl rfl rfl hO0 (hrA.fr hX.fr) ((heA.fr hX.fr).mono fun q hq hlt => ⟨hq, hlt, hO0.far hq.2⟩) (by omega) hX.size) ?_ ?_
        · rintro _ w135 ⟨B1, sc1, rfl, hO1, hB135, hN135, hNN135⟩
          first | have hne7 := (hNN135 g7 ⟨trivial, by omega, fun he => by have h : g130 = g7 := Option.some.inj he; omega⟩).2.2 | skip
          first | replace hk7 := hk7.fr hN135 ⟨trivial, by omega, fun he => by have h : g130 = g7 := Option.some.inj he; omega⟩ | skip
          first | replace hB8 := hB8.fr (hN135.mono fun q hq => ⟨trivial, by omega, fun he => by have h : g130 = q := Option.some.inj he; omega⟩) | skip
          refine ⟨below_old hB135 (Nat.le_refl _), ?_⟩
          replace hX := Ext.step hX hB135 (Nat.le_refl _)
          refine RunE.turn rfl rfl rfl rfl (Does.lit rfl Tryd.underlying22 infoB2 rfl rfl rfl rfl rfl) ?_ RunE.none
          rintro _ w137 ⟨g7, rfl, hs7, hk7, hx7⟩
          have hl7 := hk7.lt
          have hx7s := hX.size
          have hz7 := hx7.size
          first | have hne7 : Value.ownBlock (.slice B1 j sc1) ≠ some g7 := (fun he => by have := hO1.lt _ he; omega) | skip
          first | replace hO1 := hO1.ext hx7 | skip
          first | replace hO0 := hO0.ext hx7 | skip
          refine ⟨hx7.fr, ?_⟩
          replace hX := hX.trans hx7
          refine RunE.turn rfl rfl rfl rfl (Does.convB (l := [110, 111, 116, 101]) rfl Tryd.underlying22 Tryd.underlying5 rfl hk7 rfl rfl rfl (by omega)) ?_ RunE.none
          rintro _ w138 ⟨rfl, hB8, hF138⟩
          have hw7 : w13.heap.size ≤ g7 := by omega
          have hz138 := hF138.size
          first | replace hO1 := hO1.frN hF138 hne7 (fun q hq => by omega) | skip
          first | replace hO0 := hO0.frN hF138 (fun he => by have h : g130 = g7 := Option.some.inj he; omega) (fun q hq => by omega) | skip
          refine ⟨hF138.mono (fun q hq => by have := hq.1; omega), ?_⟩
          replace hX := Ext.over hX hF138 hw7
          refine RunE.turnC rfl rfl rfl rfl rfl Tryd.func37 rfl (by kernel_rfl) rfl (makeRR _ (hT.ext (hE.trans hX)) 3 5 act (some ⟨g7, 0, none⟩) 4 4 [110, 111, 116, 101] hB8 (by omega)) ?_ RunE.none
          rintro x11 w139 ⟨D, dc, S2, m2, k2, rfl, hD, hP, hx139⟩
          refine ⟨_, rfl, ?_⟩
          have hV : EvtV w139 (NOwn w139 (fun q => w13.heap.size ≤ q) (.slice B1 j sc1)) (mkE 3 5 act [110, 111, 116, 101]) ⟨D, 2, dc, S2, m2, k2⟩ := ⟨hD.bdP.mono fun q hq => ⟨by have := hX.size; omega, hq.2, fun he => by have := hO1.lt _ he; omega⟩, hP.bd.mono fun q hq => ⟨by rcases hq.1 with h | h; omega; have := hX.size; omega, hq.2, fun he => by rcases hq.1 with h | h; rw [h] at he; exact hne7 he; have := hO1.lt _ he; omega⟩⟩
          replace hO1 := (hO1.ext hx139).mono (S' := fun q => b8 + 1 ≤ q) (fun q hq => hq.1)
          refine ⟨hx139.fr, ?_⟩
          replace hX := hX.trans hx139
          refine RunE.turn rfl rfl rfl rfl (Does.lit1 4 rfl Tryd.underlying28 infoE2 rfl rfl rfl) ?_ RunE.none
          rintro _ w1310 ⟨gE, rfl, hsE, hkE, hxE⟩
          replace hkE : Blk w1310 gE 34 (evtC (mkE 3 5 act [110, 111, 116, 101]) ⟨D, 2, dc, S2, m2, k2⟩).toArray := hkE
          replace hO1 := hO1.ext hxE
          replace hV := (hV.ext hxE).mono fun q hq => hq.up hxE.size
          refine ⟨hxE.fr, ?_⟩
          replace hX := hX.trans hxE
          refine RunE.turn rfl rfl rfl rfl (Does.appEOs (r := [mkE 3 5 act [110, 111, 116, 101]]) rfl rfl rfl hO1 (row_evt hkE) (EachR.single (evt_rep (hV.mono fun q hq => ⟨by have := hq.1; omega, hq.2⟩))) (by omega) hX.size) ?_ RunE.none
          rintro _ w1311 ⟨B2, sc2, rfl, hO2, hB1311, _, _⟩
          refine ⟨below_old hB1311 (Nat.le_refl _), ?_⟩
          replace hX := Ext.step hX hB1311 (Nat.le_refl _)
          refine RunE.tail rfl ?_
          replace hb6 := hb6.ext hX
          replace hb8 := hb8.ext hX
          replace hE := hE.trans hX
          have hxs := hX.size
          refine Wl.does rfl rfl rfl (Does.appEOs rfl rfl rfl hO2 (hrB.fr hX.fr) ((heB.fr hX.fr).mono fun q hq hlt => ⟨hq.1, hlt, hO2.far hq.2⟩) (by omega) hxs) ?_
          rintro _ w13t ⟨B9, sc9, rfl, hO9, hB13t, _, _⟩
          have hCf := (hC4.ext hX).fr (below_fr hB13t) (fun q hq => by omega)
          replace hb6 := Blk.bel hb6 hB13t (by omega)
          replace hb8 := Blk.bel hb8 hB13t (by omega)
          replace hE := Ext.step hE hB13t (by omega)
          refine vF 2 Tryd.underlying30 ?_
          refine Wl.acts rfl rfl (Does.stC rfl rfl rfl hb8 (by kernel_rfl) (Nat.le_of_ble_eq_true rfl) rfl) ?_
          rintro _ w13_18 ⟨hbn, hF13_18⟩
          replace hb6 := hb6.frA hF13_18
          replace hE := Ext.over hE hF13_18 hg8
          replace hb8 := hbn
          clear hbn
          (try simp only [List.setIfInBounds_toArray, List.set_cons_zero, List.set_cons_succ, Nat.reduceAdd, Nat.zero_add] at hb8)
          have hIOf := (hO9.eo (b := b8 + 1) (fun _ h => h) (by omega)).fr hF13_18 (fun q hq => by omega)
          replace hCf := hCf.fr hF13_18 (fun q hq => by omega)
          have hokf := all_app (all_app (all_take hok j) (all_one (mk_ok (rg := 3) (kd := 5) (pay := [110, 111, 116, 101]) hact ⟨by decide, by decide⟩ ⟨by decide, by decide⟩ (by decide)))) (all_drop hok j)
          refine Wl.nil ?_
          refine Wx.blockN ?_
          refine Wx.blockN ?_
          refine Wx.thenN ?_
          exact hJ14 ((_, _, _), _) _ _ (.cons rfl (.cons rfl (.cons rfl (.cons rfl (.cons rfl (.nil)))))) ⟨by omega, by omega, hokf, hIOf, hCf, hb8, hb6, hE⟩
        refine RunE.turn rfl rfl rfl rfl (Does.lit rfl Tryd.underlying22 infoB2 rfl rfl rfl rfl rfl) ?_ RunE.none
        rintro _ w137 ⟨g7, rfl, hs7, hk7, hx7⟩
        have hl7 := hk7.lt
        have hx7s := hX.size
        have hz7 := hx7.size
        first | have hne7 : Value.ownBlock (.slice B1 j sc1) ≠ some g7 := (fun he => by have := hO1.lt _ he; omega) | skip
        first | replace hO1 := hO1.ext hx7 | skip
        first | replace hO0 := hO0.ext hx7 | skip
        refine ⟨hx7.fr, ?_⟩
        replace hX := hX.trans hx7
        refine RunE.turn rfl rfl rfl rfl (Does.appEO0 rfl rfl rfl hO0 (hrA.fr hX.fr) ((heA.fr hX.fr).mono fun q hq hlt => ⟨hq, hlt, hO0.far hq.2⟩) (by omega) hX.size) ?_ ?_
        · rintro _ w135 ⟨B1, sc1, rfl, hO1, hB135, hN135, hNN135⟩
          first | have hne7 := (hNN135 g7 ⟨trivial, by omega, fun he => by have h : g130 = g7 := Option.some.inj he; omega⟩).2.2 | skip
          first | replace hk7 := hk7.fr hN135 ⟨trivial, by omega, fun he => by have h : g130 = g7 := Option.some.inj he; omega⟩ | skip
          first | replace hB8 := hB8.fr (hN135.mono fun q hq => ⟨trivial, by omega, fun he => by have h : g130 = q := Option.some.inj he; omega⟩) | skip
          refine ⟨below_old hB135 (Nat.le_refl _), ?_⟩
          replace hX := Ext.step hX hB135 (Nat.le_refl _)
          refine RunE.turn rfl rfl rfl rfl (Does.convB (l := [110, 111, 116, 101]) rfl Tryd.underlying22 Tryd.underlying5 rfl hk7 rfl rfl rfl (by omega)) ?_ RunE.none
          rintro _ w138 ⟨rfl, hB8, hF138⟩
          have hw7 : w13.heap.size ≤ g7 := by omega
          have hz138 := hF138.size
          first | replace hO1 := hO1.frN hF138 hne7 (fun q hq => by omega) | skip
          first | replace hO0 := hO0.frN hF138 (fun he => by have h : g130 = g7 := Option.some.inj he; omega) (fun q hq => by omega) | skip
          refine ⟨hF138.mono (fun q hq => by have := hq.1; omega), ?_⟩
          replace hX := Ext.over hX hF138 hw7
          refine RunE.turnC rfl rfl rfl rfl rfl Tryd.func37 rfl (by kernel_rfl) rfl (makeRR _ (hT.ext (hE.trans hX)) 3 5 act (some ⟨g7, 0, none⟩) 4 4 [110, 111, 116, 101] hB8 (by omega)) ?_ RunE.none
          rintro x11 w139 ⟨D, dc, S2, m2, k2, rfl, hD, hP, hx139⟩
          refine ⟨_, rfl, ?_⟩
          have hV : EvtV w139 (NOwn w139 (fun q => w13.heap.size ≤ q) (.slice B1 j sc1)) (mkE 3 5 act [110, 111, 116, 101]) ⟨D, 2, dc, S2, m2, k2⟩ := ⟨hD.bdP.mono fun q hq => ⟨by have := hX.size; omega, hq.2, fun he => by have := hO1.lt _ he; omega⟩, hP.bd.mono fun q hq => ⟨by rcases hq.1 with h | h; omega; have := hX.size; omega, hq.2, fun he => by rcases hq.1 with h | h; rw [h] at he; exact hne7 he; have := hO1.lt _ he; omega⟩⟩
          replace hO1 := (hO1.ext hx139).mono (S' := fun q => b8 + 1 ≤ q) (fun q hq => hq.1)
          refine ⟨hx139.fr, ?_⟩
          replace hX := hX.trans hx139
          refine RunE.turn rfl rfl rfl rfl (Does.lit1 4 rfl Tryd.underlying28 infoE2 rfl rfl rfl) ?_ RunE.none
          rintro _ w1310 ⟨gE, rfl, hsE, hkE, hxE⟩
          replace hkE : Blk w1310 gE 34 (evtC (mkE 3 5 act [110, 111, 116, 101]) ⟨D, 2, dc, S2, m2, k2⟩).toArray := hkE
          replace hO1 := hO1.ext hxE
          replace hV := (hV.ext hxE).mono fun q hq => hq.up hxE.size
          refine ⟨hxE.fr, ?_⟩
          replace hX := hX.trans hxE
          refine RunE.turn rfl rfl rfl rfl (Does.appEOs (r := [mkE 3 5 act [110, 111, 116, 101]]) rfl rfl rfl hO1 (row_evt hkE) (EachR.single (evt_rep (hV.mono fun q hq => ⟨by have := hq.1; omega, hq.2⟩))) (by omega) hX.size) ?_ RunE.none
          rintro _ w1311 ⟨B2, sc2, rfl, hO2, hB1311, _, _⟩
          refine ⟨below_old hB1311 (Nat.le_refl _), ?_⟩
          replace hX := Ext.step hX hB1311 (Nat.le_refl _)
          refine RunE.tail rfl ?_
          replace hb6 := hb6.ext hX
          replace hb8 := hb8.ext hX
          replace hE := hE.trans hX
          have hxs := hX.size
          refine Wl.does rfl rfl rfl (Does.appEOs rfl rfl rfl hO2 (hrB.fr hX.fr) ((heB.fr hX.fr).mono fun q hq hlt => ⟨hq.1, hlt, hO2.far hq.2⟩) (by omega) hxs) ?_
          rintro _ w13t ⟨B9, sc9, rfl, hO9, hB13t, _, _⟩
          have hCf := (hC4.ext hX).fr (below_fr hB13t) (fun q hq => by omega)
          replace hb6 := Blk.bel hb6 hB13t (by omega)
          replace hb8 := Blk.bel hb8 hB13t (by omega)
          replace hE := Ext.step hE hB13t (by omega)
          refine vF 2 Tryd.underlying30 ?_
          refine Wl.acts rfl rfl (Does.stC rfl rfl rfl hb8 (by kernel_rfl) (Nat.le_of_ble_eq_true rfl) rfl) ?_
          rintro _ w13_18 ⟨hbn, hF13_18⟩
          replace hb6 := hb6.frA hF13_18
          replace hE := Ext.over hE hF13_18 hg8
          replace hb8 := hbn
          clear hbn
          (try simp only [List.setIfInBounds_toArray, List.set_cons_zero, List.set_cons_succ, Nat.reduceAdd, Nat.zero_add] at hb8)
          have hIOf := (hO9.eo (b := b8 + 1) (fun _ h => h) (by omega)).fr hF13_18 (fun q hq => by omega)
          replace hCf := hCf.fr hF13_18 (fun q hq => by omega)
          have hokf := all_app (all_app (all_take hok j) (all_one (mk_ok (rg := 3) (kd := 5) (pay := [110, 111, 116, 101]) hact ⟨by decide, by decide⟩ ⟨by decide, by decide⟩ (by decide)))) (all_drop hok j)
          refine Wl.nil ?_
          refine Wx.blockN ?_
          refine Wx.blockN ?_
          refine Wx.thenN ?_
          exact hJ14 ((_, _, _), _) _ _ (.cons rfl (.cons rfl (.cons rfl (.cons rfl (.cons rfl (.nil)))))) ⟨by omega, by omega, hokf, hIOf, hCf, hb8, hb6, hE⟩
        refine RunE.turn rfl rfl rfl rfl (Does.convB (l := [110, 111, 116, 101]) rfl Tryd.underlying22 Tryd.underlying5 rfl hk7 rfl rfl rfl (by omega)) ?_ RunE.none
        rintro _ w138 ⟨rfl, hB8, hF138⟩
        have hw7 : w13.heap.size ≤ g7 := by omega
        have hz138 := hF138.size
        first | replace hO1 := hO1.frN hF138 hne7 (fun q hq => by omega) | skip
        first | replace hO0 := hO0.frN hF138 (fun he => by have h : g130 = g7 := Option.some.inj he; omega) (fun q hq => by omega) | skip
        refine ⟨hF138.mono (fun q hq => by have := hq.1; omega), ?_⟩
        replace hX := Ext.over hX hF138 hw7
        refine RunE.turn rfl rfl rfl rfl (Does.appEO0 rfl rfl rfl hO0 (hrA.fr hX.fr) ((heA.fr hX.fr).mono fun q hq hlt => ⟨hq, hlt, hO0.far hq.2⟩) (by omega) hX.size) ?_ RunE.none
        rintro _ w135 ⟨B1, sc1, rfl, hO1, hB135, hN135, hNN135⟩
        first | have hne7 := (hNN135 g7 ⟨trivial, by omega, fun he => by have h : g130 = g7 := Option.some.inj he; omega⟩).2.2 | skip
        first | replace hk7 := hk7.fr hN135 ⟨trivial, by omega, fun he => by have h : g130 = g7 := Option.some.inj he; omega⟩ | skip
        first | replace hB8 := hB8.fr (hN135.mono fun q hq => ⟨trivial, by omega, fun he => by have h : g130 = q := Option.some.inj he; omega⟩) | skip
        refine ⟨below_old hB135 (Nat.le_refl _), ?_⟩
        replace hX := Ext.step hX hB135 (Nat.le_refl _)
        refine RunE.turnC rfl rfl rfl rfl rfl Tryd.func37 rfl (by kernel_rfl) rfl (makeRR _ (hT.ext (hE.trans hX)) 3 5 act (some ⟨g7, 0, none⟩) 4 4 [110, 111, 116, 101] hB8 (by omega)) ?_ RunE.none
        rintro x11 w139 ⟨D, dc, S2, m2, k2, rfl, hD, hP, hx139⟩
        refine ⟨_, rfl, ?_⟩
        have hV : EvtV w139 (NOwn w139 (fun q => w13.heap.size ≤ q) (.slice B1 j sc1)) (mkE 3 5 act [110, 111, 116, 101]) ⟨D, 2, dc, S2, m2, k2⟩ := ⟨hD.bdP.mono fun q hq => ⟨by have := hX.size; omega, hq.2, fun he => by have := hO1.lt _ he; omega⟩, hP.bd.mono fun q hq => ⟨by rcases hq.1 with h | h; omega; have := hX.size; omega, hq.2, fun he => by rcases hq.1 with h | h; rw [h] at he; exact hne7 he; have := hO1.lt _ he; omega⟩⟩
        replace hO1 := (hO1.ext hx139).mono (S' := fun q => b8 + 1 ≤ q) (fun q hq => hq.1)
        refine ⟨hx139.fr, ?_⟩
        replace hX := hX.trans hx139
        refine RunE.turn rfl rfl rfl rfl (Does.lit1 4 rfl Tryd.underlying28 infoE2 rfl rfl rfl) ?_ RunE.none
        rintro _ w1310 ⟨gE, rfl, hsE, hkE, hxE⟩
        replace hkE : Blk w1310 gE 34 (evtC (mkE 3 5 act [110, 111, 116, 101]) ⟨D, 2, dc, S2, m2, k2⟩).toArray := hkE
        replace hO1 := hO1.ext hxE
        replace hV := (hV.ext hxE).mono fun q hq => hq.up hxE.size
        refine ⟨hxE.fr, ?_⟩
        replace hX := hX.trans hxE
        refine RunE.turn rfl rfl rfl rfl (Does.appEOs (r := [mkE 3 5 act [110, 111, 116, 101]]) rfl rfl rfl hO1 (row_evt hkE) (EachR.single (evt_rep (hV.mono fun q hq => ⟨by have := hq.1; omega, hq.2⟩))) (by omega) hX.size) ?_ RunE.none
        rintro _ w1311 ⟨B2, sc2, rfl, hO2, hB1311, _, _⟩
        refine ⟨below_old hB1311 (Nat.le_refl _), ?_⟩
        replace hX := Ext.step hX hB1311 (Nat.le_refl _)
        refine RunE.tail rfl ?_
        replace hb6 := hb6.ext hX
        replace hb8 := hb8.ext hX
        replace hE := hE.trans hX
        have hxs := hX.size
        refine Wl.does rfl rfl rfl (Does.appEOs rfl rfl rfl hO2 (hrB.fr hX.fr) ((heB.fr hX.fr).mono fun q hq hlt => ⟨hq.1, hlt, hO2.far hq.2⟩) (by omega) hxs) ?_
        rintro _ w13t ⟨B9, sc9, rfl, hO9, hB13t, _, _⟩
        have hCf := (hC4.ext hX).fr (below_fr hB13t) (fun q hq => by omega)
        replace hb6 := Blk.bel hb6 hB13t (by omega)
        replace hb8 := Blk.bel hb8 hB13t (by omega)
        replace hE := Ext.step hE hB13t (by omega)
        refine vF 2 Tryd.underlying30 ?_
        refine Wl.acts rfl rfl (Does.stC rfl rfl rfl hb8 (by kernel_rfl) (Nat.le_of_ble_eq_true rfl) rfl) ?_
        rintro _ w13_18 ⟨hbn, hF13_18⟩
        replace hb6 := hb6.frA hF13_18
        replace hE := Ext.over hE hF13_18 hg8
        replace hb8 := hbn
        clear hbn
        (try simp only [List.setIfInBounds_toArray, List.set_cons_zero, List.set_cons_succ, Nat.reduceAdd, Nat.zero_add] at hb8)
        have hIOf := (hO9.eo (b := b8 + 1) (fun _ h => h) (by omega)).fr hF13_18 (fun q hq => by omega)
        replace hCf := hCf.fr hF13_18 (fun q hq => by omega)
        have hokf := all_app (all_app (all_take hok j) (all_one (mk_ok (rg := 3) (kd := 5) (pay := [110, 111, 116, 101]) hact ⟨by decide, by decide⟩ ⟨by decide, by decide⟩ (by decide)))) (all_drop hok j)
        refine Wl.nil ?_
        refine Wx.blockN ?_
        refine Wx.blockN ?_
        refine Wx.thenN ?_
        exact hJ14 ((_, _, _), _) _ _ (.cons rfl (.cons rfl (.cons rfl (.cons rfl (.cons rfl (.nil)))))) ⟨by omega, by omega, hokf, hIOf, hCf, hb8, hb6, hE⟩
      refine RunE.turn rfl rfl rfl rfl (Does.lit rfl Tryd.underlying22 infoB2 rfl rfl rfl rfl rfl) ?_ RunE.none
      rintro _ w137 ⟨g7, rfl, hs7, hk7, hx7⟩
      have hl7 := hk7.lt
      have hx7s := hX.size
      have hz7 := hx7.size
      first | have hne7 : Value.ownBlock (.slice B1 j sc1) ≠ some g7 := (fun he => by have := hO1.lt _ he; omega) | skip
      first | replace hO1 := hO1.ext hx7 | skip
      first | replace hO0 := hO0.ext hx7 | skip
      refine ⟨hx7.fr, ?_⟩
      replace hX := hX.trans hx7
      refine RunE.turn rfl rfl rfl rfl (Does.lit0 4 rfl Tryd.underlying28 infoE2) ?_ ?_
      · rintro _ w130 ⟨g130, rfl, hs130, hk130, hx130⟩
        have hl130 := hk130.lt
        have hz130 := hx130.size
        have hO0 : EOs w130 w13.heap.size (fun q => b8 + 1 ≤ q ∧ q < w13.heap.size) (some ⟨g130, 0, none⟩) 0 0 [] := EOs.lit0 hk130 (by have := hX.size; omega)
        first | replace hk7 := hk7.ext hx130 | skip
        first | replace hB8 := hB8.ext hx130 | skip
        refine ⟨hx130.fr, ?_⟩
        replace hX := hX.trans hx130
        refine RunE.turn rfl rfl rfl rfl (Does.appEO0 rfl rfl rfl hO0 (hrA.fr hX.fr) ((heA.fr hX.fr).mono fun q hq hlt => ⟨hq, hlt, hO0.far hq.2⟩) (by omega) hX.size) ?_ ?_
        · rintro _ w135 ⟨B1, sc1, rfl, hO1, hB135, hN135, hNN135⟩
          first | have hne7 := (hNN135 g7 ⟨trivial, by omega, fun he => by have h : g130 = g7 := Option.some.inj he; omega⟩).2.2 | skip
          first | replace hk7 := hk7.fr hN135 ⟨trivial, by omega, fun he => by have h : g130 = g7 := Option.some.inj he; omega⟩ | skip
          first | replace hB8 := hB8.fr (hN135.mono fun q hq => ⟨trivial, by omega, fun he => by have h : g130 = q := Option.some.inj he; omega⟩) | skip
          refine ⟨below_old hB135 (Nat.le_refl _), ?_⟩
          replace hX := Ext.step hX hB135 (Nat.le_refl _)
          refine RunE.turn rfl rfl rfl rfl (Does.convB (l := [110, 111, 116, 101]) rfl Tryd.underlying22 Tryd.underlying5 rfl hk7 rfl rfl rfl (by omega)) ?_ RunE.none
          rintro _ w138 ⟨rfl, hB8, hF138⟩
          have hw7 : w13.heap.size ≤ g7 := by omega
          have hz138 := hF138.size
          first | replace hO1 := hO1.frN hF138 hne7 (fun q hq => by omega) | skip
          first | replace hO0 := hO0.frN hF138 (fun he => by have h : g130 = g7 := Option.some.inj he; omega) (fun q hq => by omega) | skip
          refine ⟨hF138.mono (fun q hq => by have := hq.1; omega), ?_⟩
          replace hX := Ext.over hX hF138 hw7
          refine RunE.turnC rfl rfl rfl rfl rfl Tryd.func37 rfl (by kernel_rfl) rfl (makeRR _ (hT.ext (hE.trans hX)) 3 5 act (some ⟨g7, 0, none⟩) 4 4 [110, 111, 116, 101] hB8 (by omega)) ?_ RunE.none
          rintro x11 w139 ⟨D, dc, S2, m2, k2, rfl, hD, hP, hx139⟩
          refine ⟨_, rfl, ?_⟩
          have hV : EvtV w139 (NOwn w139 (fun q => w13.heap.size ≤ q) (.slice B1 j sc1)) (mkE 3 5 act [110, 111, 116, 101]) ⟨D, 2, dc, S2, m2, k2⟩ := ⟨hD.bdP.mono fun q hq => ⟨by have := hX.size; omega, hq.2, fun he => by have := hO1.lt _ he; omega⟩, hP.bd.mono fun q hq => ⟨by rcases hq.1 with h | h; omega; have := hX.size; omega, hq.2, fun he => by rcases hq.1 with h | h; rw [h] at he; exact hne7 he; have := hO1.lt _ he; omega⟩⟩
          replace hO1 := (hO1.ext hx139).mono (S' := fun q => b8 + 1 ≤ q) (fun q hq => hq.1)
          refine ⟨hx139.fr, ?_⟩
          replace hX := hX.trans hx139
          refine RunE.turn rfl rfl rfl rfl (Does.lit1 4 rfl Tryd.underlying28 infoE2 rfl rfl rfl) ?_ RunE.none
          rintro _ w1310 ⟨gE, rfl, hsE, hkE, hxE⟩
          replace hkE : Blk w1310 gE 34 (evtC (mkE 3 5 act [110, 111, 116, 101]) ⟨D, 2, dc, S2, m2, k2⟩).toArray := hkE
          replace hO1 := hO1.ext hxE
          replace hV := (hV.ext hxE).mono fun q hq => hq.up hxE.size
          refine ⟨hxE.fr, ?_⟩
          replace hX := hX.trans hxE
          refine RunE.turn rfl rfl rfl rfl (Does.appEOs (r := [mkE 3 5 act [110, 111, 116, 101]]) rfl rfl rfl hO1 (row_evt hkE) (EachR.single (evt_rep (hV.mono fun q hq => ⟨by have := hq.1; omega, hq.2⟩))) (by omega) hX.size) ?_ RunE.none
          rintro _ w1311 ⟨B2, sc2, rfl, hO2, hB1311, _, _⟩
          refine ⟨below_old hB1311 (Nat.le_refl _), ?_⟩
          replace hX := Ext.step hX hB1311 (Nat.le_refl _)
          refine RunE.tail rfl ?_
          replace hb6 := hb6.ext hX
          replace hb8 := hb8.ext hX
          replace hE := hE.trans hX
          have hxs := hX.size
          refine Wl.does rfl rfl rfl (Does.appEOs rfl rfl rfl hO2 (hrB.fr hX.fr) ((heB.fr hX.fr).mono fun q hq hlt => ⟨hq.1, hlt, hO2.far hq.2⟩) (by omega) hxs) ?_
          rintro _ w13t ⟨B9, sc9, rfl, hO9, hB13t, _, _⟩
          have hCf := (hC4.ext hX).fr (below_fr hB13t) (fun q hq => by omega)
          replace hb6 := Blk.bel hb6 hB13t (by omega)
          replace hb8 := Blk.bel hb8 hB13t (by omega)
          replace hE := Ext.step hE hB13t (by omega)
          refine vF 2 Tryd.underlying30 ?_
          refine Wl.acts rfl rfl (Does.stC rfl rfl rfl hb8 (by kernel_rfl) (Nat.le_of_ble_eq_true rfl) rfl) ?_
          rintro _ w13_18 ⟨hbn, hF13_18⟩
          replace hb6 := hb6.frA hF13_18
          replace hE := Ext.over hE hF13_18 hg8
          replace hb8 := hbn
          clear hbn
          (try simp only [List.setIfInBounds_toArray, List.set_cons_zero, List.set_cons_succ, Nat.reduceAdd, Nat.zero_add] at hb8)
          have hIOf := (hO9.eo (b := b8 + 1) (fun _ h => h) (by omega)).fr hF13_18 (fun q hq => by omega)
          replace hCf := hCf.fr hF13_18 (fun q hq => by omega)
          have hokf := all_app (all_app (all_take hok j) (all_one (mk_ok (rg := 3) (kd := 5) (pay := [110, 111, 116, 101]) hact ⟨by decide, by decide⟩ ⟨by decide, by decide⟩ (by decide)))) (all_drop hok j)
          refine Wl.nil ?_
          refine Wx.blockN ?_
          refine Wx.blockN ?_
          refine Wx.thenN ?_
          exact hJ14 ((_, _, _), _) _ _ (.cons rfl (.cons rfl (.cons rfl (.cons rfl (.cons rfl (.nil)))))) ⟨by omega, by omega, hokf, hIOf, hCf, hb8, hb6, hE⟩
        refine RunE.turn rfl rfl rfl rfl (Does.convB (l := [110, 111, 116, 101]) rfl Tryd.underlying22 Tryd.underlying5 rfl hk7 rfl rfl rfl (by omega)) ?_ RunE.none
        rintro _ w138 ⟨rfl, hB8, hF138⟩
        have hw7 : w13.heap.size ≤ g7 := by omega
        have hz138 := hF138.size
        first | replace hO1 := hO1.frN hF138 hne7 (fun q hq => by omega) | skip
        first | replace hO0 := hO0.frN hF138 (fun he => by have h : g130 = g7 := Option.some.inj he; omega) (fun q hq => by omega) | skip
        refine ⟨hF138.mono (fun q hq => by have := hq.1; omega), ?_⟩
        replace hX := Ext.over hX hF138 hw7
        refine RunE.turn rfl rfl rfl rfl (Does.appEO0 rfl rfl rfl hO0 (hrA.fr hX.fr) ((heA.fr hX.fr).mono fun q hq hlt => ⟨hq, hlt, hO0.far hq.2⟩) (by omega) hX.size) ?_ RunE.none
        rintro _ w135 ⟨B1, sc1, rfl, hO1, hB135, hN135, hNN135⟩
        first | have hne7 := (hNN135 g7 ⟨trivial, by omega, fun he => by have h : g130 = g7 := Option.some.inj he; omega⟩).2.2 | skip
        first | replace hk7 := hk7.fr hN135 ⟨trivial, by omega, fun he => by have h : g130 = g7 := Option.some.inj he; omega⟩ | skip
        first | replace hB8 := hB8.fr (hN135.mono fun q hq => ⟨trivial, by omega, fun he => by have h : g130 = q := Option.some.inj he; omega⟩) | skip
        refine ⟨below_old hB135 (Nat.le_refl _), ?_⟩
        replace hX := Ext.step hX hB135 (Nat.le_refl _)
        refine RunE.turnC rfl rfl rfl rfl rfl Tryd.func37 rfl (by kernel_rfl) rfl (makeRR _ (hT.ext (hE.trans hX)) 3 5 act (some ⟨g7, 0, none⟩) 4 4 [110, 111, 116, 101] hB8 (by omega)) ?_ RunE.none
        rintro x11 w139 ⟨D, dc, S2, m2, k2, rfl, hD, hP, hx139⟩
        refine ⟨_, rfl, ?_⟩
        have hV : EvtV w139 (NOwn w139 (fun q => w13.heap.size ≤ q) (.slice B1 j sc1)) (mkE 3 5 act [110, 111, 116, 101]) ⟨D, 2, dc, S2, m2, k2⟩ := ⟨hD.bdP.mono fun q hq => ⟨by have := hX.size; omega, hq.2, fun he => by have := hO1.lt _ he; omega⟩, hP.bd.mono fun q hq => ⟨by rcases hq.1 with h | h; omega; have := hX.size; omega, hq.2, fun he => by rcases hq.1 with h | h; rw [h] at he; exact hne7 he; have := hO1.lt _ he; omega⟩⟩
        replace hO1 := (hO1.ext hx139).mono (S' := fun q => b8 + 1 ≤ q) (fun q hq => hq.1)
        refine ⟨hx139.fr, ?_⟩
        replace hX := hX.trans hx139
        refine RunE.turn rfl rfl rfl rfl (Does.lit1 4 rfl Tryd.underlying28 infoE2 rfl rfl rfl) ?_ RunE.none
        rintro _ w1310 ⟨gE, rfl, hsE, hkE, hxE⟩
        replace hkE : Blk w1310 gE 34 (evtC (mkE 3 5 act [110, 111, 116, 101]) ⟨D, 2, dc, S2, m2, k2⟩).toArray := hkE
        replace hO1 := hO1.ext hxE
        replace hV := (hV.ext hxE).mono fun q hq => hq.up hxE.size
        refine ⟨hxE.fr, ?_⟩
        replace hX := hX.trans hxE
        refine RunE.turn rfl rfl rfl rfl (Does.appEOs (r := [mkE 3 5 act [110, 111, 116, 101]]) rfl rfl rfl hO1 (row_evt hkE) (EachR.single (evt_rep (hV.mono fun q hq => ⟨by have := hq.1; omega, hq.2⟩))) (by omega) hX.size) ?_ RunE.none
        rintro _ w1311 ⟨B2, sc2, rfl, hO2, hB1311, _, _⟩
        refine ⟨below_old hB1311 (Nat.le_refl _), ?_⟩
        replace hX := Ext.step hX hB1311 (Nat.le_refl _)
        refine RunE.tail rfl ?_
        replace hb6 := hb6.ext hX
        replace hb8 := hb8.ext hX
        replace hE := hE.trans hX
        have hxs := hX.size
        refine Wl.does rfl rfl rfl (Does.appEOs rfl rfl rfl hO2 (hrB.fr hX.fr) ((heB.fr hX.fr).mono fun q hq hlt => ⟨hq.1, hlt, hO2.far hq.2⟩) (by omega) hxs) ?_
        rintro _ w13t ⟨B9, sc9, rfl, hO9, hB13t, _, _⟩
        have hCf := (hC4.ext hX).fr (below_fr hB13t) (fun q hq => by omega)
        replace hb6 := Blk.bel hb6 hB13t (by omega)
        replace hb8 := Blk.bel hb8 hB13t (by omega)
        replace hE := Ext.step hE hB13t (by omega)
        refine vF 2 Tryd.underlying30 ?_
        refine Wl.acts rfl rfl (Does.stC rfl rfl rfl hb8 (by kernel_rfl) (Nat.le_of_ble_eq_true rfl) rfl) ?_
        rintro _ w13_18 ⟨hbn, hF13_18⟩
        replace hb6 := hb6.frA hF13_18
        replace hE := Ext.over hE hF13_18 hg8
        replace hb8 := hbn
        clear hbn
        (try simp only [List.setIfInBounds_toArray, List.set_cons_zero, List.set_cons_succ, Nat.reduceAdd, Nat.zero_add] at hb8)
        have hIOf := (hO9.eo (b := b8 + 1) (fun _ h => h) (by omega)).fr hF13_18 (fun q hq => by omega)
        replace hCf := hCf.fr hF13_18 (fun q hq => by omega)
        have hokf := all_app (all_app (all_take hok j) (all_one (mk_ok (rg := 3) (kd := 5) (pay := [110, 111, 116, 101]) hact ⟨by decide, by decide⟩ ⟨by decide, by decide⟩ (by decide)))) (all_drop hok j)
        refine Wl.nil ?_
        refine Wx.blockN ?_
        refine Wx.blockN ?_
        refine Wx.thenN ?_
        exact hJ14 ((_, _, _), _) _ _ (.cons rfl (.cons rfl (.cons rfl (.cons rfl (.cons rfl (.nil)))))) ⟨by omega, by omega, hokf, hIOf, hCf, hb8, hb6, hE⟩
      refine RunE.turn rfl rfl rfl rfl (Does.convB (l := [110, 111, 116, 101]) rfl Tryd.underlying22 Tryd.underlying5 rfl hk7 rfl rfl rfl (by omega)) ?_ RunE.none
      rintro _ w138 ⟨rfl, hB8, hF138⟩
      have hw7 : w13.heap.size ≤ g7 := by omega
      have hz138 := hF138.size
      first | replace hO1 := hO1.frN hF138 hne7 (fun q hq => by omega) | skip
      first | replace hO0 := hO0.frN hF138 (fun he => by have h : g130 = g7 := Option.some.inj he; omega) (fun q hq => by omega) | skip
      refine ⟨hF138.mono (fun q hq => by have := hq.1; omega), ?_⟩
      replace hX := Ext.over hX hF138 hw7
      refine RunE.turn rfl rfl rfl rfl (Does.lit0 4 rfl Tryd.underlying28 infoE2) ?_ RunE.none
      rintro _ w130 ⟨g130, rfl, hs130, hk130, hx130⟩
      have hl130 := hk130.lt
      have hz130 := hx130.size
      have hO0 : EOs w130 w13.heap.size (fun q => b8 + 1 ≤ q ∧ q < w13.heap.size) (some ⟨g130, 0, none⟩) 0 0 [] := EOs.lit0 hk130 (by have := hX.size; omega)
      first | replace hk7 := hk7.ext hx130 | skip
      first | replace hB8 := hB8.ext hx130 | skip
      refine ⟨hx130.fr, ?_⟩
      replace hX := hX.trans hx130
      refine RunE.turn rfl rfl rfl rfl (Does.appEO0 rfl rfl rfl hO0 (hrA.fr hX.fr) ((heA.fr hX.fr).mono fun q hq hlt => ⟨hq, hlt, hO0.far hq.2⟩) (by omega) hX.size) ?_ RunE.none
      rintro _ w135 ⟨B1, sc1, rfl, hO1, hB135, hN135, hNN135⟩
      first | have hne7 := (hNN135 g7 ⟨trivial, by omega, fun he => by have h : g130 = g7 := Option.some.inj he; omega⟩).2.2 | skip
      first | replace hk7 := hk7.fr hN135 ⟨trivial, by omega, fun he => by have h : g130 = g7 := Option.some.inj he; omega⟩ | skip
      first | replace hB8 := hB8.fr (hN135.mono fun q hq => ⟨trivial, by omega, fun he => by have h : g130 = q := Option.some.inj he; omega⟩) | skip
      refine ⟨below_old hB135 (Nat.le_refl _), ?_⟩
      replace hX := Ext.step hX hB135 (Nat.le_refl _)
      refine RunE.turnC rfl rfl rfl rfl rfl Tryd.func37 rfl (by kernel_rfl) rfl (makeRR _ (hT.ext (hE.trans hX)) 3 5 act (some ⟨g7, 0, none⟩) 4 4 [110, 111, 116, 101] hB8 (by omega)) ?_ RunE.none
      rintro x11 w139 ⟨D, dc, S2, m2, k2, rfl, hD, hP, hx139⟩
      refine ⟨_, rfl, ?_⟩
      have hV : EvtV w139 (NOwn w139 (fun q => w13.heap.size ≤ q) (.slice B1 j sc1)) (mkE 3 5 act [110, 111, 116, 101]) ⟨D, 2, dc, S2, m2, k2⟩ := ⟨hD.bdP.mono fun q hq => ⟨by have := hX.size; omega, hq.2, fun he => by have := hO1.lt _ he; omega⟩, hP.bd.mono fun q hq => ⟨by rcases hq.1 with h | h; omega; have := hX.size; omega, hq.2, fun he => by rcases hq.1 with h | h; rw [h] at he; exact hne7 he; have := hO1.lt _ he; omega⟩⟩
      replace hO1 := (hO1.ext hx139).mono (S' := fun q => b8 + 1 ≤ q) (fun q hq => hq.1)
      refine ⟨hx139.fr, ?_⟩
      replace hX := hX.trans hx139
      refine RunE.turn rfl rfl rfl rfl (Does.lit1 4 rfl Tryd.underlying28 infoE2 rfl rfl rfl) ?_ RunE.none
      rintro _ w1310 ⟨gE, rfl, hsE, hkE, hxE⟩
      replace hkE : Blk w1310 gE 34 (evtC (mkE 3 5 act [110, 111, 116, 101]) ⟨D, 2, dc, S2, m2, k2⟩).toArray := hkE
      replace hO1 := hO1.ext hxE
      replace hV := (hV.ext hxE).mono fun q hq => hq.up hxE.size
      refine ⟨hxE.fr, ?_⟩
      replace hX := hX.trans hxE
      refine RunE.turn rfl rfl rfl rfl (Does.appEOs (r := [mkE 3 5 act [110, 111, 116, 101]]) rfl rfl rfl hO1 (row_evt hkE) (EachR.single (evt_rep (hV.mono fun q hq => ⟨by have := hq.1; omega, hq.2⟩))) (by omega) hX.size) ?_ RunE.none
      rintro _ w1311 ⟨B2, sc2, rfl, hO2, hB1311, _, _⟩
      refine ⟨below_old hB1311 (Nat.le_refl _), ?_⟩
      replace hX := Ext.step hX hB1311 (Nat.le_refl _)
      refine RunE.tail rfl ?_
      replace hb6 := hb6.ext hX
      replace hb8 := hb8.ext hX
      replace hE := hE.trans hX
      have hxs := hX.size
      refine Wl.does rfl rfl rfl (Does.appEOs rfl rfl rfl hO2 (hrB.fr hX.fr) ((heB.fr hX.fr).mono fun q hq hlt => ⟨hq.1, hlt, hO2.far hq.2⟩) (by omega) hxs) ?_
      rintro _ w13t ⟨B9, sc9, rfl, hO9, hB13t, _, _⟩
      have hCf := (hC4.ext hX).fr (below_fr hB13t) (fun q hq => by omega)
      replace hb6 := Blk.bel hb6 hB13t (by omega)
      replace hb8 := Blk.bel hb8 hB13t (by omega)
      replace hE := Ext.step hE hB13t (by omega)
      refine vF 2 Tryd.underlying30 ?_
      refine Wl.acts rfl rfl (Does.stC rfl rfl rfl hb8 (by kernel_rfl) (Nat.le_of_ble_eq_true rfl) rfl) ?_
      rintro _ w13_18 ⟨hbn, hF13_18⟩
      replace hb6 := hb6.frA hF13_18
      replace hE := Ext.over hE hF13_18 hg8
      replace hb8 := hbn
      clear hbn
      (try simp only [List.setIfInBounds_toArray, List.set_cons_zero, List.set_cons_succ, Nat.reduceAdd, Nat.zero_add] at hb8)
      have hIOf := (hO9.eo (b := b8 + 1) (fun _ h => h) (by omega)).fr hF13_18 (fun q hq => by omega)
      replace hCf := hCf.fr hF13_18 (fun q hq => by omega)
      have hokf := all_app (all_app (all_take hok j) (all_one (mk_ok (rg := 3) (kd := 5) (pay := [110, 111, 116, 101]) hact ⟨by decide, by decide⟩ ⟨by decide, by decide⟩ (by decide)))) (all_drop hok j)
      refine Wl.nil ?_
      refine Wx.blockN ?_
      refine Wx.blockN ?_
      refine Wx.thenN ?_
      exact hJ14 ((_, _, _), _) _ _ (.cons rfl (.cons rfl (.cons rfl (.cons rfl (.cons rfl (.nil)))))) ⟨by omega, by omega, hokf, hIOf, hCf, hb8, hb6, hE⟩
    intro ⟨⟨S, m, k⟩, evs⟩ wj hJ
    clear hE hIO hok hb8 hb6 hmq1 hmq2
    obtain ⟨hmq1, hmq2, hok, hIO, hC, hb8, hb6, hE⟩ := hJ
    refine vR [(1, _), (6, _), (7, _), (8, _), (10, _)] ?_
    refine vM ?_
    refine vSub ?_
    refine vA ?_
    refine Wl.nil ?_
    refine Wx.thenN ?_
    exact hKL1 (q - 1, (S, m, k), evs) _ _ (.co (.cons rfl (.cons rfl (.cons rfl (.cons rfl (.nil)))))) ⟨by omega, by omega, by omega, by omega, hok, hIO, hC, hb8, hb6, hE⟩ (by show (q - 1).toNat < q.toNat; omega)
  first | replace h44 := dF h44 | replace h44 := nF h44 | skip
  refine Wc.exit ?_
  refine Wx.thenE ?_
  refine Wx.thenE ?_
  refine Wx.hit ?_
  refine Wx.thenN (hK10 _ _ ?_)
  refine vs fun K23 hK23 => vR [(6, _), (8, _)] ?_
  refine vl (Gives.ldW rfl (by kernel_rfl) rfl hb8 (by kernel_rfl)) ?_
  refine Wl.acts rfl rfl (Does.stL 3 rfl rfl rfl hb6 (by kernel_rfl) rfl rfl rfl) ?_
  rintro _ w24_1 ⟨hbn, hF24_1⟩
  replace hb8 := hb8.frA hF24_1
  replace hE := Ext.over hE hF24_1 hg6
  replace hb6 := hbn
  clear hbn
  refine vn (hK23 _ _ ?_)
  refine Wc.ret ?_
  refine Wx.ret [_] ⟨⟨_, rfl, res_blk hb6 Tryd.underlying30 rfl (by kernel_rfl)⟩, trivial⟩ ?_
  exact ⟨S, m, k, evs, rfl, (hIO.fr hF24_1 (fun q hq => by omega)).low (by omega), hok, by omega, hE⟩
end Go.Proofs.YtnbgieccindpnaaDoor
/- Drawn logs: what the laws' helpers few and spoilt make; events and logs opened. -/
namespace Go.Proofs.YtnbgieccindpnaaDoor
set_option linter.all false
set_option maxRecDepth 20000
open Go.RowKit
theorem evT_le : ∀ l : List Ev, (evT l).length ≤ 138 * l.length
  | [] => by simp [evT]
  | x :: r => by
    have h1 := evT_le r
    have h2 := evB_le x
    rw [evT_cons, List.length_append, blobT_len, List.length_cons]
    omega
theorem drawn_ok {act rs : Int} {evs : List Ev} (ha : 1 ≤ act ∧ act ≤ 3) (hok : ∀ x ∈ evs, evE x act = 0) (hm : evs.length ≤ 37) : lgOk ⟨act, rs % 1000, evs⟩ ∧ (lgB ⟨act, rs % 1000, evs⟩).length ≤ 5200 ∧ 11 ≤ (lgB ⟨act, rs % 1000, evs⟩).length := by
  have h0 := Int.emod_nonneg rs (show (1000 : Int) ≠ 0 by decide)
  have h1 := Int.emod_lt_of_pos rs (show (0 : Int) < 1000 by decide)
  have hr : rngH act (rs % 1000) := by unfold rngH; omega
  have hl := hdS_len hr
  have he := evT_le evs
  refine ⟨⟨hr, hok, by show evs.length ≤ 40; omega⟩, ?_, ?_⟩
  · show (hdS act (rs % 1000) ++ evT evs).length ≤ 5200
    rw [List.length_append]; omega
  · show 11 ≤ (hdS act (rs % 1000) ++ evT evs).length
    rw [List.length_append]; omega
theorem modN (w : World) (n q : Int) (m : Nat) (hq : q = (m : Int)) (hm : 1 ≤ m) (hm2 : m ≤ 4611686018427387904) : Calls Tryd.prog 12 #[.int .i64 n, .int .i64 q] w fun e w' => ∃ j : Nat, j < m ∧ e = .returned (.int .i64 (j : Int)) ∧ w = w' := by
  subst hq
  refine (mod_calls w n (m : Int) (by omega) (by omega)).mono ?_
  rintro e w' ⟨rfl, rfl⟩
  have h0 := Int.emod_nonneg n (show (m : Int) ≠ 0 by omega)
  have h1 := Int.emod_lt_of_pos n (show (0 : Int) < (m : Int) by omega)
  exact ⟨(n % (m : Int)).toNat, by omega, by rw [Int.toNat_of_nonneg h0], rfl⟩
/-! events and logs opened -/
theorem opens_evt (w : World) : Opens Tryd.prog w 34 Rp.evt (fun _ => True) := by
  have h := Opens.struct4 (w := w) Tryd.underlying34 (r0 := Rp.int .i64) (r1 := Rp.int .i64) (r2 := Rp.bytes.list) (r3 := Rp.bytes) (by kernel_rfl) (Opens.int Tryd.underlying3) (Opens.int Tryd.underlying3) (Opens.list Tryd.underlying32 (by kernel_rfl) (Opens.bytes Tryd.underlying22 Tryd.underlying5 (by kernel_rfl))) (Opens.bytes Tryd.underlying22 Tryd.underlying5 (by kernel_rfl)) (by kernel_rfl)
  intro H enc base spare held fuel cs x hx
  obtain ⟨a, h1, _⟩ := h hx
  exact ⟨⟨a.1, a.2.1, a.2.2.1, a.2.2.2⟩, h1, trivial⟩
def Rp.log : Rp Lg := ((Rp.int .i64).pair ((Rp.int .i64).pair Rp.evt.list)).of fun x => (x.active, x.resets, x.events)
theorem opens_log (w : World) : Opens Tryd.prog w 30 Rp.log (fun _ => True) := by
  have h := Opens.struct3 (w := w) Tryd.underlying30 (r0 := Rp.int .i64) (r1 := Rp.int .i64) (r2 := Rp.evt.list) (by kernel_rfl) (Opens.int Tryd.underlying3) (Opens.int Tryd.underlying3) (Opens.list Tryd.underlying28 (by kernel_rfl) (opens_evt w)) (by kernel_rfl)
  intro H enc base spare held fuel cs x hx
  obtain ⟨a, h1, _⟩ := h hx
  exact ⟨⟨a.1, a.2.1, a.2.2⟩, h1, trivial⟩
theorem log_of {w : World} {P : Nat → Prop} {cs : List Value} {x : Lg} (h : Rp.log.rep w P cs x) : ∃ A n c, cs = [.int .i64 x.active, .int .i64 x.resets, .slice A n c] ∧ SL Rp.evt w P A n c x.events := by
  obtain ⟨c1, _, rfl, h1, c2, c3, rfl, h2, ⟨A, n, c, h3, i3⟩⟩ := h
  have h1' : c1 = [.int .i64 x.active] := h1
  have h2' : c2 = [.int .i64 x.resets] := h2
  subst h1' h2' h3
  exact ⟨A, n, c, rfl, i3⟩
/-! spoilt logs -/
def SpR (w : World) (e : Ending) (w' : World) : Prop := ∃ S m k b, e = .returned (.slice S m k) ∧ BV w' (fun q => w.heap.size ≤ q) S m k b ∧ m ≤ 5300 ∧ Ext w w'
set_option maxRecDepth 20000 in
set_option maxHeartbeats 2000000 in
theorem spoiltD {P P2 P3 P4 : Nat → Prop} (w : World) (hT : Tab w) (A : Option Addr) (n c : Nat) (codes : List UInt8) (ha : BV w P A n c codes) (active rs : Int) (B : Option Addr) (bn bc : Nat) (zs : List Int) (hb : Row w P2 1 B bn bc (zs.map fun z => .int .i64 z)) (C : Option Addr) (cn cc : Nat) (ys : List UInt8) (hc : BV w P3 C cn cc ys) (cut : Int) (D : Option Addr) (dn dc : Nat) (tl : List UInt8) (hd : BV w P4 D dn dc tl) :
    Calls Tryd.prog 26 #[.slice A n c, .int .i64 active, .int .i64 rs, .slice B bn bc, .slice C cn cc, .int .i64 cut, .slice D dn dc] w (SpR w) := by
  have hbl : zs.length = bn := by have := hb.1; simpa using this
  have hcl := hc.len
  have hdle := hd.le
  have hdl := (hd.cutS 40).len
  have ha0 := Int.emod_nonneg active (show (3 : Int) ≠ 0 by decide)
  have ha1 := Int.emod_lt_of_pos active (show (0 : Int) < 3 by decide)
  refine calls_enter Tryd.func26 rfl Tryd.ntmps26 rfl ?_
  have hE : Ext w w := Ext.refl w
  refine vs fun K1 hK1 => vR [(0, _), (1, _), (2, _), (3, _), (4, _), (5, _), (6, _)] ?_
  refine vA ?_
  refine vn (hK1 _ _ ?_)
  refine vs fun K2 hK2 => vR [(0, _), (1, _), (2, _), (3, _), (4, _), (5, _), (6, _)] ?_
  refine vM ?_
  refine vM ?_
  refine Wl.call rfl rfl rfl rfl Tryd.func11 rfl (by kernel_rfl) rfl (activeD _ active) ?_
  rintro x0 w1 ⟨rfl, rfl⟩
  refine ⟨_, rfl, ?_⟩
  refine vM ?_
  refine Wl.call rfl rfl rfl rfl Tryd.func19 rfl (by kernel_rfl) rfl (drawLog _ (hT.ext hE) A n c codes (ha.ext hE) (1 + active % 3) ⟨by omega, by omega⟩ rs) ?_
  rintro x1 w14 ⟨S, m, k, evs, rfl, hIO, hok, hm37, hx14⟩
  refine ⟨_, rfl, ?_⟩
  have hml := hIO.len
  replace hE := hE.trans hx14
  refine Wl.call rfl rfl rfl rfl Tryd.func31 rfl (by kernel_rfl) rfl (fmtQ _ (1 + active % 3) (rs % 1000) S m k evs (hIO.sl (P := fun _ => True) fun _ _ => trivial)) ?_
  rintro x2 w15 ⟨S1, m1, k1, rfl, hO1, hx15⟩
  refine ⟨_, rfl, ?_⟩
  have hzE := hE.size
  obtain ⟨hlo, hlb, hl11⟩ := drawn_ok (act := 1 + active % 3) (rs := rs) ⟨by omega, by omega⟩ hok (by omega)
  rw [fmt_ok hlo (by omega)] at hO1 ⊢
  replace hO1 := hO1.mono hzE
  have hm1 := hO1.len
  have hm1b : 11 ≤ m1 ∧ m1 ≤ 5200 := ⟨by rw [← hm1]; exact hl11, by rw [← hm1]; exact hlb⟩
  obtain ⟨g, rfl, hgb, hgl⟩ := own_head hO1 (by omega)
  generalize lgB ⟨1 + active % 3, rs % 1000, evs⟩ = b0 at *
  replace hE := hE.trans hx15
  refine vM ?_
  refine vl (Gives.extract rfl rfl rfl) ?_
  refine vl (Gives.extract rfl rfl rfl) ?_
  refine vA ?_
  refine vA ?_
  refine vn (hK2 _ _ ?_)
  refine Wc.joinC (ι := List UInt8) [(5, _), (6, _), (15, _)] (fun _ => []) (fun l wr => OB wr w.heap.size 5 (some ⟨g, 0, none⟩) m1 k1 l ∧ Ext w wr) ?_ ?_ (.cons rfl (.cons rfl (.cons rfl (.nil))))
  · intro K3 hJ3
    refine vs fun K4 hK4 => vR [(3, _), (4, _), (5, _), (6, _), (15, _)] ?_
    refine vA ?_
    refine vn (hK4 _ _ ?_)
    refine Wc.block ?_
    refine vK [(3, _), (4, _), (5, _), (6, _), (15, _), (17, _)] ?_
    refine Wc.loopC (ι := Nat × List UInt8) [(3, _), (4, _), (5, _), (6, _), (15, _)] (fun | (i, _) => [(17, .int .i64 (i : Int))]) (fun | (i, l), wr => i ≤ 2 ∧ OB wr w.heap.size 5 (some ⟨g, 0, none⟩) m1 k1 l ∧ Ext w wr) (fun | (i, _) => 2 - i) ((0, b0)) (.co (.cons rfl (.cons rfl (.cons rfl (.cons rfl (.cons rfl (.nil))))))) (⟨by omega, hO1, hE⟩) ?_
    intro ⟨i, l⟩ wr hJ KL1 hKL1
    clear hE hO1
    obtain ⟨hi, hO, hE⟩ := hJ
    refine Wc.seq (fun K5 hK5 => ?_)
    refine vs fun K6 hK6 => vR [(3, _), (4, _), (5, _), (6, _), (15, _), (17, _)] ?_
    refine vM ?_
    refine vM ?_
    refine vl (Gives.lenS rfl Tryd.underlying51 rfl) ?_
    refine vl (Gives.lss rfl rfl rfl) ?_
    refine vM ?_
    refine Wl.guard rfl rfl rfl (fun h31 => ?_) (fun h31 => ?_)
    · first | replace h31 := dT h31 | replace h31 := nT h31 | skip
      refine vM ?_
      refine vM ?_
      refine vl (Gives.lenS rfl Tryd.underlying22 rfl) ?_
      refine vl (Gives.lss rfl rfl rfl) ?_
      refine vT ?_
      refine vM ?_
      refine Wl.guard rfl rfl rfl (fun h37 => ?_) (fun h37 => ?_)
      · first | replace h37 := dT h37 | replace h37 := nT h37 | skip
        refine vM ?_
        refine vl (Gives.lss rfl rfl rfl) ?_
        refine vT ?_
        refine vn (hK6 _ _ ?_)
        refine Wc.cond _ rfl (fun h40 => ?_) (fun h40 => ?_)
        · first | replace h40 := dT h40 | replace h40 := nT h40 | skip
          refine Wc.skip ?_
          refine Wx.thenN (hK5 _ _ ?_)
          refine Wc.seq (fun K7 hK7 => ?_)
          refine Wc.block ?_
          refine vK [(3, _), (4, _), (5, _), (6, _), (15, _), (17, _)] ?_
          refine Wc.regionD (fun _ => true) Eq (.read 0 (.read 1 (.read 2 (.read 3 (.read 4 (.read 5 (.read 6 (.read 7 (.read 8 (.read 9 (.read 10 (.read 11 .tail)))))))))))) 12 (by kernel_rfl) (by kernel_rfl) (by kernel_rfl) (fun _ => rfl) (fun _ _ _ h k => h.trans k) Quiet ⟨1, rfl⟩ ?_
          intro w5 hR5
          replace hE := hE.trans hR5.ext
          replace hO := hO.ext hR5.ext
          obtain ⟨ib, io, rfl, hib, _, hic⟩ := (Row.ext hb hE).2.2.2 (by omega)
          obtain ⟨z, hz⟩ : ∃ z, zs[i]? = some z := ⟨_, List.getElem?_eq_getElem (by omega)⟩
          have hcz := hic i (.int .i64 z) (by rw [List.getElem?_map, hz]; rfl)
          obtain ⟨y, hy⟩ := at_some (l := ys) (k := i) (by omega)
          obtain ⟨gy, oy, rfl, hgy⟩ := hc.hd (by omega)
          have hz0 := Int.emod_nonneg z (show (m1 : Int) ≠ 0 by omega)
          have hz1 := Int.emod_lt_of_pos z (show (0 : Int) < (m1 : Int) by omega)
          refine rE rfl (Gives.move rfl rfl) ?_
          refine rE rfl (Gives.move rfl rfl) ?_
          refine rE rfl (Gives.move rfl rfl) ?_
          refine rE rfl (Gives.ixS (i := i) rfl Tryd.underlying51 (by kernel_rfl) rfl rfl (by omega) (by omega)) ?_
          refine rE rfl (Gives.ldC rfl (by kernel_rfl) rfl hcz) ?_
          refine rE rfl (Gives.move rfl rfl) ?_
          refine rE rfl (Gives.lenS rfl Tryd.underlying22 rfl) ?_
          refine rE rfl (Gives.call rfl Tryd.func12 rfl (by kernel_rfl) rfl (mod_calls _ z (m1 : Int) (by omega) (by omega))) ?_
          refine rE rfl (Gives.move rfl rfl) ?_
          refine rE rfl (Gives.move rfl rfl) ?_
          refine rE rfl (Gives.ixS (i := i) rfl Tryd.underlying22 (by kernel_rfl) rfl rfl (by omega) (by omega)) ?_
          refine rE rfl (Gives.ldC rfl (by kernel_rfl) rfl ((hc.ext hE).cellAt hy)) ?_
          refine RunE.tail rfl ?_
          refine vl (Gives.ixS (i := (z % (m1 : Int)).toNat) rfl Tryd.underlying22 (by kernel_rfl) rfl rfl (by omega) (by omega)) ?_
          refine Wl.acts rfl rfl (Does.stO (i := (z % (m1 : Int)).toNat) y rfl rfl rfl rfl hO (by kernel_rfl) (by omega)) ?_
          rintro _ w513 ⟨hO2, hF513⟩
          replace hE := Ext.over hE hF513 hgb
          refine Wl.nil ?_
          refine Wx.blockN ?_
          refine Wx.thenN (hK7 _ _ ?_)
          refine vR [(3, _), (4, _), (5, _), (6, _), (15, _), (17, _)] ?_
          refine vM ?_
          refine vAdd ?_
          refine vA ?_
          refine Wl.nil ?_
          refine Wx.thenN ?_
          exact hKL1 (i + 1, _) _ _ (.co (.cons rfl (.cons rfl (.cons rfl (.cons rfl (.cons rfl (.nil))))))) ⟨by omega, hO2, hE⟩ (by show 2 - (i + 1) < 2 - i; omega)
        first | replace h40 := dF h40 | replace h40 := nF h40 | skip
        refine Wc.exit ?_
        refine Wx.thenE ?_
        refine Wx.thenE ?_
        refine Wx.hit ?_
        refine Wx.thenN ?_
        exact hJ3 l _ _ (.cons rfl (.cons rfl (.cons rfl (.nil)))) ⟨hO, hE⟩
      first | replace h37 := dF h37 | replace h37 := nF h37 | skip
      refine vP ?_
      refine vP ?_
      refine vU ?_
      refine vn (hK6 _ _ ?_)
      refine Wc.condF rfl rfl ?_
      refine Wc.exit ?_
      refine Wx.thenE ?_
      refine Wx.thenE ?_
      refine Wx.hit ?_
      refine Wx.thenN ?_
      exact hJ3 l _ _ (.cons rfl (.cons rfl (.cons rfl (.nil)))) ⟨hO, hE⟩
    first | replace h31 := dF h31 | replace h31 := nF h31 | skip
    refine vP ?_
    refine vP ?_
    refine vP ?_
    refine vP ?_
    refine vU ?_
    refine vM ?_
    refine Wl.guardF rfl rfl rfl rfl ?_
    refine vP ?_
    refine vP ?_
    refine vU ?_
    refine vn (hK6 _ _ ?_)
    refine Wc.condF rfl rfl ?_
    refine Wc.exit ?_
    refine Wx.thenE ?_
    refine Wx.thenE ?_
    refine Wx.hit ?_
    refine Wx.thenN ?_
    exact hJ3 l _ _ (.cons rfl (.cons rfl (.cons rfl (.nil)))) ⟨hO, hE⟩
  intro l wj hJ
  clear hE hO1
  obtain ⟨hO, hE⟩ := hJ
  have hzj := hE.size
  refine Wc.joinC (ι := (Option Addr × Nat × Nat) × List UInt8) [] (fun | ((S, m, k), _) => [(15, .slice S m k)]) (fun | ((S, m, k), b), wr => m ≤ 5300 ∧ BV wr (fun q => w.heap.size ≤ q) S m k b ∧ Ext w wr) ?_ ?_ (.nil)
  · intro K8 hJ8
    refine vs fun K9 hK9 => vR [(5, _), (6, _), (15, _)] ?_
    refine vM ?_
    refine Wl.call rfl rfl rfl rfl Tryd.func12 rfl (by kernel_rfl) rfl (mod_calls _ cut 4 (by omega) (by omega)) ?_
    rintro x3 w61 ⟨rfl, rfl⟩
    refine ⟨_, rfl, ?_⟩
    refine vn (hK9 _ _ ?_)
    refine Wc.block ?_
    refine vs fun K10 hK10 => vR [(5, _), (6, _), (15, _), (57, _)] ?_
    refine vl (Gives.eql rfl rfl rfl) ?_
    refine vA ?_
    refine vn (hK10 _ _ ?_)
    refine Wc.cond _ rfl (fun h58 => ?_) (fun h58 => ?_)
    · first | replace h58 := dT h58 | replace h58 := nT h58 | skip
      refine vR [(5, _), (15, _)] ?_
      refine vM ?_
      refine vM ?_
      refine vl (Gives.shrN 2 rfl rfl rfl rfl rfl) ?_
      refine vM ?_
      refine vl (Gives.lenS rfl Tryd.underlying22 rfl) ?_
      refine vAdd ?_
      refine Wl.call rfl rfl rfl rfl Tryd.func12 rfl (by kernel_rfl) rfl (modN _ _ _ (m1 + 1) (by omega) (by omega) (by omega)) ?_
      rintro x4 w86 ⟨j, hj, rfl, rfl⟩
      refine ⟨_, rfl, ?_⟩
      refine vl (Gives.cutHi rfl Tryd.underlying22 (by kernel_rfl) rfl j rfl rfl (by have := hO.le; omega)) ?_
      refine vA ?_
      refine Wl.nil ?_
      refine Wx.blockN ?_
      refine Wx.thenN ?_
      first | exact hJ8 ((_, _, _), _) _ _ (.co (.nil)) ⟨by omega, hO2.bv (fun _ h => h), hE⟩ | exact hJ8 ((_, _, _), _) _ _ (.co (.nil)) ⟨by omega, (hO.bv (fun _ h => h)).take (k := j) (by omega), hE⟩ | exact hJ8 ((_, _, _), _) _ _ (.co (.nil)) ⟨by omega, hO.bv (fun _ h => h), hE⟩
    first | replace h58 := dF h58 | replace h58 := nF h58 | skip
    refine vs fun K11 hK11 => vR [(6, _), (15, _), (57, _)] ?_
    refine vl (Gives.eql rfl rfl rfl) ?_
    refine vA ?_
    refine vn (hK11 _ _ ?_)
    refine Wc.cond _ rfl (fun h68 => ?_) (fun h68 => ?_)
    · first | replace h68 := dT h68 | replace h68 := nT h68 | skip
      refine vR [(6, _), (15, _)] ?_
      refine vM ?_
      refine vM ?_
      refine Wl.call rfl rfl rfl rfl Tryd.func25 rfl (by kernel_rfl) rfl (cutN_calls _ D dn dc hdle 40 rfl) ?_
      rintro x5 w102 ⟨rfl, rfl⟩
      refine ⟨_, rfl, ?_⟩
      refine Wl.does rfl rfl rfl (Does.appO rfl Tryd.underlying22 infoB rfl rfl hO ((hd.cutS 40).ext hE) (by omega) hzj) ?_
      rintro _ w103 ⟨S2, k2, rfl, hO2, hB103⟩
      replace hE := Ext.step hE hB103 (by omega)
      refine vA ?_
      refine Wl.nil ?_
      refine Wx.blockN ?_
      refine Wx.thenN ?_
      first | exact hJ8 ((_, _, _), _) _ _ (.co (.nil)) ⟨by omega, hO2.bv (fun _ h => h), hE⟩ | exact hJ8 ((_, _, _), _) _ _ (.co (.nil)) ⟨by omega, (hO.bv (fun _ h => h)).take (k := j) (by omega), hE⟩ | exact hJ8 ((_, _, _), _) _ _ (.co (.nil)) ⟨by omega, hO.bv (fun _ h => h), hE⟩
    first | replace h68 := dF h68 | replace h68 := nF h68 | skip
    refine Wc.skip ?_
    refine Wx.blockN ?_
    refine Wx.thenN ?_
    first | exact hJ8 ((_, _, _), _) _ _ (.co (.nil)) ⟨by omega, hO2.bv (fun _ h => h), hE⟩ | exact hJ8 ((_, _, _), _) _ _ (.co (.nil)) ⟨by omega, (hO.bv (fun _ h => h)).take (k := j) (by omega), hE⟩ | exact hJ8 ((_, _, _), _) _ _ (.co (.nil)) ⟨by omega, hO.bv (fun _ h => h), hE⟩
  intro ⟨⟨S, m, k⟩, b⟩ wk hJ
  clear hE hO
  obtain ⟨hm, hB, hE⟩ := hJ
  refine vs fun K12 hK12 => vR [(15, _)] ?_
  refine vM ?_
  refine vA ?_
  refine vn (hK12 _ _ ?_)
  refine Wc.ret ?_
  refine Wx.ret [_] ⟨rfl, trivial⟩ ?_
  exact ⟨S, m, k, b, rfl, hB, hm, hE⟩
end Go.Proofs.YtnbgieccindpnaaDoor
