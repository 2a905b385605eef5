/- WireTrip: the walk. -/
import Derived.Test.YtbdiodibeiohlaaTripS
namespace Go.Proofs.Ytbdiodibeiohlaa
set_option linter.all false
open Go.RowKit
theorem infoI : (Try.prog.info? 3).map (fun i => (i.zero, i.size, i.bytes)) = some (some (.int .i64 0), 1, 8) := by kernel_rfl
theorem ints_one (l : List Int) : ∀ u ∈ ints l, u.oneCell' = true := by intro u hu; obtain ⟨_, _, rfl⟩ := List.mem_map.1 hu; rfl
theorem ints_append (l r : List Int) : ints l ++ ints r = ints (l ++ r) := by simp [ints]
/-- integers onto a row of the call's own: only that row's block turns -/
theorem wpList_appI {P : Program} {ops : Array Oper} {rest : List Oper} {o : Oper} {a : Act} {Q : Exit → Act → World → Prop} {S : Nat → Prop} {w : World} (hgd : Region.wanted o (yielded ops a.tmps) = true) (s x : Operand) (t : TypeId)
    (ho : o.op = .call { callee := .builtin .append, args := #[s, x], argTypes := #[t, t] })
    (e : TypeId) (hinf : (P.info? e).map (fun i => (i.zero, i.size, i.bytes)) = some (some (.int .i64 0), 1, 8)) (ht : P.underlying t = some (.slice e))
    (base : Nat) (B : Option Addr) (n sc : Nat) (l : List Int) (hs : a.eval s = .slice B n sc) (hown : w.ownsRow base e 1 (.slice B n sc) n (ints l))
    (A : Option Addr) (m c : Nat) (r : List Int) (hx : a.eval x = .slice A m c) (hr : Row w S 1 A m c (ints r))
    (hbytes : n + m ≤ 1000000) (hb : base ≤ w.heap.size)
    (h : ∀ B' sc' w', w'.ownsRow base e 1 (.slice B' (n + m) sc') (n + m) (ints (l ++ r)) → w.grownBy w' (Value.ownBlock (.slice B n sc)) → (Value.ownBlock (.slice B' (n + m) sc') = Value.ownBlock (.slice B n sc) ∨ Value.ownBlock (.slice B' (n + m) sc') = some w.heap.size) → wpList P ops Q rest (a.put o.dst (.slice B' (n + m) sc')) w') :
    wpList P ops Q (o :: rest) a w := by
  obtain ⟨i, hi, hz0, hz1, hz2⟩ := info_parts hinf
  exact BigFrame.wpList_want hgd fun K hK => wp_app w s x t ho base e i _ 1 8 ht hi hz0 hz1 hz2 rfl (by decide) B n sc (ints l) hs hown A m c (ints r) hx hr (ints_one r) (by omega) (by decide) hb
    fun B' sc' w' h1 h2 h3 => hK _ _ (h B' sc' w' (by rw [ints_append] at h1; exact h1) h2 h3)
/-- What stands when so many numbers are written. -/
structure TripA (w0 w : World) (S : Option Addr) (n k : Nat) (W : Option Addr) (m kc : Nat) (ps : List (Nat × Int)) : Prop where
  good : ∀ p ∈ ps, GoodP p
  b : BV w (fun k => Value.ownBlock (.slice W m kc) ≠ some k) S n k (encP ps)
  own : w.ownsRow w0.heap.size 3 1 (.slice W m kc) m (ints (wantP ps))
  ext : Ext w0 w
theorem Fr.grown {w w' : World} {row : Option Nat} {P : Nat → Prop} (h : w.grownBy w' row) (hp : ∀ k, P k → k < w.heap.size → row ≠ some k) : Fr P w w' :=
  ⟨h.os, h.tape, h.output, h.size, fun k hk hP => h.block k hk (fun e => hp k hP hk e.symm)⟩
theorem TripA.step {w0 wr w1 w2 : World} {o : Obj} {S S1 W W' : Option Addr} {n k m kc n1 k1 kc' s : Nat} {v : Int} {ps : List (Nat × Int)} (h : TripA w0 wr S n k W m kc ps)
    (hO : OB w1 wr.heap.size 5 S1 n1 k1 (uintS (encP ps) s v)) (hE : Ext wr w1) (hg : GoodP (s, v)) (hown : w2.ownsRow w0.heap.size 3 1 (.slice W' (m + 2) kc') (m + 2) (ints (wantP ps ++ [(s : Int), v])))
    (hgr : (w1.alloc o).grownBy w2 (Value.ownBlock (.slice W m kc))) (hblk : Value.ownBlock (.slice W' (m + 2) kc') = Value.ownBlock (.slice W m kc) ∨ Value.ownBlock (.slice W' (m + 2) kc') = some (w1.alloc o).heap.size) :
    TripA w0 w2 S1 n1 k1 W' (m + 2) kc' (ps ++ [(s, v)]) := by
  have hz : (w1.alloc o).heap.size = w1.heap.size + 1 := by simp
  have hold : ∀ k, Value.ownBlock (.slice W m kc) = some k → k < wr.heap.size := fun k hk => (h.own.lt k hk).2
  refine ⟨fun p hp => ?_, ?_, ?_, ?_⟩
  · rcases List.mem_append.1 hp with hp | hp
    · exact h.good p hp
    · simp at hp; subst hp; exact hg
  · have hu : uintS (encP ps) s v = encP (ps ++ [(s, v)]) := by
      rw [encP_app]; unfold uintS
      have h1 := hg.1; have h2 := hg.2.1
      simp only at h1 h2
      rw [if_pos (by omega)]; simp [encP]
    rw [hu] at hO
    have hb : BV w1 (fun k => wr.heap.size ≤ k ∧ k < w1.heap.size) S1 n1 k1 _ := (OB.bv (P := fun k => wr.heap.size ≤ k) hO (fun k hk => hk)).offs _ (fun k hk hlt => ⟨hk, hlt⟩)
    refine ((hb.ext ((Ext.refl w1).alloc o)).fr (Fr.grown hgr fun k hk _ e => by have := hold k e; omega)).mono fun k hk e => ?_
    rcases hblk with hb' | hb'
    · rw [hb'] at e; have := hold k e; omega
    · rw [hb'] at e; injection e with e; omega
  · rw [wantP_app]; exact hown
  · exact Ext.trans h.ext (Ext.trans hE (Ext.trans ((Ext.refl w1).alloc o) (Ext.refl _))) |>.grown hgr (fun k hk => (h.own.lt k hk).1)
theorem lit2i (w : World) (t : TypeId) (x y : Int) : Row (w.alloc (.cells #[.int .i64 x, .int .i64 y] t)) (fun _ => True) 1 (some ⟨w.heap.size, 0, none⟩) 2 2 (ints [x, y]) := by
  refine Row.of_own (base := w.heap.size) (e := t) ?_ (fun _ _ => trivial)
  have h := World.ownsRow_lit (e := t) (size := 1) (base := w.heap.size) w #[.int .i64 x, .int .i64 y] 2 (Nat.le_refl _) (by simp [maxLen]) (by simp)
  simpa [ints] using h
theorem good8 (z : Int) : GoodP (8, bits BinOp.and IntKind.i64 z 4611686018427387903) := by
  have h := bits_and_i64 z 4611686018427387903 (by omega) (by omega)
  exact ⟨by show 1 ≤ 8; omega, by show 8 ≤ 8; omega, h.1, by show _ < (4611686018427387904 : Int); omega, by show _ < (256 : Int) ^ 8; omega⟩
theorem good_s (z : Int) (q : Nat) (h7 : (q : Int) % 8 < 7) : GoodP (1 + q % 8, bits BinOp.and IntKind.i64 z (wrap64 (wrap64 (2 ^ (8 * (1 + q % 8))) - 1))) := by
  have h8 : q % 8 < 7 := by omega
  generalize q % 8 = r at *
  have hp : (2 : Int) ^ (8 * (1 + r)) = (256 : Int) ^ (1 + r) := by rw [Int.pow_mul]; rfl
  have hle : (256 : Int) ^ (1 + r) ≤ 256 ^ 7 := by
    have : (256 : Nat) ^ (1 + r) ≤ 256 ^ 7 := Nat.pow_le_pow_right (by omega) (by omega)
    have e : ((256 ^ (1 + r) : Nat) : Int) = (256 : Int) ^ (1 + r) := by simp
    omega
  have hge : (1 : Int) ≤ (256 : Int) ^ (1 + r) := by
    have : 1 ≤ (256 : Nat) ^ (1 + r) := Nat.one_le_pow _ _ (by omega)
    have e : ((256 ^ (1 + r) : Nat) : Int) = (256 : Int) ^ (1 + r) := by simp
    omega
  have e7 : (256 : Int) ^ 7 = 72057594037927936 := by decide
  rw [e7] at hle
  have hw : wrap64 (wrap64 (2 ^ (8 * (1 + r))) - 1) = (256 : Int) ^ (1 + r) - 1 := by
    rw [hp]; generalize (256 : Int) ^ (1 + r) = p at *; unfold wrap64; omega
  rw [hw]
  have h := bits_and_i64 z ((256 : Int) ^ (1 + r) - 1) (by omega) (by omega)
  exact ⟨by simp only []; omega, by simp only []; omega, h.1, by simp only []; omega, by simp only []; omega⟩
theorem BL.at' {w : World} {P : Nat → Prop} {n c k : Nat} {A : Option Addr} {ls : List (List UInt8)} (h : BL w P A n c ls) (hk : k < n) :
    ∃ b off l A' n' c', A = some ⟨b, off, none⟩ ∧ ls[k]? = some l ∧ b < w.heap.size ∧ w.cell? ⟨b, off + k, none⟩ = some (.slice A' n' c') ∧ BV w P A' n' c' l := by
  have hlen := h.len
  obtain ⟨vs, hr, he⟩ := h
  obtain ⟨b, off, rfl, hb, _, hc⟩ := hr.2.2.2 (by omega)
  have hl : k < ls.length := by omega
  obtain ⟨A', n', c', hv, hbv⟩ := he.2 k _ (List.getElem?_eq_getElem hl)
  exact ⟨b, off, ls[k], A', n', c', rfl, List.getElem?_eq_getElem hl, hb, hc k _ hv, hbv⟩
theorem IV.offs {w : World} {P : Nat → Prop} {n c : Nat} {A : Option Addr} {l : List Int} (h : IV w P A n c l) (P' : Nat → Prop) (hp : ∀ k, P k → k < w.heap.size → P' k) : IV w P' A n c l :=
  ⟨h.1, h.2.1, h.2.2.1, fun hn => let ⟨b, off, hA, hb, hP, hc⟩ := h.2.2.2 hn; ⟨b, off, hA, hb, hp b hP hb, hc⟩⟩
theorem take_more {α : Type} {l : List α} {k : Nat} {x : α} (h : l[k]? = some x) : l.take (k + 1) = l.take k ++ [x] := by
  have hk := (List.getElem?_eq_some_iff.1 h).1
  rw [List.take_succ_eq_append_getElem hk]
  have := (List.getElem?_eq_some_iff.1 h).2
  rw [this]
theorem blobS_trip (ps : List (Nat × Int)) (ls : List (List UInt8)) (l : List UInt8) (h : l.length ≤ 200) : blobS (encP ps ++ encB ls) l = encP ps ++ encB (ls ++ [l]) := by
  rw [encB_app]
  unfold blobS uintS
  rw [Nat.min_eq_left (by omega), List.take_of_length_le (by omega), if_pos (by omega)]
  simp [encB]
theorem encB_len (ls : List (List UInt8)) (h : ∀ l ∈ ls, l.length ≤ 200) : (encB ls).length ≤ 202 * ls.length := by
  induction ls with
  | nil => simp [encB]
  | cons x r ih =>
    have h1 := ih (fun p hp => h p (List.mem_cons_of_mem _ hp))
    have h2 := h x List.mem_cons_self
    simp only [encB, List.length_append, beS_len, List.length_cons]
    omega
set_option maxHeartbeats 1000000 in
theorem wireTrip_walk {P P2 P3 : Nat → Prop} (w : World) (Z : Option Addr) (zn zc : Nat) (zs : List Int) (hz : IV w P3 Z zn zc zs) (K : Option Addr) (kn kc : Nat) (ks : List UInt8) (hk : BV w P2 K kn kc ks) (L : Option Addr) (ln lc : Nat) (ls : List (List UInt8)) (hl : BL w P L ln lc ls) :
    Calls Try.prog 6 #[.slice Z zn zc, .slice K kn kc, .slice L ln lc] w fun e w' => e = .returned (.bool true) ∧ Ext w w' := by
  by_cases h8 : (12 : Int) < zn
  · go_enter Try.func6, Try.ntmps6
    go_wp2_with (go_at_call 9; go_loud (refine (awake_calls w).mono ?_; rintro e w1 ⟨rfl, hE1⟩))
    go_ret
    exact ⟨rfl, hE1⟩
  by_cases h60 : (8 : Int) < ln
  · go_enter Try.func6, Try.ntmps6
    go_wp2_with (go_at_call 9; go_loud (refine (awake_calls w).mono ?_; rintro e w1 ⟨rfl, hE1⟩))
    go_ret
    exact ⟨rfl, hE1⟩
  have hkl := hk.le
  go_enter Try.func6, Try.ntmps6
  go_wp2_with (go_at_call 9; go_loud (refine (awake_calls w).mono ?_; rintro e w1 ⟨rfl, hE1⟩))
  go_loopw [7, 8, 9] (fun b s i wr => ∃ (j : Nat) (S : Option Addr) (n k : Nat) (W : Option Addr) (m kc : Nat) (ps : List (Nat × Int)), j ≤ zn ∧ ps.length = j ∧ i = .int .i64 j ∧ b = .slice S n k ∧ s = .slice W m kc ∧ TripA w wr S n k W m kc ps) (fun _ _ i _ => zn - (intOf i).toNat)
  case atStart => exact ⟨0, none, 0, 0, none, 0, 0, [], Nat.zero_le _, rfl, rfl, rfl, rfl, by simp, BV.nil_ _ _, World.ownsRow_nil _ _ _ _, hE1⟩
  case round =>
    obtain ⟨j, S, n, k, W, m, kc', ps, hj, hpl, rfl, rfl, rfl, hA⟩ := hrel
    have HPL := Lib.hid hpl
    clear hpl hE1
    by_cases hlt : j < zn
    · obtain ⟨bz, oz, z, rfl, hzx, hzb, hzc0⟩ := hz.at' hlt
      have hzc : wr.cell? _ = _ := (hA.ext.cells.1 _ _ hzb).trans hzc0
      by_cases hjz : j < kn
      · obtain ⟨bk, ok, kd, rfl, hkx, hkb, hcell0⟩ := hk.at' hjz
        have hcell : wr.cell? _ = _ := (hA.ext.cells.1 _ _ hkb).trans hcell0
        have hq := kd.toNat_lt
        generalize kd.toNat = q at *
        by_cases hq7 : q % 8 = 7
        · have h7 : (q : Int) % 8 = 7 := by omega
          go_upto_region 16 with fail
          have hg := good8 z
          generalize bits BinOp.and IntKind.i64 z 4611686018427387903 = v at *
          have HG := Lib.hid hg
          clear hg
          have hlen : n ≤ 96 := by have h1 := hA.b.len; have h2 := encP_len ps hA.good; have := HPL.out; omega
          have hml : m ≤ 24 := by have h1 := hA.own.1; rw [show (ints (wantP ps)).length = 2 * ps.length by simp [ints, wantP_len]] at h1; have := HPL.out; omega
          go_wp2_with (first | (go_at_call 11; go_loud (refine (uint_calls wr S n k (encP ps) hA.b (by omega) 8 v).mono ?_; rintro e w1 ⟨S1, n1, k1, rfl, hO1, hE1⟩)) | (at_builtin; go_loud (refine wpList_appI rfl _ _ _ rfl _ infoI Try.underlying39 w.heap.size W m kc' (wantP ps) rfl (own_ext hA.own (hE1.alloc _)) (some ⟨w1.heap.size, 0, none⟩) 2 2 [(8 : Int), v] rfl (lit2i w1 _ _ _) (by omega) (by have := hA.ext.size; have := hE1.size; simp; omega) ?_; intro W' kc2 w2 hown2 hgr2 hblk2)))
          go_roundw
          case rel => exact ⟨j + 1, S1, n1, k1, W', m + 2, kc2, ps ++ [(8, v)], by omega, by simp [HPL.out], by go_num, rfl, rfl, hA.step hO1 hE1 HG.out hown2 hgr2 hblk2⟩
          case measure => simp [intOf]; omega
        · have h7 : (q : Int) % 8 < 7 := by omega
          have h70 : 0 ≤ (q : Int) % 8 := by omega
          go_upto_region 16 with fail
          have hg := good_s (bits BinOp.and IntKind.i64 z 4611686018427387903) q h7
          generalize bits BinOp.and IntKind.i64 (bits BinOp.and IntKind.i64 z 4611686018427387903) (wrap64 (wrap64 (2 ^ (8 * (1 + q % 8))) - 1)) = v at *
          have HG := Lib.hid hg
          have hcast : (1 + (q : Int) % 8) = ((1 + q % 8 : Nat) : Int) := by omega
          simp only [hcast]
          clear hg hcast
          generalize hs8 : 1 + q % 8 = s8 at *
          clear hs8 h7 h70
          have hs81 := HG.out.2.1
          simp only at hs81
          have hlen : n ≤ 96 := by have h1 := hA.b.len; have h2 := encP_len ps hA.good; have := HPL.out; omega
          have hml : m ≤ 24 := by have h1 := hA.own.1; rw [show (ints (wantP ps)).length = 2 * ps.length by simp [ints, wantP_len]] at h1; have := HPL.out; omega
          go_wp2_with (first | (go_at_call 11; go_loud (refine (uint_calls wr S n k (encP ps) hA.b (by omega) s8 v).mono ?_; rintro e w1 ⟨S1, n1, k1, rfl, hO1, hE1⟩)) | (at_builtin; go_loud (refine wpList_appI rfl _ _ _ rfl _ infoI Try.underlying39 w.heap.size W m kc' (wantP ps) rfl (own_ext hA.own (hE1.alloc _)) (some ⟨w1.heap.size, 0, none⟩) 2 2 [(s8 : Int), v] rfl (lit2i w1 _ _ _) (by omega) (by have := hA.ext.size; have := hE1.size; simp; omega) ?_; intro W' kc2 w2 hown2 hgr2 hblk2)))
          go_roundw
          case rel => exact ⟨j + 1, S1, n1, k1, W', m + 2, kc2, ps ++ [(s8, v)], by omega, by simp [HPL.out], by go_num, rfl, rfl, hA.step hO1 hE1 HG.out hown2 hgr2 hblk2⟩
          case measure => simp [intOf]; omega
      · go_upto_region 16 with fail
        have hg := good8 z
        generalize bits BinOp.and IntKind.i64 z 4611686018427387903 = v at *
        have HG := Lib.hid hg
        clear hg
        have hlen : n ≤ 96 := by have h1 := hA.b.len; have h2 := encP_len ps hA.good; have := HPL.out; omega
        have hml : m ≤ 24 := by have h1 := hA.own.1; rw [show (ints (wantP ps)).length = 2 * ps.length by simp [ints, wantP_len]] at h1; have := HPL.out; omega
        go_wp2_with (first | (go_at_call 11; go_loud (refine (uint_calls wr S n k (encP ps) hA.b (by omega) 8 v).mono ?_; rintro e w1 ⟨S1, n1, k1, rfl, hO1, hE1⟩)) | (at_builtin; go_loud (refine wpList_appI rfl _ _ _ rfl _ infoI Try.underlying39 w.heap.size W m kc' (wantP ps) rfl (own_ext hA.own (hE1.alloc _)) (some ⟨w1.heap.size, 0, none⟩) 2 2 [(8 : Int), v] rfl (lit2i w1 _ _ _) (by omega) (by have := hA.ext.size; have := hE1.size; simp; omega) ?_; intro W' kc2 w2 hown2 hgr2 hblk2)))
        go_roundw
        case rel => exact ⟨j + 1, S1, n1, k1, W', m + 2, kc2, ps ++ [(8, v)], by omega, by simp [HPL.out], by go_num, rfl, rfl, hA.step hO1 hE1 HG.out hown2 hgr2 hblk2⟩
        case measure => simp [intOf]; omega
    · obtain rfl : j = zn := by omega
      have HA := Lib.hid hA
      have hps := hA.good
      have HGS := Lib.hid hps
      have hlen : (encP ps).length ≤ 96 := by have h2 := encP_len ps hA.good; have := HPL.out; omega
      have hml : m ≤ 24 := by have h1 := hA.own.1; rw [show (ints (wantP ps)).length = 2 * ps.length by simp [ints, wantP_len]] at h1; have := HPL.out; omega
      have hW : Row wr (fun k => w.heap.size ≤ k) 1 W m kc' (ints (wantP ps)) := Row.of_own hA.own (fun _ hk => hk)
      have hb0 : BV wr (fun _ => True) S n k (encP ps ++ encB (ls.take 0)) := by have := hA.b.mono (P' := fun _ => True) (fun _ _ => trivial); simpa [encB] using this
      have hEr := hA.ext
      have hsm0 : ∀ l ∈ ls.take 0, l.length ≤ 200 := by simp
      have HLN := Lib.hid hlen
      have hm2 : m = 2 * ps.length := by have h1 := hA.own.1; rw [show (ints (wantP ps)).length = 2 * ps.length by simp [ints, wantP_len]] at h1; omega
      have HM2 := Lib.hid hm2
      clear hA hps hlen hm2
      go_wp2_with fail
      obtain ⟨wo, rfl⟩ : ∃ wo : World, wo = wr := ⟨_, rfl⟩
      go_loopw [7, 12] (fun b i w2 => ∃ (a : Nat) (S : Option Addr) (n k : Nat), a ≤ ln ∧ i = .int .i64 a ∧ b = .slice S n k ∧ BV w2 (fun _ => True) S n k (encP ps ++ encB (ls.take a)) ∧ (∀ l ∈ ls.take a, l.length ≤ 200) ∧ Ext wo w2) (fun _ i _ => ln - (intOf i).toNat)
      case atStart => exact ⟨0, S, n, k, Nat.zero_le _, rfl, rfl, hb0, hsm0, Ext.refl _⟩
      case round =>
        obtain ⟨a, S, n, k, ha, rfl, rfl, hb, hsm, hE2⟩ := hrel
        have HSM := Lib.hid hsm
        clear hsm hb0 hsm0
        by_cases hla : a < ln
        · obtain ⟨bl, ol, l, A', n', c', rfl, hlx, hlb, hlc0, hlv⟩ := hl.at' hla
          have hlc : wr.cell? _ = _ := ((hEr.trans hE2).cells.1 _ _ hlb).trans hlc0
          have HLX := Lib.hid hlx
          have HLL := Lib.hid hlv.len
          clear hlx
          by_cases h200 : (200 : Int) < n'
          · go_wp2
            go_ret
            exact ⟨rfl, hEr.trans hE2⟩
          · have hnn : n ≤ 2000 := by
              have h1 := hb.len
              have h2 := encB_len _ HSM.out
              have h3 := HLN.out
              have h4 : (ls.take a).length ≤ a := by rw [List.length_take]; omega
              rw [List.length_append] at h1; omega
            have hll : l.length ≤ 200 := by have := HLL.out; omega
            go_wp2_with (go_at_call 18; go_loud (refine (blob_calls wr S n k _ hb (by omega) A' n' c' l ((hlv.ext hEr).ext hE2) (by omega)).mono ?_; rintro e w5 ⟨S5, n5, k5, rfl, hO5, hE5⟩))
            go_roundw
            case rel => exact ⟨a + 1, S5, n5, k5, by omega, by go_num, rfl, by have h := OB.bv (P := fun _ => True) hO5 (fun _ _ => trivial); rw [blobS_trip _ _ _ hll, ← take_more HLX.out] at h; exact h, by rw [take_more HLX.out]; intro x hx; rcases List.mem_append.1 hx with hx | hx; exact HSM.out x hx; simp at hx; subst hx; exact hll, hE2.trans hE5⟩
            case measure => simp [intOf]; omega
        · obtain rfl : ln = a := by omega
          have hfull : ls.take ln = ls := List.take_of_length_le (by rw [hl.len]; exact Nat.le_refl _)
          rw [hfull] at hb HSM
          clear hfull
          generalize hB : encP ps ++ encB ls = B at *
          have HB := Lib.hid hB
          clear hB
          have hnn : n ≤ 2000 := by
            have h1 := hb.len
            have h2 := encB_len _ HSM.out
            have h3 := HLN.out
            have h4 := hl.len
            rw [← HB.out, List.length_append] at h1; omega
          have hW2 := hW.ext hE2
          go_wp2_with (go_at_call 13; go_loud (refine (newP_rd wr S n k B hb (by omega)).mono ?_; rintro e w3 ⟨g, A3, n3, c3, rfl, hg3, hR3, hE3⟩))
          have hWg : IV w3 (fun k => k ≠ g) W m kc' (wantP ps) := Row.ext (IV.offs hW2 _ (fun k _ hk => by omega)) hE3
          have hgw : w.heap.size ≤ g := by have := hEr.size; have := hE2.size; omega
          have hE := hEr.trans (hE2.trans hE3)
          have hWs : 0 < ps.length → ∃ bW oW, W = some ⟨bW, oW, none⟩ := fun hp => by obtain ⟨b, o, h, _⟩ := hWg.2.2.2 (by have := HM2.out; omega); exact ⟨b, o, h⟩
          have HWS := Lib.hid hWs
          have HWG := Lib.hid hWg
          have hn3 := Lib.hid hR3.2.1.len
          clear hWs hW hW2 hb HA hEr hE2 hE3
          go_wp2_with fail
          obtain ⟨wo2, rfl⟩ : ∃ wo2 : World, wo2 = wr := ⟨_, rfl⟩
          go_loopw [14] (fun i w2 => ∃ (a i2 : Nat), a ≤ ps.length ∧ Hid (i2 = 2 * a) ∧ i = .int .i64 i2 ∧ RD 50 w2 g A3 n3 c3 ⟨B, (encP (ps.take a)).length, 0⟩ ∧ IV w2 (fun k => k ≠ g) W m kc' (wantP ps) ∧ Ext w w2) (fun i _ => (30 : Nat) - (intOf i).toNat)
          case atStart => exact ⟨0, 0, Nat.zero_le _, Lib.hid rfl, rfl, hR3, HWG.out, hE⟩
          case round =>
            obtain ⟨a, i2, ha, hi2, rfl, hRR, hIV, hEw⟩ := hrel
            by_cases hap : a < ps.length
            · obtain ⟨bW, oW, rfl⟩ := HWS.out (by omega)
              have hat := wantP_at ps a hap
              rw [← hi2.out] at hat
              have hrd := trip_uint_at ps ls HGS.out a hap
              rw [HB.out] at hrd
              generalize hp : ps[a] = p at *
              obtain ⟨s, v⟩ := p
              simp only at hat hrd
              have HAT := Lib.hid hat
              have HRD := Lib.hid hrd
              clear hat hrd
              have hi2m : i2 + 1 < m := by have := hi2.out; have := HM2.out; omega
              go_upto_region 27 with fail
              refine wp_region_planG (Fr (fun k => k ≠ g)) (.read 0 (.read 1 (.read 2 (.read 3 (.read 4 (.read 6 (.read 7 (.read 8 (.read 9 (.read 10 (.call false 5 .tail .none))))))))))) 11 (by kernel_rfl) (by kernel_rfl) (by kernel_rfl) (Fr.refl _) (fun _ _ _ => Fr.trans) Ext (Ext.drew (Ext.refl _)) (fun wR hR => ?_)
              apply run_read rfl
              · intro w1 hS
                go_wp2
                exact rv_done rfl rfl
              try simp only [Act.put, List.setIfInBounds_toArray, List.set]
              apply run_read rfl
              · intro w1 hS
                go_wp2
                exact rv_done rfl rfl
              try simp only [Act.put, List.setIfInBounds_toArray, List.set]
              apply run_read rfl
              · intro w1 hS
                go_wp2
                exact rv_done rfl rfl
              try simp only [Act.put, List.setIfInBounds_toArray, List.set]
              apply run_read rfl
              · intro w1 hS
                go_wp2
                exact rv_done rfl rfl
              try simp only [Act.put, List.setIfInBounds_toArray, List.set]
              apply run_read rfl
              · intro w1 hS
                have hI := (hIV.ext hR).fr hS
                have hc0 := hI.cell HAT.out.1
                have hc1 := hI.cell HAT.out.2
                go_wp2_with (first | ((with_reducible (show wpList _ _ _ (⟨_, Op.load _ _, _, _, _, _⟩ :: _) _ _)); refine wpList_ldC rfl _ _ rfl _ rfl _ (by refine Eq.trans (Blk.cell (Blk.ext (by assumption) (by (with_reducible repeat (first | exact Ext.refl _ | refine Ext.alloc ?_ _ | refine Ext.drewN ?_ _ | refine Ext.trans ?_ (by assumption))))) _) ?_; rfl) (by kernel_rfl) ?_) | ((with_reducible (show wpList _ _ _ (⟨_, Op.load _ _, _, _, _, _⟩ :: _) _ _)); refine wpList_ldB rfl _ _ rfl _ rfl (by refine Blk.ext (by assumption) ?_; (with_reducible repeat (first | exact Ext.refl _ | refine Ext.alloc ?_ _ | refine Ext.drewN ?_ _ | refine Ext.trans ?_ (by assumption)))) (by kernel_rfl) (by kernel_rfl) ?_))
                exact rv_done rfl rfl
              try simp only [Act.put, List.setIfInBounds_toArray, List.set]
              apply run_read rfl
              · intro w1 hS
                go_wp2
                exact rv_done rfl rfl
              try simp only [Act.put, List.setIfInBounds_toArray, List.set]
              apply run_read rfl
              · intro w1 hS
                go_wp2
                exact rv_done rfl rfl
              try simp only [Act.put, List.setIfInBounds_toArray, List.set]
              apply run_read rfl
              · intro w1 hS
                go_wp2
                exact rv_done rfl rfl
              try simp only [Act.put, List.setIfInBounds_toArray, List.set]
              apply run_read rfl
              · intro w1 hS
                go_wp2
                exact rv_done rfl rfl
              try simp only [Act.put, List.setIfInBounds_toArray, List.set]
              apply run_read rfl
              · intro w1 hS
                have hI := (hIV.ext hR).fr hS
                have hc0 := hI.cell HAT.out.1
                have hc1 := hI.cell HAT.out.2
                go_wp2_with (first | ((with_reducible (show wpList _ _ _ (⟨_, Op.load _ _, _, _, _, _⟩ :: _) _ _)); refine wpList_ldC rfl _ _ rfl _ rfl _ (by refine Eq.trans (Blk.cell (Blk.ext (by assumption) (by (with_reducible repeat (first | exact Ext.refl _ | refine Ext.alloc ?_ _ | refine Ext.drewN ?_ _ | refine Ext.trans ?_ (by assumption))))) _) ?_; rfl) (by kernel_rfl) ?_) | ((with_reducible (show wpList _ _ _ (⟨_, Op.load _ _, _, _, _, _⟩ :: _) _ _)); refine wpList_ldB rfl _ _ rfl _ rfl (by refine Blk.ext (by assumption) ?_; (with_reducible repeat (first | exact Ext.refl _ | refine Ext.alloc ?_ _ | refine Ext.drewN ?_ _ | refine Ext.trans ?_ (by assumption)))) (by kernel_rfl) (by kernel_rfl) ?_))
                exact rv_done rfl rfl
              try simp only [Act.put, List.setIfInBounds_toArray, List.set]
              refine run_call1 rfl ?_ run_none
              go_wp2_with (first | (go_at_call 15; go_loud (refine (rUint_calls _ g A3 n3 c3 B _ 0 _ (hRR.fr hR)).mono ?_; rintro e w4 ⟨v4, r4, rfl, H4, hR4, hF4⟩; obtain ⟨rfl, rfl⟩ : v4 = v ∧ r4 = ⟨B, (encP (ps.take (a + 1))).length, 0⟩ := (by have := H4.out; rwa [HRD.out] at this))))
              refine nx_done rfl hF4 ?_
              try simp only [Act.put, List.setIfInBounds_toArray, List.set]
              refine run_tail rfl ?_
              go_wp2
              go_roundw
              case rel => exact ⟨a + 1, i2 + 2, by omega, Lib.hid (by have := hi2.out; omega), by go_num, hR4, (hIV.ext hR).fr hF4, Ext.past (hEw.trans hR) hF4 hgw⟩
              case measure => have := hi2.out; have := HM2.out; simp [intOf]; omega
            · obtain rfl : a = ps.length := by omega
              have hge : m ≤ i2 := by have := hi2.out; have := HM2.out; omega
              have hdm : decide (i2 < m) = false := by simp; omega
              have hRz : RD 50 wr g A3 n3 c3 ⟨B, (encP ps ++ encB (ls.take 0)).length, 0⟩ := by have h := hRR; rw [List.take_length] at h; simpa [encB] using h
              clear hRR
              go_wp2_with fail
              obtain ⟨wo3, rfl⟩ : ∃ wo3 : World, wo3 = wr := ⟨_, rfl⟩
              go_loopw [15] (fun i w2 => ∃ a : Nat, a ≤ ln ∧ i = .int .i64 a ∧ RD 50 w2 g A3 n3 c3 ⟨B, (encP ps ++ encB (ls.take a)).length, 0⟩ ∧ Ext w w2) (fun i _ => ln - (intOf i).toNat)
              case atStart => exact ⟨0, Nat.zero_le _, rfl, hRz, hEw⟩
              case round =>
                clear hRz hEw
                obtain ⟨b, hb, rfl, hRR, hEw⟩ := hrel
                by_cases hbl : b < ln
                · obtain ⟨bl, ol, l, A', n', c', rfl, hlx, hlb, hlc0, hlv⟩ := hl.at' hbl
                  have hrd := trip_blob_at ps ls HSM.out b l hlx
                  rw [HB.out] at hrd
                  have HRD := Lib.hid hrd
                  have HLX := Lib.hid hlx
                  clear hrd hlx
                  have hlc : wr.cell? _ = _ := (hEw.cells.1 _ _ hlb).trans hlc0
                  have hlvr : BV wr (fun k => k ≠ g) A' n' c' l := (hlv.offs _ (fun k _ hk => by omega)).ext hEw
                  go_upto_region 32 with fail
                  refine wp_region_planG (Fr (fun k => k ≠ g)) (.read 0 (.read 2 (.read 3 (.read 4 (.read 5 (.call false 1 .tail .none)))))) 6 (by kernel_rfl) (by kernel_rfl) (by kernel_rfl) (Fr.refl _) (fun _ _ _ => Fr.trans) Ext (Ext.drew (Ext.refl _)) (fun wR hR => ?_)
                  apply run_read rfl
                  · intro w1 hS
                    go_wp2
                    exact rv_done rfl rfl
                  try simp only [Act.put, List.setIfInBounds_toArray, List.set]
                  apply run_read rfl
                  · intro w1 hS
                    go_wp2
                    exact rv_done rfl rfl
                  try simp only [Act.put, List.setIfInBounds_toArray, List.set]
                  apply run_read rfl
                  · intro w1 hS
                    go_wp2
                    exact rv_done rfl rfl
                  try simp only [Act.put, List.setIfInBounds_toArray, List.set]
                  apply run_read rfl
                  · intro w1 hS
                    go_wp2
                    exact rv_done rfl rfl
                  try simp only [Act.put, List.setIfInBounds_toArray, List.set]
                  apply run_read rfl
                  · intro w1 hS
                    have hc0 : w1.cell? _ = _ := World.cell?_of_block (w := wR) (hS.block bl (Nat.lt_of_lt_of_le (Nat.lt_of_lt_of_le hlb hEw.size) hR.size) (by omega)) |>.trans ((hR.cells.1 _ _ (Nat.lt_of_lt_of_le hlb hEw.size)).trans hlc)
                    go_wp2_with (first | ((with_reducible (show wpList _ _ _ (⟨_, Op.load _ _, _, _, _, _⟩ :: _) _ _)); refine wpList_ldC rfl _ _ rfl _ rfl _ (by refine Eq.trans (Blk.cell (Blk.ext (by assumption) (by (with_reducible repeat (first | exact Ext.refl _ | refine Ext.alloc ?_ _ | refine Ext.drewN ?_ _ | refine Ext.trans ?_ (by assumption))))) _) ?_; rfl) (by kernel_rfl) ?_) | ((with_reducible (show wpList _ _ _ (⟨_, Op.load _ _, _, _, _, _⟩ :: _) _ _)); refine wpList_ldB rfl _ _ rfl _ rfl (by refine Blk.ext (by assumption) ?_; (with_reducible repeat (first | exact Ext.refl _ | refine Ext.alloc ?_ _ | refine Ext.drewN ?_ _ | refine Ext.trans ?_ (by assumption)))) (by kernel_rfl) (by kernel_rfl) ?_))
                    exact rv_done rfl rfl
                  try simp only [Act.put, List.setIfInBounds_toArray, List.set]
                  refine run_call1 rfl ?_ run_none
                  go_wp2_with (first | (go_at_call 20; go_loud (refine (rBlob_calls _ g A3 n3 c3 B _ 0 _ (hRR.fr hR)).mono ?_; rintro e w4 ⟨S4, m4, k4, x4, r4, rfl, H4, hR4, hO4, hF4⟩; obtain ⟨rfl, rfl⟩ : x4 = l ∧ r4 = ⟨B, (encP ps ++ encB (ls.take (b + 1))).length, 0⟩ := (by have := H4.out; rwa [HRD.out] at this))))
                  refine nx_done rfl hF4 ?_
                  try simp only [Act.put, List.setIfInBounds_toArray, List.set]
                  refine run_tail rfl ?_
                  go_wp2_with (go_at_call 10; go_loud (refine (same_true _ _ _ _ _ _ _ _ (OB.bv (P := fun _ => True) hO4 (fun _ _ => trivial)) ((hlvr.ext hR).fr hF4)).mono ?_; rintro e w3 ⟨rfl, q3, rfl⟩))
                  go_roundw
                  case rel => exact ⟨b + 1, by omega, by go_num, hR4.fr (Ext.drewN (Ext.refl _) _), (Ext.past (hEw.trans hR) hF4 hgw).drewN _⟩
                  case measure => simp [intOf]; omega
                · obtain rfl : ln = b := by omega
                  have hpos : encP ps ++ encB (ls.take ln) = B := by rw [List.take_of_length_le (by rw [hl.len]; exact Nat.le_refl _)]; exact HB.out
                  rw [hpos] at hRR
                  clear hpos
                  have hleft : rdLeft ⟨B, B.length, 0⟩ = 0 := by simp [rdLeft]
                  have hend : rdEnd ⟨B, B.length, 0⟩ = 0 := by simp [rdEnd, rdLeft]
                  have HL := Lib.hid hleft
                  have HN := Lib.hid hend
                  clear hleft hend
                  go_wp2_with (first | (go_at_call 21; go_loud (refine (rLeft_calls _ g A3 n3 c3 B B.length 0 (hRR.fr (by with_reducible repeat (first | exact Ext.refl _ | refine Ext.alloc ?_ _ | refine Ext.drewN ?_ _ | refine Ext.trans ?_ (by assumption))))).mono ?_; rintro e w5 ⟨he, q7, rfl⟩; rw [HL.out] at he; subst he)) | (go_at_call 17; go_loud (refine (rErr_calls _ g A3 n3 c3 B B.length 0 (hRR.fr (by with_reducible repeat (first | exact Ext.refl _ | refine Ext.alloc ?_ _ | refine Ext.drewN ?_ _ | refine Ext.trans ?_ (by assumption))))).mono ?_; rintro e w6 ⟨rfl, rfl⟩)) | (go_at_call 22; go_loud (refine (rEnd_calls _ g A3 n3 c3 B B.length 0 (hRR.fr (by with_reducible repeat (first | exact Ext.refl _ | refine Ext.alloc ?_ _ | refine Ext.drewN ?_ _ | refine Ext.trans ?_ (by assumption))))).mono ?_; rintro e w3 ⟨he, q5, rfl⟩; rw [HN.out] at he; subst he)))
                  go_ret
                  exact ⟨rfl, (by with_reducible repeat (first | exact Ext.refl _ | refine Ext.alloc ?_ _ | refine Ext.drewN ?_ _ | refine Ext.trans ?_ (by assumption)))⟩
end Go.Proofs.Ytbdiodibeiohlaa
