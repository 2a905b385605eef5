/- The law's helpers: few, awake, play. -/
import Derived.Test.YthbpddblejnjjaaDiskR2
namespace Go.Proofs.Ythbpddblejnjjaa
set_option linter.all false
open Go.RowKit
set_option linter.unusedVariables false
set_option linter.unusedSimpArgs false

set_option maxHeartbeats 1000000 in
theorem few_calls {P : Nat → Prop} (w : World) (A : Option Addr) (n c : Nat) (ls : List (List UInt8)) (ha : BL w P A n c ls) :
    Calls Try.prog 10 #[.slice A n c] w fun e w' => ∃ b, e = .returned (.bool b) ∧ Hid (b = true → ls.length < 20 ∧ ∀ l ∈ ls, l.length ≤ 60) ∧ Ext w w' := by
  have hle := ha.le
  have hln := Lib.hid ha.len
  go_enter Try.func10, Try.ntmps10
  go_wp2
  go_loopw [3] (fun i wr => ∃ k : Nat, k ≤ n ∧ k ≤ 20 ∧ i = .int .i64 k ∧ Hid (∀ l ∈ ls.take k, l.length ≤ 60) ∧ Ext w wr) (fun i _ => n - (intOf i).toNat)
  case atStart => exact ⟨0, Nat.zero_le _, Nat.zero_le _, rfl, Lib.hid (by simp), Ext.refl _⟩
  case round =>
    obtain ⟨k, hk, hk2, rfl, hall, hE⟩ := hrel
    by_cases hlt : k < n
    · by_cases hlt2 : k < 20
      · obtain ⟨b, off, rfl, hl, A1, n1, c1, hc, hbv⟩ := (ha.ext hE).at_ hlt
        have hn1 := Lib.hid hbv.len
        by_cases h60 : 60 < n1
        · go_wp2
          go_ret
          exact ⟨false, rfl, Lib.hid (by simp), hE⟩
        · go_wp2
          go_roundw
          case rel =>
            refine ⟨k + 1, by omega, by omega, by go_num, Lib.hid ?_, hE⟩
            rw [List.take_succ_eq_append_getElem hl]
            intro l hl2
            rcases List.mem_append.1 hl2 with h | h
            · exact hall.out l h
            · simp only [List.mem_singleton] at h
              rw [h, hn1.out]; omega
          case measure => simp [intOf]; omega
      · have hk20 : k = 20 := by omega
        subst hk20
        have h20 : ¬ n < 20 := by omega
        go_wp2
        go_ret
        exact ⟨_, rfl, Lib.hid (by simp; omega), hE⟩
    · have hkn : k = n := by omega
      subst hkn
      go_wp2
      go_ret
      refine ⟨_, rfl, Lib.hid (fun hb => ⟨?_, ?_⟩), hE⟩
      · have h2 : (k : Int) < 20 := by simpa using hb
        rw [hln.out]; omega
      · have := hall.out
        rwa [List.take_of_length_le (by rw [hln.out]; exact Nat.le_refl _)] at this

/-- What play gives: some disk, small. -/
structure Small (d : Dk) (j : Nat) : Prop where
  w0 : 0 ≤ d.wr
  w1 : d.wr ≤ j
  lens : ∀ l ∈ d.areas, l.length ≤ 60 * j
def PlayI (w wr : World) (g1 j : Nat) (A : Option Addr) (n c : Nat) (d : Dk) : Prop :=
  Blk wr g1 27 #[.slice A n c, .int .i64 d.wr, .int .i64 d.ct, .int .i64 d.tn, .bool d.off] ∧ Blk wr w.heap.size 27 #[.slice none 0 0, .int .i64 0, .int .i64 0, .int .i64 0, .bool false] ∧
  BL wr (fun k => w.heap.size + 1 ≤ k ∧ k ≠ g1) A n c d.areas ∧ Small d j ∧ Ext w wr

theorem fill5 {w : World} {g : Nat} {t : TypeId} {a0 a1 a2 a3 a4 : Value} (v0 v1 v2 v3 v4 : Value) (h : Blk w g t #[a0, a1, a2, a3, a4]) : Blk (stores w g 0 [v0, v1, v2, v3, v4]) g t #[v0, v1, v2, v3, v4] := by
  have := ((((h.set_ 0 v0).set_ 1 v1).set_ 2 v2).set_ 3 v3).set_ 4 v4
  simpa [stores, List.set] using this
theorem Small.mono {d : Dk} {j k : Nat} (h : Small d j) (hk : j ≤ k) : Small d k := ⟨h.w0, by have := h.w1; omega, fun l hl => by have := h.lens l hl; omega⟩
/-- a disk's value -/
def dv (A : Option Addr) (n c : Nat) (d : Dk) : List Value := [.slice A n c, .int .i64 d.wr, .int .i64 d.ct, .int .i64 d.tn, .bool d.off]
theorem PlayI.store {w wr w2 : World} {g1 j k : Nat} {A A2 : Option Addr} {n c c2 : Nat} {d d2 : Dk} (h : PlayI w wr g1 j A n c d) (hb : BL w2 (fun k => w.heap.size + 1 ≤ k ∧ k ≠ g1) A2 n c2 d2.areas) (hE : Ext wr w2) (hg : w.heap.size < g1) (hs : Small d2 k) :
    PlayI w (stores w2 g1 0 (dv A2 n c2 d2)) g1 k A2 n c2 d2 := by
  obtain ⟨h1, h2, h3, h4, h5⟩ := h
  have hf : Fr (fun k => w.heap.size + 1 ≤ k ∧ k ≠ g1) w2 (stores w2 g1 0 (dv A2 n c2 d2)) := Fr.stores _ _ _ (Fr.refl _ _) (.inl (by omega))
  exact ⟨fill5 _ _ _ _ _ (h1.ext hE), Blk.stores _ _ _ (h2.ext hE) (by omega), hb.fr hf, hs, Ext.stores _ _ _ (h5.trans hE) (by omega)⟩

theorem PlayI.start {w w2 : World} {A : Option Addr} {n c : Nat} {d : Dk} (hB : Blk w2 w.heap.size 27 #[.slice none 0 0, .int .i64 0, .int .i64 0, .int .i64 0, .bool false]) (hb : BL w2 (fun k => w.heap.size + 1 ≤ k) A n c d.areas) (hE : Ext w w2) (hs : Small d 0) :
    PlayI w (w2.alloc (.cells #[.slice A n c, .int .i64 d.wr, .int .i64 d.ct, .int .i64 d.tn, .bool d.off] 27)) w2.heap.size 0 A n c d := by
  have hlt := hB.lt
  have hb2 : BL w2 (fun k => w.heap.size + 1 ≤ k ∧ k ≠ w2.heap.size) A n c d.areas := (hb.sep (hi := w2.heap.size + 1)).mono (fun k hk => by unfold Sep at hk; omega)
  exact ⟨Blk.new _ _ _, hB.alloc _, hb2.ext ((Ext.refl _).alloc _), hs, hE.alloc _⟩
theorem PlayI.ext {w wr w2 : World} {g1 j : Nat} {A : Option Addr} {n c : Nat} {d : Dk} (h : PlayI w wr g1 j A n c d) (hE : Ext wr w2) : PlayI w w2 g1 j A n c d := ⟨h.1.ext hE, h.2.1.ext hE, h.2.2.1.ext hE, h.2.2.2.1, h.2.2.2.2.trans hE⟩
theorem lit2 (w : World) (t : TypeId) (a b : Nat) (ha : a < 256) (hb : b < 256) : ∃ x, BV (w.alloc (.cells #[.int .u8 (a : Int), .int .u8 (b : Int)] t)) (fun _ => True) (some ⟨w.heap.size, 0, none⟩) 2 2 x := by
  refine ⟨[UInt8.ofNat a, UInt8.ofNat b], Row.of_own (base := w.heap.size) (e := t) ?_ (fun _ _ => trivial)⟩
  have h := World.ownsRow_lit (e := t) (size := 1) (base := w.heap.size) w #[.int .u8 (a : Int), .int .u8 (b : Int)] 2 (Nat.le_refl _) (by simp [maxLen]) (by simp)
  have h1 : ((UInt8.ofNat a).toNat : Int) = a := by simp only [UInt8.toNat_ofNat']; omega
  have h2 : ((UInt8.ofNat b).toNat : Int) = b := by simp only [UInt8.toNat_ofNat']; omega
  simp only [u8s, List.map, h1, h2]
  exact h
theorem Small.w1n {d : Dk} {j : Nat} (h : Small d j) (hj : j ≤ 16) : d.wr < 4611686018427387904 := by have := h.w1; omega
theorem Small.big {d : Dk} {j : Nat} (h : Small d j) (hj : j ≤ 16) : ∀ l ∈ d.areas, l.length ≤ 35184372088832 := fun l hl => by have := h.lens l hl; omega
theorem small_put {d : Dk} {j : Nat} {f : List UInt8 → Nat → List UInt8} {area : Int} {n : Nat} (h : Small d j) (hf : ∀ l k, l.length ≤ 60 * j → (f l k).length ≤ 60 * (j + 1)) : Small (putS f d area n) (j + 1) := by
  have h1 := h.mono (Nat.le_succ j)
  unfold putS
  split
  · exact h1
  · split
    · exact h1
    · split
      · exact h1
      · rename_i ha _ _
        refine ⟨by have := h.w0; simp only; omega, by have := h.w1; simp only; omega, fun l hl => ?_⟩
        rcases List.mem_or_eq_of_mem_set hl with hm | rfl
        · exact h1.lens l hm
        · apply hf
          rw [List.getD_eq_getElem?_getD]
          cases hx : d.areas[area.toNat]? with
          | none => simp
          | some y => exact h.lens y (List.mem_of_getElem? hx)
theorem small_write {d : Dk} {j : Nat} {area : Int} {x : List UInt8} (h : Small d j) (hx : x.length ≤ 60) : Small (writeS d area x) (j + 1) := small_put h fun l k hl => by
  unfold write1S
  rw [List.length_append, List.length_take]
  split
  · rw [List.length_drop]; omega
  · simp; omega
theorem small_append {d : Dk} {j : Nat} {area : Int} {x : List UInt8} (h : Small d j) (hx : x.length ≤ 60) : Small (appendS d area x) (j + 1) := small_put h fun l k hl => by
  unfold append1S
  rw [List.length_append, List.length_take]; omega
theorem small_restart {d : Dk} {j : Nat} (h : Small d j) : Small (restartS d) j := ⟨Int.le_refl _, by show (0 : Int) ≤ j; omega, h.lens⟩
theorem small_cut {d : Dk} {j : Nat} (h : Small d j) (a t : Int) : Small (cutDS d a t) j := ⟨h.w0, h.w1, h.lens⟩
theorem small_new (k a t : Int) : Small (cutDS (newS k) a t) 0 := ⟨Int.le_refl _, Int.le_refl _, fun l hl => by
  have : l ∈ List.replicate (min k.toNat 64) [] := hl
  rw [List.mem_replicate] at this
  rw [this.2]; simp⟩

theorem newR_calls' (P : Nat → Prop) (w : World) (hP : Anew w P) (k : Int) (n : Nat) (hn : min k.toNat 64 = n) : Calls Try.prog 23 #[.int .i64 k] w (DOne P w n (newS k)) := by
  subst hn; exact newR_calls P w hP k

set_option maxRecDepth 20000 in
set_option maxHeartbeats 2000000 in
theorem play_calls (P : Nat → Prop) (w : World) (hP : Anew w P) (k0 : Int) (O : Option Addr) (on oc : Nat) (ol : List UInt8) (ho : BV w P O on oc ol) (T : Option Addr) (tn tc : Nat) (ts : List (List UInt8)) (ht : BL w P T tn tc ts) (hts : ∀ l ∈ ts, l.length ≤ 60) (at' torn : Int) :
    Calls Try.prog 11 #[.int .i64 k0, .slice O on oc, .slice T tn tc, .int .i64 at', .int .i64 torn] w fun e w' =>
      ∃ A n c d, e = .returned (.agg #[.slice A n c, .int .i64 d.wr, .int .i64 d.ct, .int .i64 d.tn, .bool d.off]) ∧ n ≤ 64 ∧ Hid (Small d 16) ∧ BL w' P A n c d.areas ∧ Ext w w' := by
  have hole := ho.le
  obtain ⟨n, hn⟩ : ∃ n, min (bits BinOp.and IntKind.i64 k0 7).toNat 64 = n := ⟨_, rfl⟩
  have hn64 : n ≤ 64 := by omega
  have HN := Lib.hid hn
  clear hn
  have htle := ht.le
  go_enter Try.func11, Try.ntmps11
  go_wp2_with (first | (go_at_call 23; go_loud (refine (newR_calls' (fun k => w.heap.size + 1 ≤ k) _ (by intro k hk; simpa using hk) _ n HN.out).mono ?_; rintro e w1 ⟨A1, c1, d1, rfl, H1, hb1, hE1⟩; have hz1 := hE1.size; simp at hz1)) | (go_at_call 15; go_loud (refine (cutR_calls (fun k => w.heap.size + 1 ≤ k) w1 (by intro k hk; omega) A1 _ c1 d1 hb1 at' torn).mono ?_; rintro e w2 ⟨A2, c2, d2, rfl, H2, hb2, hE2⟩)))
  have hs2 : Small d2 0 := by rw [H2.out, H1.out]; exact small_new _ _ _
  have hI := PlayI.start (((Blk.new _ _ _).ext hE1).ext hE2) hb2 ((((Ext.refl w).alloc _).trans hE1).trans hE2) hs2
  have HG := Lib.hid (show w.heap.size < w2.heap.size by have := hE2.size; omega)
  refine wp_forget (fun w3 => PlayI w w3 w2.heap.size 0 A2 n c2 d2) hI ?_
  clear hI hE2 hE1 hb1 hb2 H1 H2
  intro w3 hI3
  go_loopw [12, 13, 14] (fun i _ _ wr => ∃ j : Nat, j ≤ 16 ∧ j ≤ on ∧ i = .int .i64 j ∧ ∃ A c d, Hid (PlayI w wr w2.heap.size j A n c d)) (fun i _ _ _ => 16 - (intOf i).toNat)
  case atStart => exact ⟨0, by omega, by omega, rfl, A2, c2, d2, Lib.hid hI3⟩
  case round =>
    obtain ⟨j, hj, hj2, rfl, A, c, d, HI⟩ := hrel
    obtain ⟨c0, c1', c2', c3, c4⟩ := HI.out.1.c5
    have f0 := HI.out.1.free
    obtain ⟨e0, e1, e2, e3, e4⟩ := HI.out.2.1.c5
    have g0 := HI.out.2.1.free
    have hzr := HI.out.1.lt
    by_cases hlt : j < on
    · by_cases hlt2 : j < 16
      · have hE := HI.out.2.2.2.2
        obtain ⟨b, off, rfl, hl, hcl⟩ := (ho.ext hE).at_ hlt
        obtain ⟨v, hv⟩ : ∃ v : Nat, ol[j].toNat = v := ⟨_, rfl⟩
        have hv2 : v < 256 := by rw [← hv]; exact ol[j].toNat_lt
        rw [hv] at hcl
        clear hv hE
        go_upto_region 7 with fail
        obtain ⟨x, hx⟩ := lit2 wr 5 v j hv2 (by omega)
        refine wp_forget (fun w5 => PlayI w w5 w2.heap.size j A n c d ∧ BV w5 (fun _ => True) (some ⟨wr.heap.size, 0, none⟩) 2 2 x) ⟨HI.out.ext ((Ext.refl _).alloc _), hx⟩ ?_
        rintro w5 ⟨hI5, hx5⟩
        clear c0 c1' c2' c3 c4 f0 e0 e1 e2 e3 e4 g0 hcl hx
        have HI5 := Lib.hid hI5
        have HX := Lib.hid hx5
        clear hI5 hx5
        have HAN : Hid (Anew w5 (fun k => w.heap.size + 1 ≤ k ∧ k ≠ w2.heap.size)) := Lib.hid (by intro k hk; have h1 := HI5.out.1.lt; have h2 := HG.out; omega)
        obtain ⟨c0, c1', c2', c3, c4⟩ := HI5.out.1.c5
        have f0 := HI5.out.1.free
        by_cases hj3 : j < tn
        · obtain ⟨b2, off2, rfl, hl2, A3, n3, c3', hc3, hbv3⟩ := (ht.ext HI5.out.2.2.2.2).at_ hj3
          have hm3 : n3 ≤ 60 := by have := hts _ (List.getElem_mem hl2); have := hbv3.len; omega
          have hln3 := hbv3.len
          have hb3' := hbv3.mono (P' := fun _ => True) (fun _ _ => trivial)
          go_wp2_with (first | (go_at_call 18; go_loud (refine (writeR_calls (fun k => w.heap.size + 1 ≤ k ∧ k ≠ w2.heap.size) w5 HAN.out A n c d HI5.out.2.2.1 hn64 _ n3 _ ts[j] hbv3 (by omega) _ HI5.out.2.2.2.1.w0 (HI5.out.2.2.2.1.w1n hj) (HI5.out.2.2.2.1.big hj)).mono ?_; rintro e w6 ⟨A6, c6, d6, e6, rfl, H6, hb6, hE6⟩; have HF := Lib.hid (PlayI.store HI5.out hb6 hE6 HG.out (by rw [H6.out.1]; exact small_write HI5.out.2.2.2.1 (by omega))); have f6 := (HI5.out.1.ext hE6).free; obtain ⟨k0', k1', k2', k3', k4'⟩ := (HI5.out.1.ext hE6).c5)) | (go_at_call 20; go_loud (refine (appendR_calls (fun k => w.heap.size + 1 ≤ k ∧ k ≠ w2.heap.size) w5 HAN.out A n c d HI5.out.2.2.1 hn64 _ n3 _ ts[j] hbv3 (by omega) _ HI5.out.2.2.2.1.w0 (HI5.out.2.2.2.1.w1n hj) (HI5.out.2.2.2.1.big hj)).mono ?_; rintro e w6 ⟨A6, c6, d6, e6, rfl, H6, hb6, hE6⟩; have HF := Lib.hid (PlayI.store HI5.out hb6 hE6 HG.out (by rw [H6.out.1]; exact small_append HI5.out.2.2.2.1 (by omega))); have f6 := (HI5.out.1.ext hE6).free; obtain ⟨k0', k1', k2', k3', k4'⟩ := (HI5.out.1.ext hE6).c5)) | (go_at_call 16; go_loud (refine (restartR_calls (fun k => w.heap.size + 1 ≤ k ∧ k ≠ w2.heap.size) w5 HAN.out A n c d HI5.out.2.2.1).mono ?_; rintro e w6 ⟨A6, c6, d6, rfl, H6, hb6, hE6⟩; have HF := Lib.hid (PlayI.store (k := j + 1) HI5.out hb6 hE6 HG.out (by rw [H6.out]; exact (small_restart HI5.out.2.2.2.1).mono (by omega))); have f6 := (HI5.out.1.ext hE6).free; obtain ⟨k0', k1', k2', k3', k4'⟩ := (HI5.out.1.ext hE6).c5)) | (go_at_call 15; go_loud (refine (cutR_calls (fun k => w.heap.size + 1 ≤ k ∧ k ≠ w2.heap.size) w5 HAN.out A n c d HI5.out.2.2.1 _ _).mono ?_; rintro e w6 ⟨A6, c6, d6, rfl, H6, hb6, hE6⟩; have HF := Lib.hid (PlayI.store (k := j + 1) HI5.out hb6 hE6 HG.out (by rw [H6.out]; exact (small_cut HI5.out.2.2.2.1 _ _).mono (by omega))); have f6 := (HI5.out.1.ext hE6).free; obtain ⟨k0', k1', k2', k3', k4'⟩ := (HI5.out.1.ext hE6).c5)))
          all_goals
            clear c0 c1' c2' c3 c4
            go_roundw
            case rel => exact ⟨j + 1, by omega, by omega, by go_num, A6, c6, d6, HF⟩
            case measure => simp [intOf]; omega
        · have hln3 := HX.out.len
          go_wp2_with (first | (go_at_call 18; go_loud (refine (writeR_calls (fun k => w.heap.size + 1 ≤ k ∧ k ≠ w2.heap.size) w5 HAN.out A n c d HI5.out.2.2.1 hn64 _ 2 _ x HX.out (by omega) _ HI5.out.2.2.2.1.w0 (HI5.out.2.2.2.1.w1n hj) (HI5.out.2.2.2.1.big hj)).mono ?_; rintro e w6 ⟨A6, c6, d6, e6, rfl, H6, hb6, hE6⟩; have HF := Lib.hid (PlayI.store HI5.out hb6 hE6 HG.out (by rw [H6.out.1]; exact small_write HI5.out.2.2.2.1 (by omega))); have f6 := (HI5.out.1.ext hE6).free; obtain ⟨k0', k1', k2', k3', k4'⟩ := (HI5.out.1.ext hE6).c5)) | (go_at_call 20; go_loud (refine (appendR_calls (fun k => w.heap.size + 1 ≤ k ∧ k ≠ w2.heap.size) w5 HAN.out A n c d HI5.out.2.2.1 hn64 _ 2 _ x HX.out (by omega) _ HI5.out.2.2.2.1.w0 (HI5.out.2.2.2.1.w1n hj) (HI5.out.2.2.2.1.big hj)).mono ?_; rintro e w6 ⟨A6, c6, d6, e6, rfl, H6, hb6, hE6⟩; have HF := Lib.hid (PlayI.store HI5.out hb6 hE6 HG.out (by rw [H6.out.1]; exact small_append HI5.out.2.2.2.1 (by omega))); have f6 := (HI5.out.1.ext hE6).free; obtain ⟨k0', k1', k2', k3', k4'⟩ := (HI5.out.1.ext hE6).c5)) | (go_at_call 16; go_loud (refine (restartR_calls (fun k => w.heap.size + 1 ≤ k ∧ k ≠ w2.heap.size) w5 HAN.out A n c d HI5.out.2.2.1).mono ?_; rintro e w6 ⟨A6, c6, d6, rfl, H6, hb6, hE6⟩; have HF := Lib.hid (PlayI.store (k := j + 1) HI5.out hb6 hE6 HG.out (by rw [H6.out]; exact (small_restart HI5.out.2.2.2.1).mono (by omega))); have f6 := (HI5.out.1.ext hE6).free; obtain ⟨k0', k1', k2', k3', k4'⟩ := (HI5.out.1.ext hE6).c5)) | (go_at_call 15; go_loud (refine (cutR_calls (fun k => w.heap.size + 1 ≤ k ∧ k ≠ w2.heap.size) w5 HAN.out A n c d HI5.out.2.2.1 _ _).mono ?_; rintro e w6 ⟨A6, c6, d6, rfl, H6, hb6, hE6⟩; have HF := Lib.hid (PlayI.store (k := j + 1) HI5.out hb6 hE6 HG.out (by rw [H6.out]; exact (small_cut HI5.out.2.2.2.1 _ _).mono (by omega))); have f6 := (HI5.out.1.ext hE6).free; obtain ⟨k0', k1', k2', k3', k4'⟩ := (HI5.out.1.ext hE6).c5)))
          all_goals
            clear c0 c1' c2' c3 c4
            go_roundw
            case rel => exact ⟨j + 1, by omega, by omega, by go_num, A6, c6, d6, HF⟩
            case measure => simp [intOf]; omega
      · have hj16 : j = 16 := by omega
        subst hj16
        go_wp2
        refine bodyPost_ret (v := .agg #[.slice A n c, .int .i64 d.wr, .int .i64 d.ct, .int .i64 d.tn, .bool d.off]) (by simp [results, Try.results11, go_sem, e0, e1, e2, e3, e4]) rfl ?_
        have hf : Fr (fun k => w.heap.size + 1 ≤ k ∧ k ≠ w2.heap.size) wr (stores wr w.heap.size 0 (dv A n c d)) := Fr.stores _ _ _ (Fr.refl _ _) (.inl (by omega))
        have hEf := Ext.stores (g := w.heap.size) (dv A n c d) 0 wr HI.out.2.2.2.2 (Nat.le_refl _)
        exact ⟨A, n, c, d, rfl, hn64, Lib.hid (HI.out.2.2.2.1.mono hj), (HI.out.2.2.1.fr hf).mono (fun k hk => hP k (by omega)), hEf⟩
    · have hjn : j = on := by omega
      subst hjn
      go_wp2
      refine bodyPost_ret (v := .agg #[.slice A n c, .int .i64 d.wr, .int .i64 d.ct, .int .i64 d.tn, .bool d.off]) (by simp [results, Try.results11, go_sem, e0, e1, e2, e3, e4]) rfl ?_
      have hf : Fr (fun k => w.heap.size + 1 ≤ k ∧ k ≠ w2.heap.size) wr (stores wr w.heap.size 0 (dv A n c d)) := Fr.stores _ _ _ (Fr.refl _ _) (.inl (by omega))
      have hEf := Ext.stores (g := w.heap.size) (dv A n c d) 0 wr HI.out.2.2.2.2 (Nat.le_refl _)
      exact ⟨A, n, c, d, rfl, hn64, Lib.hid (HI.out.2.2.2.1.mono hj), (HI.out.2.2.1.fr hf).mono (fun k hk => hP k (by omega)), hEf⟩
end Go.Proofs.Ythbpddblejnjjaa
