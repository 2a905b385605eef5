/- JrnB: merged. -/
import Derived.Test.YtbbeoojlgfegjaaDoorJrnA
import Derived.Test.YtbbeoojlgfegjaaDoorHashP4
import Derived.Test.YtbbeoojlgfegjaaDoorHashV3
import Derived.Test.YtbbeoojlgfegjaaDoorVc7
import Derived.Test.YtbbeoojlgfegjaaDoorWireQ2
import Derived.Test.YtbbeoojlgfegjaaDoorRef1
import Derived.Test.YtbbeoojlgfegjaaDoorOwn
import Derived.Test.YtbbeoojlgfegjaaDoorWireRB
import Derived.Test.YtbbeoojlgfegjaaDoorDraw
import Derived.Test.YtbbeoojlgfegjaaDoorDiskR2
/- Journals: frames, digests, records. -/
namespace Go.Proofs.YtbbeoojlgfegjaaDoor
set_option linter.all false
open Go.RowKit
theorem byteAt_gen (n : Nat) (k : Nat) (h : n < 18446744073709551616) : IntKind.u8.wrap ((n : Int) / 2 ^ (8 * k)) = ((byteAt ((n : Nat) : Int) k).toNat : Int) := by
  rw [wrap8, ← byteAt_int]
  have e : IntKind.u64.wrap ((n : Nat) : Int) = (n : Int) := by rw [IntKind.wrap_u64]; omega
  rw [e]
theorem byteAt_gen0 (n : Nat) (h : n < 18446744073709551616) : IntKind.u8.wrap (n : Int) = ((byteAt ((n : Nat) : Int) 0).toNat : Int) := by
  have := byteAt_gen n 0 h
  simpa using this
theorem bl2 {w : World} {P : Nat → Prop} {g : Nat} {t : TypeId} {A B : Option Addr} {n c m d : Nat} {l r : List UInt8} (h : Blk w g t [Value.slice A n c, Value.slice B m d].toArray) (h1 : BV w P A n c l) (h2 : BV w P B m d r) (hP : P g) : BL w P (some ⟨g, 0, none⟩) 2 2 [l, r] :=
  ⟨[.slice A n c, .slice B m d], ⟨rfl, Nat.le_refl _, by simp [maxLen], fun _ => ⟨g, 0, rfl, h.lt, hP, fun i v hv => by rw [Nat.zero_add]; exact (h.cell i).trans (by simpa using hv)⟩⟩, rfl, fun i x hx => by
    match i, hx with
    | 0, hx => simp at hx; subst hx; exact ⟨A, n, c, rfl, h1⟩
    | 1, hx => simp at hx; subst hx; exact ⟨B, m, d, rfl, h2⟩⟩
theorem BL.at'' {w : World} {P : Nat → Prop} {n c k : Nat} {A : Option Addr} {ls : List (List UInt8)} (h : BL w P A n c ls) (hk : k < n) :
    ∃ b off, A = some ⟨b, off, none⟩ ∧ b < w.heap.size ∧ ∃ l A' n' c', ls[k]? = some l ∧ w.cell? ⟨b, off + k, none⟩ = some (.slice A' n' c') ∧ BV w P A' n' c' l := by
  have hlen := h.len
  obtain ⟨vs, hr, he⟩ := h
  obtain ⟨b, off, rfl, hb, _, hc⟩ := hr.2.2.2 (by omega)
  have hl : k < ls.length := by omega
  obtain ⟨A', n', c', hv, h3⟩ := he.2 k _ (List.getElem?_eq_getElem hl)
  exact ⟨b, off, rfl, hb, ls[k], A', n', c', List.getElem?_eq_getElem hl, hc k _ hv, h3⟩
theorem fold_take' {α β : Type} (f : β → α → β) (b : β) (l : List α) (i : Nat) (x : α) (h : l[i]? = some x) : (l.take (i + 1)).foldl f b = f ((l.take i).foldl f b) x := by
  obtain ⟨hi, hx⟩ := List.getElem?_eq_some_iff.1 h
  rw [List.take_succ_eq_append_getElem hi, List.foldl_append, hx]; rfl
theorem BL.bd {w : World} {P : Nat → Prop} {n c : Nat} {A : Option Addr} {l : List (List UInt8)} (h : BL w P A n c l) : BL w (fun k => k < w.heap.size) A n c l :=
  let ⟨vs, hr, he⟩ := h
  ⟨vs, hr.bd.mono fun _ hk => hk.2, he.1, fun i a ha => let ⟨N, nn, nc, h1, h2⟩ := he.2 i a ha; ⟨N, nn, nc, h1, h2.bd.mono fun _ hk => hk.2⟩⟩
theorem below_fr {base : Nat} {w w' : World} (h : Below base w w') : Fr (fun k => k < base) w w' := ⟨h.os, h.tape, h.output, h.size, fun k _ hp => h.block k hp⟩
theorem frameS_len (tag : UInt8) (fs : List (List UInt8)) (L : Nat) (hf : ∀ f ∈ fs, f.length ≤ L) : (frameS tag fs).length ≤ 1 + (4 + L) * fs.length := by
  have key : ∀ (fs : List (List UInt8)) (b : List UInt8), (∀ f ∈ fs, f.length ≤ L) → (fs.foldl fieldS b).length ≤ b.length + (4 + L) * fs.length := by
    intro fs
    induction fs with
    | nil => intro b _; simp
    | cons f r ih =>
      intro b h
      have h1 := ih (fieldS b f) (fun g hg => h g (List.mem_cons_of_mem _ hg))
      have h2 := h f (List.mem_cons_self ..)
      have h3 : (fieldS b f).length = b.length + 4 + f.length := by unfold fieldS; rw [List.length_append, List.length_append, beS_len]
      rw [List.foldl_cons, List.length_cons, Nat.mul_add]
      omega
  exact key fs [tag] hf
set_option maxHeartbeats 1000000 in
theorem frameD {P : Nat → Prop} (w : World) (tag : UInt8) (A : Option Addr) (n c : Nat) (fs : List (List UInt8)) (ha : BL w P A n c fs) (hn : n ≤ 1000) (hf : ∀ f ∈ fs, f.length ≤ 1000000) :
    Calls Tryd.prog 60 #[.int .i64 (tag.toNat : Int), .slice A n c] w fun e w' => ∃ S m k, e = .returned (.slice S m k) ∧ OB w' w.heap.size 5 S m k (frameS tag fs) ∧ Ext w w' := by
  have htag := tag.toNat_lt
  have hle := ha.le
  have hl := ha.len
  have hat := ha.bd
  refine calls_enter Tryd.func60 rfl Tryd.ntmps60 rfl ?_
  have hE : Ext w w := Ext.refl w
  refine Wc.seq (fun K1 hK1 => ?_)
  refine Wc.keep [(0, _), (1, _)] (.cons rfl (.cons rfl (.nil))) ?_
  refine Wc.region ?_
  refine Wl.val rfl rfl rfl (Gives.assign rfl rfl) ?_
  refine Wl.nil ?_
  refine Wx.thenN (hK1 _ _ ?_)
  refine Wc.seq (fun K2 hK2 => ?_)
  refine Wc.keep [(0, _), (1, _)] (.cons rfl (.cons rfl (.nil))) ?_
  refine Wc.region ?_
  refine Wl.val rfl rfl rfl (Gives.move rfl rfl) ?_
  refine Wl.val rfl rfl rfl (Gives.conv rfl Tryd.underlying3 Tryd.underlying5 rfl (show IntKind.u8.wrap (tag.toNat : Int) = (tag.toNat : Int) by rw [wrap8]; omega)) ?_
  refine Wl.does rfl rfl rfl (Does.lit rfl Tryd.underlying23 infoB2 rfl rfl rfl rfl rfl) ?_
  rintro _ w12 ⟨g12, rfl, hs12, hk12, hx12⟩
  have hO := MB.ob (mb1 tag hk12 rfl) (base := w.heap.size) hs12 (n := 1) (c := 1) rfl (Nat.le_refl _) rfl (by omega)
  replace hE := hE.trans hx12
  refine Wl.val rfl rfl rfl (Gives.assign rfl rfl) ?_
  refine Wl.nil ?_
  refine Wx.thenN (hK2 _ _ ?_)
  refine Wc.seq (fun K3 hK3 => ?_)
  refine Wc.seq (fun K4 hK4 => ?_)
  refine Wc.keep [(1, _), (5, _)] (.cons rfl (.cons rfl (.nil))) ?_
  refine Wc.region ?_
  refine Wl.val rfl rfl rfl (Gives.move rfl rfl) ?_
  refine Wl.val rfl rfl rfl (Gives.lenS rfl Tryd.underlying22 rfl) ?_
  refine Wl.val rfl rfl rfl (Gives.move rfl rfl) ?_
  refine Wl.nil ?_
  refine Wx.thenN (hK4 _ _ ?_)
  refine Wc.block ?_
  refine Wc.keep [(5, _), (12, _), (13, _), (14, _)] (.cons rfl (.cons rfl (.cons rfl (.cons rfl (.nil))))) ?_
  refine Wc.loopC (ι := Nat × Option Addr × Nat × Nat) [(12, _), (13, _)] (fun | (i, S, m, k) => [(14, .int .i64 (i : Int)), (5, .slice S m k)]) (fun | (i, S, m, k), wr => i ≤ n ∧ m ≤ 1 + 1000004 * i ∧ OB wr w.heap.size 5 S m k ((fs.take i).foldl fieldS [tag]) ∧ Ext w wr) (fun | (i, _, _, _) => n - i) ((0, some ⟨g12, 0, none⟩, 1, 1)) (.cons (by first | exact rfl | exact look_int rfl (by omega) | exact look_slice rfl (by omega)) (.cons (by first | exact rfl | exact look_int rfl (by omega) | exact look_slice rfl (by omega)) (.cons rfl (.cons rfl (.nil))))) (⟨Nat.zero_le _, by omega, hO, hE⟩) ?_
  intro ⟨i, S, m, k⟩ wr hJ KL1 hKL1
  clear hE hO
  obtain ⟨hi, hm, hO, hE⟩ := hJ
  refine Wc.seq (fun K5 hK5 => ?_)
  refine Wc.keep [(5, _), (12, _), (13, _), (14, _)] (.cons rfl (.cons rfl (.cons rfl (.cons rfl (.nil))))) ?_
  refine Wc.region ?_
  refine Wl.val rfl rfl rfl (Gives.lss rfl rfl rfl) ?_
  refine Wl.nil ?_
  refine Wx.thenN (hK5 _ _ ?_)
  refine Wc.seq (fun K6 hK6 => ?_)
  refine Wc.cond _ rfl (fun h15 => ?_) (fun h15 => ?_)
  · (first | replace h15 := of_decide_eq_true h15 | replace h15 := nd_true h15 | skip)
    refine Wc.skip ?_
    refine Wx.thenN (hK6 _ _ ?_)
    refine Wc.seq (fun K7 hK7 => ?_)
    refine Wc.block ?_
    refine Wc.seq (fun K8 hK8 => ?_)
    refine Wc.keep [(5, _), (12, _), (13, _), (14, _)] (.cons rfl (.cons rfl (.cons rfl (.cons rfl (.nil))))) ?_
    obtain ⟨xb, xo, rfl, hbw, f, fA, fn, fc, hz, hcell, hF⟩ := (hat.ext hE).at'' (show i < n by omega)
    have hfl := hF.len
    have hfm := hf f (List.mem_of_getElem? hz)
    refine Wc.region ?_
    refine Wl.val rfl rfl rfl (Gives.ixS (i := _) rfl Tryd.underlying22 (by kernel_rfl) rfl rfl rfl (by omega)) ?_
    refine Wl.val rfl rfl rfl (Gives.ldC rfl (by kernel_rfl) rfl hcell) ?_
    refine Wl.val rfl rfl rfl (Gives.assign rfl rfl) ?_
    refine Wl.nil ?_
    refine Wx.thenN (hK8 _ _ ?_)
    refine Wc.seq (fun K9 hK9 => ?_)
    refine Wc.keep [(5, _), (7, _), (12, _), (13, _), (14, _)] (.cons rfl (.cons rfl (.cons rfl (.cons rfl (.cons rfl (.nil)))))) ?_
    refine Wc.region ?_
    refine Wl.val rfl rfl rfl (Gives.move rfl rfl) ?_
    refine Wl.val rfl rfl rfl (Gives.lenS rfl Tryd.underlying23 rfl) ?_
    refine Wl.val rfl rfl rfl (Gives.conv rfl Tryd.underlying3 Tryd.underlying76 rfl (show IntKind.u32.wrap (fn : Int) = (fn : Int) from u32_in _ (by omega))) ?_
    refine Wl.val rfl rfl rfl (Gives.assign rfl rfl) ?_
    refine Wl.nil ?_
    refine Wx.thenN (hK9 _ _ ?_)
    refine Wc.seq (fun K10 hK10 => ?_)
    refine Wc.keep [(5, _), (7, _), (8, _), (12, _), (13, _), (14, _)] (.cons rfl (.cons rfl (.cons rfl (.cons rfl (.cons rfl (.cons rfl (.nil))))))) ?_
    refine Wc.region ?_
    refine Wl.val rfl rfl rfl (Gives.move rfl rfl) ?_
    refine Wl.val rfl rfl rfl (Gives.move rfl rfl) ?_
    refine Wl.val rfl rfl rfl (Gives.shrN 24 rfl rfl rfl rfl rfl) ?_
    refine Wl.val rfl rfl rfl (Gives.conv rfl Tryd.underlying76 Tryd.underlying5 rfl (byteAt_gen fn 3 (by omega))) ?_
    refine Wl.val rfl rfl rfl (Gives.move rfl rfl) ?_
    refine Wl.val rfl rfl rfl (Gives.shrN 16 rfl rfl rfl rfl rfl) ?_
    refine Wl.val rfl rfl rfl (Gives.conv rfl Tryd.underlying76 Tryd.underlying5 rfl (byteAt_gen fn 2 (by omega))) ?_
    refine Wl.val rfl rfl rfl (Gives.move rfl rfl) ?_
    refine Wl.val rfl rfl rfl (Gives.shrN 8 rfl rfl rfl rfl rfl) ?_
    refine Wl.val rfl rfl rfl (Gives.conv rfl Tryd.underlying76 Tryd.underlying5 rfl (byteAt_gen fn 1 (by omega))) ?_
    refine Wl.val rfl rfl rfl (Gives.move rfl rfl) ?_
    refine Wl.val rfl rfl rfl (Gives.conv rfl Tryd.underlying76 Tryd.underlying5 rfl (byteAt_gen0 fn (by omega))) ?_
    refine Wl.does rfl rfl rfl (Does.lit rfl Tryd.underlying23 infoB2 rfl rfl rfl rfl rfl) ?_
    rintro _ w6 ⟨g6, rfl, hs6, hk6, hx6⟩
    have hM6 : MB w6 g6 5 (beS ((fn : Nat) : Int) 4) := hk6
    have hO2 := hO.ext hx6
    have hcell6 := (hx6.cells.1 xb (xo + i) hbw).trans hcell
    have hF2 := hF.ext hx6
    replace hE := hE.trans hx6
    refine Wl.does rfl rfl rfl (Does.appO rfl Tryd.underlying23 infoB rfl rfl hO2 (hM6.bv (P := fun _ => True) trivial (n := 4) (c := 4) rfl (Nat.le_refl _) (by omega)) (by omega) hE.size) ?_
    rintro _ w7 ⟨S1, k1, rfl, hO3, hB3⟩
    have hF3 := hF2.fr (below_fr hB3)
    replace hE := Ext.step hE hB3 (by omega)
    refine Wl.val rfl rfl rfl (Gives.assign rfl rfl) ?_
    refine Wl.nil ?_
    refine Wx.thenN (hK10 _ _ ?_)
    refine Wc.keep [(5, _), (7, _), (12, _), (13, _), (14, _)] (.cons rfl (.cons rfl (.cons rfl (.cons rfl (.cons rfl (.nil)))))) ?_
    refine Wc.region ?_
    refine Wl.val rfl rfl rfl (Gives.move rfl rfl) ?_
    refine Wl.val rfl rfl rfl (Gives.move rfl rfl) ?_
    refine Wl.does rfl rfl rfl (Does.appO rfl Tryd.underlying23 infoB rfl rfl hO3 hF3 (by omega) hE.size) ?_
    rintro _ w8 ⟨S2, k2, rfl, hO4, hB4⟩
    replace hE := Ext.step hE hB4 (by omega)
    refine Wl.val rfl rfl rfl (Gives.assign rfl rfl) ?_
    refine Wl.nil ?_
    refine Wx.blockN ?_
    refine Wx.thenN (hK7 _ _ ?_)
    refine Wc.keep [(5, _), (12, _), (13, _), (14, _)] (.cons rfl (.cons rfl (.cons rfl (.cons rfl (.nil))))) ?_
    refine Wc.region ?_
    refine Wl.val rfl rfl rfl (Gives.add rfl rfl rfl (by first | exact IntWalk.i64_in _ (by omega) | exact u64_in _ (by omega) | exact u32_in _ (by omega) | exact u8_in _ (by omega) | exact rfl)) ?_
    refine Wl.val rfl rfl rfl (Gives.move rfl rfl) ?_
    refine Wl.nil ?_
    refine Wx.thenN ?_
    refine hKL1 (i + 1, S2, m + 4 + fn, k2) _ _ (.cons (by first | exact rfl | exact look_int rfl (by omega) | exact look_slice rfl (by omega)) (.cons (by first | exact rfl | exact look_int rfl (by omega) | exact look_slice rfl (by omega)) (.cons rfl (.cons rfl (.nil))))) ⟨by omega, by omega, by rw [fold_take' _ _ _ _ _ hz]; unfold fieldS; rw [hfl]; exact hO4, hE⟩ (by show n - (i + 1) < n - i; omega)
  · (first | replace h15 := of_decide_eq_false h15 | replace h15 := nd_false h15 | skip)
    refine Wc.exit ?_
    refine Wx.thenE ?_
    refine Wx.thenE ?_
    refine Wx.hit ?_
    refine Wx.thenN (hK3 _ _ ?_)
    refine Wc.seq (fun K11 hK11 => ?_)
    refine Wc.keep [(5, _)] (.cons rfl (.nil)) ?_
    refine Wc.region ?_
    refine Wl.val rfl rfl rfl (Gives.move rfl rfl) ?_
    refine Wl.val rfl rfl rfl (Gives.assign rfl rfl) ?_
    refine Wl.nil ?_
    refine Wx.thenN (hK11 _ _ ?_)
    refine Wc.ret ?_
    refine Wx.ret [_] ⟨rfl, trivial⟩ ?_
    obtain rfl : n = i := by omega
    rw [List.take_of_length_le (by omega)] at hO
    exact ⟨_, _, _, rfl, hO, hE⟩
set_option maxHeartbeats 1000000 in
theorem frameR {P : Nat → Prop} (w : World) (tag : UInt8) (A : Option Addr) (n c : Nat) (fs : List (List UInt8)) (ha : BL w P A n c fs) (hn : n ≤ 1000) (hf : ∀ f ∈ fs, f.length ≤ 1000000) :
    Calls Tryd.prog 44 #[.int .i64 (tag.toNat : Int), .slice A n c] w fun e w' => ∃ S m k, e = .returned (.slice S m k) ∧ OB w' w.heap.size 5 S m k (frameS tag fs) ∧ Ext w w' := by
  have htag := tag.toNat_lt
  have hle := ha.le
  have hl := ha.len
  have hat := ha.bd
  refine calls_enter Tryd.func44 rfl Tryd.ntmps44 rfl ?_
  have hE : Ext w w := Ext.refl w
  refine Wc.seq (fun K1 hK1 => ?_)
  refine Wc.keep [(0, _), (1, _)] (.cons rfl (.cons rfl (.nil))) ?_
  refine Wc.region ?_
  refine Wl.val rfl rfl rfl (Gives.assign rfl rfl) ?_
  refine Wl.nil ?_
  refine Wx.thenN (hK1 _ _ ?_)
  refine Wc.seq (fun K2 hK2 => ?_)
  refine Wc.keep [(0, _), (1, _)] (.cons rfl (.cons rfl (.nil))) ?_
  refine Wc.region ?_
  refine Wl.val rfl rfl rfl (Gives.move rfl rfl) ?_
  refine Wl.val rfl rfl rfl (Gives.conv rfl Tryd.underlying3 Tryd.underlying5 rfl (show IntKind.u8.wrap (tag.toNat : Int) = (tag.toNat : Int) by rw [wrap8]; omega)) ?_
  refine Wl.does rfl rfl rfl (Does.lit rfl Tryd.underlying23 infoB2 rfl rfl rfl rfl rfl) ?_
  rintro _ w12 ⟨g12, rfl, hs12, hk12, hx12⟩
  have hO := MB.ob (mb1 tag hk12 rfl) (base := w.heap.size) hs12 (n := 1) (c := 1) rfl (Nat.le_refl _) rfl (by omega)
  replace hE := hE.trans hx12
  refine Wl.val rfl rfl rfl (Gives.assign rfl rfl) ?_
  refine Wl.nil ?_
  refine Wx.thenN (hK2 _ _ ?_)
  refine Wc.seq (fun K3 hK3 => ?_)
  refine Wc.seq (fun K4 hK4 => ?_)
  refine Wc.keep [(1, _), (5, _)] (.cons rfl (.cons rfl (.nil))) ?_
  refine Wc.region ?_
  refine Wl.val rfl rfl rfl (Gives.assign rfl rfl) ?_
  refine Wl.nil ?_
  refine Wx.thenN (hK4 _ _ ?_)
  refine Wc.block ?_
  refine Wc.keep [(1, _), (5, _), (6, _)] (.cons rfl (.cons rfl (.cons rfl (.nil)))) ?_
  refine Wc.loopC (ι := Nat × Option Addr × Nat × Nat) [(1, _)] (fun | (i, S, m, k) => [(6, .int .i64 (i : Int)), (5, .slice S m k)]) (fun | (i, S, m, k), wr => i ≤ n ∧ m ≤ 1 + 1000004 * i ∧ OB wr w.heap.size 5 S m k ((fs.take i).foldl fieldS [tag]) ∧ Ext w wr) (fun | (i, _, _, _) => n - i) ((0, some ⟨g12, 0, none⟩, 1, 1)) (.cons (by first | exact rfl | exact look_int rfl (by omega) | exact look_slice rfl (by omega)) (.cons (by first | exact rfl | exact look_int rfl (by omega) | exact look_slice rfl (by omega)) (.cons rfl (.nil)))) (⟨Nat.zero_le _, by omega, hO, hE⟩) ?_
  intro ⟨i, S, m, k⟩ wr hJ KL1 hKL1
  clear hE hO
  obtain ⟨hi, hm, hO, hE⟩ := hJ
  refine Wc.seq (fun K5 hK5 => ?_)
  refine Wc.seq (fun K6 hK6 => ?_)
  refine Wc.keep [(1, _), (5, _), (6, _)] (.cons rfl (.cons rfl (.cons rfl (.nil)))) ?_
  refine Wc.region ?_
  refine Wl.val rfl rfl rfl (Gives.move rfl rfl) ?_
  refine Wl.val rfl rfl rfl (Gives.move rfl rfl) ?_
  refine Wl.val rfl rfl rfl (Gives.lenS rfl Tryd.underlying22 rfl) ?_
  refine Wl.val rfl rfl rfl (Gives.lss rfl rfl rfl) ?_
  refine Wl.nil ?_
  refine Wx.thenN (hK6 _ _ ?_)
  refine Wc.cond _ rfl (fun h14 => ?_) (fun h14 => ?_)
  · (first | replace h14 := of_decide_eq_true h14 | replace h14 := nd_true h14 | skip)
    refine Wc.skip ?_
    refine Wx.thenN (hK5 _ _ ?_)
    refine Wc.seq (fun K7 hK7 => ?_)
    refine Wc.block ?_
    refine Wc.seq (fun K8 hK8 => ?_)
    refine Wc.keep [(1, _), (5, _), (6, _)] (.cons rfl (.cons rfl (.cons rfl (.nil)))) ?_
    obtain ⟨xb0, xo0, hA0, hbk0, _⟩ := hat.at'' (show i < n by omega)
    obtain ⟨xb, xo, rfl, hbw, f, fA, fn, fc, hz, hcell, hF⟩ := (hat.ext hE).at'' (show i < n by omega)
    have hfl := hF.len
    have hfm := hf f (List.mem_of_getElem? hz)
    refine Wc.region ?_
    refine Wl.val rfl rfl rfl (Gives.move rfl rfl) ?_
    refine Wl.val rfl rfl rfl (Gives.move rfl rfl) ?_
    refine Wl.val rfl rfl rfl (Gives.ixS (i := _) rfl Tryd.underlying22 (by kernel_rfl) rfl rfl rfl (by omega)) ?_
    refine Wl.val rfl rfl rfl (Gives.ldC rfl (by kernel_rfl) rfl hcell) ?_
    refine Wl.val rfl rfl rfl (Gives.lenS rfl Tryd.underlying23 rfl) ?_
    refine Wl.val rfl rfl rfl (Gives.assign rfl rfl) ?_
    refine Wl.nil ?_
    refine Wx.thenN (hK8 _ _ ?_)
    refine Wc.seq (fun K9 hK9 => ?_)
    refine Wc.keep [(1, _), (5, _), (6, _), (7, _)] (.cons rfl (.cons rfl (.cons rfl (.cons rfl (.nil))))) ?_
    refine Wc.region ?_
    refine Wl.val rfl rfl rfl (Gives.move rfl rfl) ?_
    refine Wl.val rfl rfl rfl (Gives.move rfl rfl) ?_
    refine Wl.val rfl rfl rfl (Gives.shrN 24 rfl rfl rfl rfl rfl) ?_
    refine Wl.val rfl rfl rfl (Gives.conv rfl Tryd.underlying3 Tryd.underlying5 rfl (byteAt_gen fn 3 (by omega))) ?_
    refine Wl.val rfl rfl rfl (Gives.move rfl rfl) ?_
    refine Wl.val rfl rfl rfl (Gives.shrN 16 rfl rfl rfl rfl rfl) ?_
    refine Wl.val rfl rfl rfl (Gives.conv rfl Tryd.underlying3 Tryd.underlying5 rfl (byteAt_gen fn 2 (by omega))) ?_
    refine Wl.val rfl rfl rfl (Gives.move rfl rfl) ?_
    refine Wl.val rfl rfl rfl (Gives.shrN 8 rfl rfl rfl rfl rfl) ?_
    refine Wl.val rfl rfl rfl (Gives.conv rfl Tryd.underlying3 Tryd.underlying5 rfl (byteAt_gen fn 1 (by omega))) ?_
    refine Wl.val rfl rfl rfl (Gives.move rfl rfl) ?_
    refine Wl.val rfl rfl rfl (Gives.conv rfl Tryd.underlying3 Tryd.underlying5 rfl (byteAt_gen0 fn (by omega))) ?_
    refine Wl.does rfl rfl rfl (Does.lit rfl Tryd.underlying23 infoB2 rfl rfl rfl rfl rfl) ?_
    rintro _ w6 ⟨g6, rfl, hs6, hk6, hx6⟩
    have hM6 : MB w6 g6 5 (beS ((fn : Nat) : Int) 4) := hk6
    have hO2 := hO.ext hx6
    have hcell6 := (hx6.cells.1 xb (xo + i) hbw).trans hcell
    have hF2 := hF.ext hx6
    replace hE := hE.trans hx6
    refine Wl.does rfl rfl rfl (Does.appO rfl Tryd.underlying23 infoB rfl rfl hO2 (hM6.bv (P := fun _ => True) trivial (n := 4) (c := 4) rfl (Nat.le_refl _) (by omega)) (by omega) hE.size) ?_
    rintro _ w7 ⟨S1, k1, rfl, hO3, hB3⟩
    have hF3 := hF2.fr (below_fr hB3)
    have hbk : xb < w.heap.size := by cases hA0; exact hbk0
    have hcell7 : w7.cell? ⟨xb, xo + i, none⟩ = some (.slice fA fn fc) := (World.cell?_of_block (a := ⟨xb, xo + i, none⟩) (hB3.block xb hbk)).trans hcell6
    replace hE := Ext.step hE hB3 (by omega)
    refine Wl.val rfl rfl rfl (Gives.assign rfl rfl) ?_
    refine Wl.nil ?_
    refine Wx.thenN (hK9 _ _ ?_)
    refine Wc.keep [(1, _), (5, _), (6, _)] (.cons rfl (.cons rfl (.cons rfl (.nil)))) ?_
    refine Wc.region ?_
    refine Wl.val rfl rfl rfl (Gives.move rfl rfl) ?_
    refine Wl.val rfl rfl rfl (Gives.move rfl rfl) ?_
    refine Wl.val rfl rfl rfl (Gives.move rfl rfl) ?_
    refine Wl.val rfl rfl rfl (Gives.ixS (i := _) rfl Tryd.underlying22 (by kernel_rfl) rfl rfl rfl (by omega)) ?_
    refine Wl.val rfl rfl rfl (Gives.ldC rfl (by kernel_rfl) rfl hcell7) ?_
    refine Wl.does rfl rfl rfl (Does.appO rfl Tryd.underlying23 infoB rfl rfl hO3 hF3 (by omega) hE.size) ?_
    rintro _ w8 ⟨S2, k2, rfl, hO4, hB4⟩
    replace hE := Ext.step hE hB4 (by omega)
    refine Wl.val rfl rfl rfl (Gives.assign rfl rfl) ?_
    refine Wl.nil ?_
    refine Wx.blockN ?_
    refine Wx.thenN (hK7 _ _ ?_)
    refine Wc.keep [(1, _), (5, _), (6, _)] (.cons rfl (.cons rfl (.cons rfl (.nil)))) ?_
    refine Wc.region ?_
    refine Wl.val rfl rfl rfl (Gives.move rfl rfl) ?_
    refine Wl.val rfl rfl rfl (Gives.add rfl rfl rfl (by first | exact IntWalk.i64_in _ (by omega) | exact u64_in _ (by omega) | exact u32_in _ (by omega) | exact u8_in _ (by omega) | exact rfl)) ?_
    refine Wl.val rfl rfl rfl (Gives.assign rfl rfl) ?_
    refine Wl.nil ?_
    refine Wx.thenN ?_
    refine hKL1 (i + 1, S2, m + 4 + fn, k2) _ _ (.cons (by first | exact rfl | exact look_int rfl (by omega) | exact look_slice rfl (by omega)) (.cons (by first | exact rfl | exact look_int rfl (by omega) | exact look_slice rfl (by omega)) (.cons rfl (.nil)))) ⟨by omega, by omega, by rw [fold_take' _ _ _ _ _ hz]; unfold fieldS; rw [hfl]; exact hO4, hE⟩ (by show n - (i + 1) < n - i; omega)
  · (first | replace h14 := of_decide_eq_false h14 | replace h14 := nd_false h14 | skip)
    refine Wc.exit ?_
    refine Wx.thenE ?_
    refine Wx.thenE ?_
    refine Wx.hit ?_
    refine Wx.thenN (hK3 _ _ ?_)
    refine Wc.seq (fun K10 hK10 => ?_)
    refine Wc.keep [(5, _)] (.cons rfl (.nil)) ?_
    refine Wc.region ?_
    refine Wl.val rfl rfl rfl (Gives.move rfl rfl) ?_
    refine Wl.val rfl rfl rfl (Gives.assign rfl rfl) ?_
    refine Wl.nil ?_
    refine Wx.thenN (hK10 _ _ ?_)
    refine Wc.ret ?_
    refine Wx.ret [_] ⟨rfl, trivial⟩ ?_
    obtain rfl : n = i := by omega
    rw [List.take_of_length_le (by omega)] at hO
    exact ⟨_, _, _, rfl, hO, hE⟩
end Go.Proofs.YtbbeoojlgfegjaaDoor
/- Readers in their boxes, apart from what is newer. -/
namespace Go.Proofs.YtbbeoojlgfegjaaDoor
set_option linter.all false
open Go.RowKit
theorem rdUint_b (r : Rd) (k : Int) : (rdUint r k).1.b = r.b := by
  unfold rdUint
  repeat' split
  all_goals rfl
theorem rdBlob_b (r : Rd) (k : Int) : (rdBlob r k).1.b = r.b := by
  unfold rdBlob
  repeat' split
  all_goals rfl
theorem rdRaw_b (r : Rd) (k : Int) : (rdRaw r k).1.b = r.b := by
  unfold rdRaw
  repeat' split
  all_goals rfl
/-- A reader in its box, its bytes below block N. -/
structure RDX (t : TypeId) (w : World) (g N : Nat) (A : Option Addr) (n c : Nat) (r : Rd) : Prop where
  rd : RD t w g A n c r
  bv : BV w (fun k => k ≠ g ∧ k < N) A n c r.b
  lt : g < N
section
variable {t : TypeId} {w w' : World} {g N n c : Nat} {A : Option Addr} {r : Rd} {P : Nat → Prop}
theorem RDX.fr (h : RDX t w g N A n c r) (f : Fr P w w') (hp : ∀ k, k < N → P k) : RDX t w' g N A n c r :=
  have hb : BV w' (fun k => k ≠ g ∧ k < N) A n c r.b := h.bv.fr (f.mono fun k hk => hp k hk.2)
  ⟨⟨h.rd.1.fr f (hp g h.lt), hb.mono fun k hk => hk.1, h.rd.2.2⟩, hb, h.lt⟩
theorem RDX.ext (h : RDX t w g N A n c r) (e : Ext w w') : RDX t w' g N A n c r := h.fr (P := fun _ => True) e.fr (fun _ _ => trivial)
theorem RDX.next {r' : Rd} (h : RDX t w g N A n c r) (h' : RD t w' g A n c r') (hb : r'.b = r.b) (f : Fr (fun k => k ≠ g) w w') : RDX t w' g N A n c r' :=
  ⟨h', by rw [hb]; exact h.bv.fr (f.mono fun k hk => hk.1), h.lt⟩
theorem RDX.up {N' : Nat} (h : RDX t w g N A n c r) (hN : N ≤ N') : RDX t w g N' A n c r := ⟨h.rd, h.bv.mono fun k hk => ⟨hk.1, by omega⟩, by have := h.lt; omega⟩
end
/-- What a read of a number leaves: the number, the reader, all else as it was. -/
def UintX (t : TypeId) (w : World) (g N : Nat) (A : Option Addr) (n c : Nat) (x : Rd × Int) (e : Ending) (w' : World) : Prop := e = .returned (.int .i64 x.2) ∧ RDX t w' g N A n c x.1 ∧ Fr (fun k => k ≠ g) w w'
def BlobX (t : TypeId) (w : World) (g N : Nat) (A : Option Addr) (n c : Nat) (x : Rd × List UInt8) (e : Ending) (w' : World) : Prop := ∃ S m k, e = .returned (.slice S m k) ∧ OB w' w.heap.size 5 S m k x.2 ∧ RDX t w' g N A n c x.1 ∧ Fr (fun k => k ≠ g) w w'
theorem rUint_x (w : World) (g N : Nat) (A : Option Addr) (n c : Nat) (r : Rd) (size : Int) (h : RDX 84 w g N A n c r) :
    Calls Tryd.prog 49 #[.pointer (some ⟨g, 0, none⟩), .int .i64 size] w (UintX 84 w g N A n c (rdUint r size)) :=
  (rUint_calls w g A n c r.b r.at_ r.e size h.rd).mono fun e w' ⟨v, r', he, hv, hR, hF⟩ => by
    obtain ⟨rfl, rfl⟩ := hv.out
    exact ⟨he, h.next hR (rdUint_b r size) hF, hF⟩
theorem rRaw_x (w : World) (g N : Nat) (A : Option Addr) (n c : Nat) (r : Rd) (k : Int) (h : RDX 84 w g N A n c r) :
    Calls Tryd.prog 48 #[.pointer (some ⟨g, 0, none⟩), .int .i64 k] w (BlobX 84 w g N A n c (rdRaw r k)) :=
  (rRaw_calls w g A n c r.b r.at_ r.e k h.rd).mono fun e w' ⟨S, m, k', l, r', he, hv, hR, hO, hF⟩ => by
    obtain ⟨rfl, rfl⟩ := hv.out
    exact ⟨S, m, k', he, hO, h.next hR (rdRaw_b r k) hF, hF⟩
theorem sUint_x (w : World) (g N : Nat) (A : Option Addr) (n c : Nat) (r : Rd) (size : Int) (h : RDX 75 w g N A n c r) :
    Calls Tryd.prog 53 #[.pointer (some ⟨g, 0, none⟩), .int .i64 size] w (UintX 75 w g N A n c (rdUint r size)) :=
  (sUint_calls w g A n c r.b r.at_ r.e size h.rd).mono fun e w' ⟨v, r', he, hv, hR, hF⟩ => by
    obtain ⟨rfl, rfl⟩ := hv.out
    exact ⟨he, h.next hR (rdUint_b r size) hF, hF⟩
theorem sRaw_x (w : World) (g N : Nat) (A : Option Addr) (n c : Nat) (r : Rd) (k : Int) (h : RDX 75 w g N A n c r) :
    Calls Tryd.prog 52 #[.pointer (some ⟨g, 0, none⟩), .int .i64 k] w (BlobX 75 w g N A n c (rdRaw r k)) :=
  (sRaw_calls w g A n c r.b r.at_ r.e k h.rd).mono fun e w' ⟨S, m, k', l, r', he, hv, hR, hO, hF⟩ => by
    obtain ⟨rfl, rfl⟩ := hv.out
    exact ⟨S, m, k', he, hO, h.next hR (rdRaw_b r k) hF, hF⟩
theorem rErr_x (w : World) (g N : Nat) (A : Option Addr) (n c : Nat) (r : Rd) (h : RDX 84 w g N A n c r) :
    Calls Tryd.prog 50 #[.pointer (some ⟨g, 0, none⟩)] w fun e w' => e = .returned (.int .i64 r.e) ∧ w = w' := rErr_calls w g A n c r.b r.at_ r.e h.rd
/-- New: the reader, below any later block -/
theorem NewRd.x {t : TypeId} {w w' : World} {l : List UInt8} {e : Ending} (h : NewRd t w l e w') : ∃ g A n c, e = .returned (.pointer (some ⟨g, 0, none⟩)) ∧ w.heap.size ≤ g ∧ RDX t w' g w'.heap.size A n c ⟨l, 0, 0⟩ ∧ Ext w w' := by
  obtain ⟨g, A, n, c, he, hg, hR, hE⟩ := h
  exact ⟨g, A, n, c, he, hg, ⟨hR, hR.2.1.bd, hR.1.lt⟩, hE⟩
end Go.Proofs.YtbbeoojlgfegjaaDoor
/- Journals: marks and records. -/
namespace Go.Proofs.YtbbeoojlgfegjaaDoor
set_option linter.all false
open Go.RowKit
theorem infoBB2 : (Tryd.prog.info? 23).map (fun i => (i.zero, i.size)) = some (some (.slice none 0 0), 1) := by kernel_rfl
theorem uint8_len (seq : Int) : (uintS [] 8 seq).length = 8 := by unfold uintS; rw [if_pos (by omega)]; simp [beS_len]
theorem j_len (seq : Int) (p : List UInt8) (hp : p.length ≤ 1000000) : ∀ f ∈ [uintS [] 8 seq, p], f.length ≤ 1000000 := by
  intro f hf
  simp only [List.mem_cons, List.not_mem_nil, or_false] at hf
  rcases hf with rfl | rfl
  · rw [uint8_len]; omega
  · exact hp
theorem hashD {P : Nat → Prop} (w : World) (hT : Tab w) (tag : UInt8) (A : Option Addr) (n c : Nat) (fs : List (List UInt8)) (ha : BL w P A n c fs) (hn : n ≤ 1000) (hf : ∀ f ∈ fs, f.length ≤ 1000000) :
    Calls Tryd.prog 45 #[.int .i64 (tag.toNat : Int), .slice A n c] w fun e w' => ∃ S k, e = .returned (.slice S 32 k) ∧ OB w' w.heap.size 5 S 32 k (sha256S (frameS tag fs)) ∧ Ext w w' := by
  have hfl := frameS_len tag fs 1000000 hf
  have hal := ha.len
  refine calls_enter Tryd.func45 rfl Tryd.ntmps45 rfl ?_
  have hE : Ext w w := Ext.refl w
  refine Wc.seq (fun K1 hK1 => ?_)
  refine Wc.keep [(0, _), (1, _)] (.cons rfl (.cons rfl (.nil))) ?_
  refine Wc.region ?_
  refine Wl.val rfl rfl rfl (Gives.assign rfl rfl) ?_
  refine Wl.nil ?_
  refine Wx.thenN (hK1 _ _ ?_)
  refine Wc.seq (fun K2 hK2 => ?_)
  refine Wc.keep [(0, _), (1, _)] (.cons rfl (.cons rfl (.nil))) ?_
  refine Wc.region ?_
  refine Wl.val rfl rfl rfl (Gives.move rfl rfl) ?_
  refine Wl.val rfl rfl rfl (Gives.move rfl rfl) ?_
  refine Wl.call rfl rfl rfl rfl Tryd.func60 rfl (by kernel_rfl) rfl (frameD _ tag A n c fs (ha.ext hE) hn hf) ?_
  rintro x1 w11 ⟨S, m, k, rfl, hO, hx1⟩
  refine ⟨_, rfl, ?_⟩
  have hm := hO.len
  replace hE := hE.trans hx1
  refine Wl.call rfl rfl rfl rfl Tryd.func59 rfl (by kernel_rfl) rfl (sumP_calls _ (hT.ext hE) S m k _ (hO.bvA (Anew.top _)) (by omega)) ?_
  rintro x2 w12 ⟨S2, k2, rfl, hO2, hx2⟩
  refine ⟨_, rfl, ?_⟩
  replace hO2 := hO2.mono hE.size
  replace hE := hE.trans hx2
  refine Wl.val rfl rfl rfl (Gives.assign rfl rfl) ?_
  refine Wl.nil ?_
  refine Wx.thenN (hK2 _ _ ?_)
  refine Wc.ret ?_
  refine Wx.ret [_] ⟨rfl, trivial⟩ ?_
  exact ⟨_, _, rfl, hO2, hE⟩
theorem markP {P : Nat → Prop} (w : World) (hT : Tab w) (seq : Int) (A : Option Addr) (n c : Nat) (p : List UInt8) (ha : BV w P A n c p) (hn : n ≤ 1000000) :
    Calls Tryd.prog 33 #[.int .i64 seq, .slice A n c] w fun e w' => ∃ S k, e = .returned (.slice S 32 k) ∧ OB w' w.heap.size 5 S 32 k (markS seq p) ∧ Ext w w' := by
  have hal := ha.len
  refine calls_enter Tryd.func33 rfl Tryd.ntmps33 rfl ?_
  have hE : Ext w w := Ext.refl w
  refine Wc.seq (fun K1 hK1 => ?_)
  refine Wc.keep [(0, _), (1, _)] (.cons rfl (.cons rfl (.nil))) ?_
  refine Wc.region ?_
  refine Wl.val rfl rfl rfl (Gives.assign rfl rfl) ?_
  refine Wl.nil ?_
  refine Wx.thenN (hK1 _ _ ?_)
  refine Wc.seq (fun K2 hK2 => ?_)
  refine Wc.keep [(0, _), (1, _)] (.cons rfl (.cons rfl (.nil))) ?_
  refine Wc.region ?_
  refine Wl.val rfl rfl rfl (Gives.move rfl rfl) ?_
  refine Wl.call rfl rfl rfl rfl Tryd.func32 rfl (by kernel_rfl) rfl (uint_calls (P := fun _ => True) _ none 0 0 [] (BV.nil_ _ _) (by omega) 8 seq) ?_
  rintro x1 w11 ⟨S, m, k, rfl, hO, hx1⟩
  refine ⟨_, rfl, ?_⟩
  replace hE := hE.trans hx1
  refine Wl.val rfl rfl rfl (Gives.move rfl rfl) ?_
  refine Wl.does rfl rfl rfl (Does.lit rfl Tryd.underlying22 infoBB2 rfl rfl rfl rfl rfl) ?_
  rintro _ w13 ⟨g13, rfl, hs13, hk13, hx13⟩
  have hB := bl2 (P := fun _ => True) hk13 ((hO.bvA (Anew.top _)).ext hx13) ((ha.ext (hE.trans hx13)).mono fun _ _ => trivial) trivial
  replace hE := hE.trans hx13
  refine Wl.call rfl rfl rfl rfl Tryd.func45 rfl (by kernel_rfl) rfl (hashD _ (hT.ext hE) 12 _ 2 2 _ hB (by omega) (j_len seq p (by omega))) ?_
  rintro x2 w14 ⟨S2, k2, rfl, hO2, hx2⟩
  refine ⟨_, rfl, ?_⟩
  replace hO2 := hO2.mono hE.size
  replace hE := hE.trans hx2
  refine Wl.val rfl rfl rfl (Gives.assign rfl rfl) ?_
  refine Wl.nil ?_
  refine Wx.thenN (hK2 _ _ ?_)
  refine Wc.ret ?_
  refine Wx.ret [_] ⟨rfl, trivial⟩ ?_
  exact ⟨_, _, rfl, hO2, hE⟩
theorem frame15 {P : Nat → Prop} (w : World) (seq : Int) (A : Option Addr) (n c : Nat) (p : List UInt8) (ha : BV w P A n c p) (hn : n ≤ 1000000) :
    Calls Tryd.prog 29 #[.int .i64 seq, .slice A n c] w fun e w' => ∃ S m k, e = .returned (.slice S m k) ∧ OB w' w.heap.size 5 S m k (jFrame seq p) ∧ Ext w w' := by
  have hal := ha.len
  refine calls_enter Tryd.func29 rfl Tryd.ntmps29 rfl ?_
  have hE : Ext w w := Ext.refl w
  refine Wc.seq (fun K1 hK1 => ?_)
  refine Wc.keep [(0, _), (1, _)] (.cons rfl (.cons rfl (.nil))) ?_
  refine Wc.region ?_
  refine Wl.val rfl rfl rfl (Gives.assign rfl rfl) ?_
  refine Wl.nil ?_
  refine Wx.thenN (hK1 _ _ ?_)
  refine Wc.seq (fun K2 hK2 => ?_)
  refine Wc.keep [(0, _), (1, _)] (.cons rfl (.cons rfl (.nil))) ?_
  refine Wc.region ?_
  refine Wl.val rfl rfl rfl (Gives.move rfl rfl) ?_
  refine Wl.call rfl rfl rfl rfl Tryd.func40 rfl (by kernel_rfl) rfl (uintR_calls (P := fun _ => True) _ none 0 0 [] (BV.nil_ _ _) (by omega) 8 seq) ?_
  rintro x1 w11 ⟨S, m, k, rfl, hO, hx1⟩
  refine ⟨_, rfl, ?_⟩
  replace hE := hE.trans hx1
  refine Wl.val rfl rfl rfl (Gives.move rfl rfl) ?_
  refine Wl.does rfl rfl rfl (Does.lit rfl Tryd.underlying22 infoBB2 rfl rfl rfl rfl rfl) ?_
  rintro _ w13 ⟨g13, rfl, hs13, hk13, hx13⟩
  have hB := bl2 (P := fun _ => True) hk13 ((hO.bvA (Anew.top _)).ext hx13) ((ha.ext (hE.trans hx13)).mono fun _ _ => trivial) trivial
  replace hE := hE.trans hx13
  refine Wl.call rfl rfl rfl rfl Tryd.func44 rfl (by kernel_rfl) rfl (frameR _ 12 _ 2 2 _ hB (by omega) (j_len seq p (by omega))) ?_
  rintro x2 w14 ⟨S2, m2, k2, rfl, hO2, hx2⟩
  refine ⟨_, rfl, ?_⟩
  replace hO2 := hO2.mono hE.size
  replace hE := hE.trans hx2
  refine Wl.val rfl rfl rfl (Gives.assign rfl rfl) ?_
  refine Wl.nil ?_
  refine Wx.thenN (hK2 _ _ ?_)
  refine Wc.ret ?_
  refine Wx.ret [_] ⟨rfl, trivial⟩ ?_
  exact ⟨_, _, _, rfl, hO2, hE⟩
theorem jFrame_len (seq : Int) (p : List UInt8) (hp : p.length ≤ 1000000) : (jFrame seq p).length ≤ 2000009 := by
  have := frameS_len 12 _ 1000000 (j_len seq p hp)
  rw [show ([uintS [] 8 seq, p] : List (List UInt8)).length = 2 from rfl] at this
  unfold jFrame
  omega
set_option maxRecDepth 10000 in
set_option maxHeartbeats 1000000 in
theorem record15 {P : Nat → Prop} (w : World) (seq : Int) (A : Option Addr) (n c : Nat) (p : List UInt8) (ha : BV w P A n c p) (hn : n ≤ 1000000) :
    Calls Tryd.prog 24 #[.int .i64 seq, .slice A n c] w fun e w' => ∃ S k, e = .returned (.slice S (44 + n) k) ∧ OB w' w.heap.size 5 S (44 + n) k (recordS seq p) ∧ Ext w w' := by
  have hal := ha.len
  have hjl := jFrame_len seq p (by omega)
  refine calls_enter Tryd.func24 rfl Tryd.ntmps24 rfl ?_
  have hE : Ext w w := Ext.refl w
  refine Wc.seq (fun K1 hK1 => ?_)
  refine Wc.keep [(0, _), (1, _)] (.cons rfl (.cons rfl (.nil))) ?_
  refine Wc.region ?_
  refine Wl.val rfl rfl rfl (Gives.assign rfl rfl) ?_
  refine Wl.nil ?_
  refine Wx.thenN (hK1 _ _ ?_)
  refine Wc.seq (fun K2 hK2 => ?_)
  refine Wc.keep [(0, _), (1, _)] (.cons rfl (.cons rfl (.nil))) ?_
  refine Wc.region ?_
  refine Wl.val rfl rfl rfl (Gives.move rfl rfl) ?_
  refine Wl.val rfl rfl rfl (Gives.move rfl rfl) ?_
  refine Wl.call rfl rfl rfl rfl Tryd.func29 rfl (by kernel_rfl) rfl (frame15 _ seq A n c p (ha.ext hE) hn) ?_
  rintro x1 w11 ⟨S1, m1, k1, rfl, hO1, hx1⟩
  refine ⟨_, rfl, ?_⟩
  have hm1 := hO1.len
  replace hE := hE.trans hx1
  refine Wl.call rfl rfl rfl rfl Tryd.func41 rfl (by kernel_rfl) rfl (sum256R_calls _ S1 m1 k1 _ (hO1.bvA (Anew.top _)) (by omega)) ?_
  rintro x2 w12 ⟨S2, k2, rfl, hO2, hx2⟩
  refine ⟨_, rfl, ?_⟩
  replace hE := hE.trans hx2
  refine Wl.val rfl rfl rfl (Gives.move rfl rfl) ?_
  refine Wl.call rfl rfl rfl rfl Tryd.func40 rfl (by kernel_rfl) rfl (uintR_calls _ S2 32 k2 _ (hO2.bvA (Anew.top _)) (by omega) 8 seq) ?_
  rintro x3 w13 ⟨S3, m3, k3, rfl, hO3, hx3⟩
  refine ⟨_, rfl, ?_⟩
  have hm3 := hO3.len
  have hm3' := uintS_len (sha256S (jFrame seq p)) 8 seq
  have hsl := sha256S_len (jFrame seq p)
  replace hE := hE.trans hx3
  refine Wl.val rfl rfl rfl (Gives.assign rfl rfl) ?_
  refine Wl.nil ?_
  refine Wx.thenN (hK2 _ _ ?_)
  refine Wc.seq (fun K3 hK3 => ?_)
  refine Wc.keep [(1, _), (5, _)] (.cons rfl (.cons rfl (.nil))) ?_
  refine Wc.region ?_
  refine Wl.val rfl rfl rfl (Gives.move rfl rfl) ?_
  refine Wl.val rfl rfl rfl (Gives.move rfl rfl) ?_
  refine Wl.val rfl rfl rfl (Gives.lenS rfl Tryd.underlying23 rfl) ?_
  refine Wl.call rfl rfl rfl rfl Tryd.func40 rfl (by kernel_rfl) rfl (uintR_calls _ S3 m3 k3 _ (hO3.bvA (Anew.top _)) (by omega) 4 ((n : Nat) : Int)) ?_
  rintro x4 w14 ⟨S4, m4, k4, rfl, hO4, hx4⟩
  refine ⟨_, rfl, ?_⟩
  replace hO4 := hO4.mono hE.size
  have hm4 := hO4.len
  have hm4' := uintS_len (uintS (sha256S (jFrame seq p)) 8 seq) 4 ((n : Nat) : Int)
  replace hE := hE.trans hx4
  refine Wl.val rfl rfl rfl (Gives.move rfl rfl) ?_
  refine Wl.does rfl rfl rfl (Does.appO rfl Tryd.underlying23 infoB rfl rfl hO4 (ha.ext hE) (by omega) hE.size) ?_
  rintro _ w25 ⟨S5, k5, rfl, hO5, hB5⟩
  replace hE := Ext.step hE hB5 (by omega)
  refine Wl.val rfl rfl rfl (Gives.assign rfl rfl) ?_
  refine Wl.nil ?_
  refine Wx.thenN (hK3 _ _ ?_)
  refine Wc.ret ?_
  refine Wx.ret [_] ⟨rfl, trivial⟩ ?_
  have hO6 : OB w25 w.heap.size 5 S5 (m4 + n) k5 (recordS seq p) := by unfold recordS markS; rw [hal]; exact hO5
  have h7 := hO6.len
  rw [record_len] at h7
  have h8 : m4 + n = 44 + n := by omega
  rw [h8] at hO6
  exact ⟨_, _, by rw [h8]; rfl, hO6, hE⟩
theorem based_calls (w : World) (b : Int) : Calls Tryd.prog 31 #[.int .i64 b] w fun e w' => e = .returned (.bool (basedS b)) ∧ Ext w w' := by
  refine calls_enter Tryd.func31 rfl Tryd.ntmps31 rfl ?_
  have hE : Ext w w := Ext.refl w
  refine Wc.seq (fun K1 hK1 => ?_)
  refine Wc.keep [(0, _)] (.cons rfl (.nil)) ?_
  refine Wc.region ?_
  refine Wl.val rfl rfl rfl (Gives.assign rfl rfl) ?_
  refine Wl.nil ?_
  refine Wx.thenN (hK1 _ _ ?_)
  refine Wc.seq (fun K2 hK2 => ?_)
  refine Wc.keep [(0, _)] (.cons rfl (.nil)) ?_
  refine Wc.region ?_
  refine Wl.val rfl rfl rfl (Gives.move rfl rfl) ?_
  refine Wl.val rfl rfl rfl (Gives.geq rfl rfl rfl) ?_
  refine Wl.val rfl rfl rfl (Gives.move rfl rfl) ?_
  refine Wl.guard rfl rfl rfl (fun h5 => ?_) (fun h5 => ?_)
  · (first | replace h5 := of_decide_eq_true h5 | replace h5 := nd_true h5 | skip)
    refine Wl.val rfl rfl rfl (Gives.move rfl rfl) ?_
    refine Wl.val rfl rfl rfl (Gives.leq rfl rfl rfl) ?_
    refine Wl.val rfl rfl rfl (Gives.pickT rfl rfl rfl rfl) ?_
    refine Wl.val rfl rfl rfl (Gives.assign rfl rfl) ?_
    refine Wl.nil ?_
    refine Wx.thenN (hK2 _ _ ?_)
    refine Wc.ret ?_
    refine Wx.ret [_] ⟨rfl, trivial⟩ ?_
    exact ⟨by unfold basedS; rw [decide_eq_true (show (0 : Int) ≤ b by omega), Bool.true_and]; rfl, hE⟩
  · (first | replace h5 := of_decide_eq_false h5 | replace h5 := nd_false h5 | skip)
    refine Wl.pass rfl rfl rfl ?_
    refine Wl.pass rfl rfl rfl ?_
    refine Wl.val rfl rfl rfl (Gives.pickF rfl rfl rfl rfl) ?_
    refine Wl.val rfl rfl rfl (Gives.assign rfl rfl) ?_
    refine Wl.nil ?_
    refine Wx.thenN (hK2 _ _ ?_)
    refine Wc.ret ?_
    refine Wx.ret [_] ⟨rfl, trivial⟩ ?_
    exact ⟨by unfold basedS; rw [decide_eq_false (show ¬ (0 : Int) ≤ b by omega)]; rfl, hE⟩
end Go.Proofs.YtbbeoojlgfegjaaDoor
