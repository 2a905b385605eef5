/- Rows of the call's own in a window of blocks; one place of such a row written. -/
import Derived.Test.YtaekpiejdgahfaaDoorCmdF
namespace Go.Proofs.YtaekpiejdgahfaaDoor
set_option linter.all false
open Go.RowKit
/-- the block of the row lies below hi -/
def Win (A : Option Addr) (hi : Nat) : Prop := ∀ g o s, A = some ⟨g, o, s⟩ → g < hi
theorem Win.nil_ (hi : Nat) : Win none hi := fun g o s h => by cases h
theorem Win.of {w : World} {base e size n c : Nat} {A : Option Addr} {xs : List Value} (h : w.ownsRow base e size (.slice A n c) n xs) : Win A w.heap.size := fun g o s hA => by
  subst hA; exact (h.lt g rfl).2
theorem Win.mono {A : Option Addr} {a b : Nat} (h : Win A a) (hab : a ≤ b) : Win A b := fun g o s hA => Nat.lt_of_lt_of_le (h g o s hA) hab
section
variable {P : Nat → Prop} {w w' : World} {base hi e size n c : Nat} {A : Option Addr} {xs : List Value}
theorem own_frW (h : w.ownsRow base e size (.slice A n c) n xs) (hw : Win A hi) (f : Fr P w w') (hp : ∀ k, base ≤ k → k < hi → P k) : w'.ownsRow base e size (.slice A n c) n xs := by
  refine ⟨h.1, ?_⟩
  rcases h.2 with h2 | ⟨g, cap, cur, hv, hb, hg, r⟩
  · exact Or.inl h2
  · have hA : A = some ⟨g, 0, none⟩ := by simp only [Value.slice.injEq] at hv; exact hv.1
    exact Or.inr ⟨g, cap, cur, hv, hb, (f.block g (Array.getElem?_eq_some_iff.1 hg).1 (hp g hb (hw _ _ _ hA))).trans hg, r⟩
theorem own_win (h : w.ownsRow base e size (.slice A n c) n xs) (hw : Win A hi) (hP : ∀ k, base ≤ k → k < hi → P k) : Row w P size A n c xs := by
  refine ⟨h.1, (own_le h).1, (own_le h).2, fun hn => ?_⟩
  obtain ⟨g, cap, hv, hbg, hlt⟩ := h.form hn
  simp only [Value.slice.injEq] at hv
  obtain ⟨rfl, _, rfl⟩ := hv
  refine ⟨g, 0, rfl, hlt, hP _ hbg (hw _ _ _ rfl), fun i v hi => ?_⟩
  have := h.cells (g := g) rfl i v hi
  rw [Nat.zero_add]
  simpa [Addr.add_lit] using this
theorem own_head (h : w.ownsRow base e size (.slice A n c) n xs) (hn : 0 < n) : ∃ g, A = some ⟨g, 0, none⟩ ∧ base ≤ g ∧ g < w.heap.size := by
  obtain ⟨g, cap, hv, hbg, hlt⟩ := h.form hn
  simp only [Value.slice.injEq] at hv
  exact ⟨g, hv.1, hbg, hlt⟩
theorem own_frN {b : Nat} (h : w.ownsRow base e size (.slice A n c) n xs) (f : Fr (fun k => k ≠ b) w w') (hne : Value.ownBlock (.slice A n c) ≠ some b) : w'.ownsRow base e size (.slice A n c) n xs := by
  refine ⟨h.1, ?_⟩
  rcases h.2 with h2 | ⟨g, cap, cur, hv, hb, hg, r⟩
  · exact Or.inl h2
  · exact Or.inr ⟨g, cap, cur, hv, hb, (f.block g (Array.getElem?_eq_some_iff.1 hg).1 (fun he => hne (by rw [hv, he]; rfl))).trans hg, r⟩
/-- what is not the row's block -/
theorem NOwn.of {v : Value} {k : Nat} (hk : k < w.heap.size) (hne : Value.ownBlock v ≠ some k) : NOwn w (fun _ => True) v k := ⟨trivial, hk, hne⟩
theorem ownB_lo {k m : Nat} (h : w.ownsRow base e size (.slice A n c) n xs) (hk : k < base) : Value.ownBlock (.slice A m c) ≠ some k := fun he => by
  have := (own_lt h k (by cases A with | none => cases he | some a => exact he)).1; omega
theorem ownB_hi {k m : Nat} (hw : Win A hi) (hk : hi ≤ k) : Value.ownBlock (.slice A m c) ≠ some k := fun he => by
  cases A with
  | none => cases he
  | some a => obtain ⟨g, o, s⟩ := a; have h1 : g = k := Option.some.inj he; have := hw g o s rfl; omega
end
section
variable {P : Program} {n : Nat} {e : Env} {w : World} {o : Oper} {x y : Operand} {t el : TypeId} {v : Value}
/-- one cell of a row of the call's own written -/
theorem Does.stR {g i m c base size : Nat} {xs : List Value} (ho : o.op = .store t x y) (hx : ev e x = some (.pointer (some ⟨g, 0 + i, none⟩))) (hy : ev e y = some v) (h1 : v.oneCell' = true) (hown : w.ownsRow base el size (.slice (some ⟨g, 0, none⟩) m c) m xs) (hi : (P.info? t).map (·.size) = some 1) (hlt : i < xs.length) :
    Does P n o e w (fun _ w' => w'.ownsRow base el size (.slice (some ⟨g, 0, none⟩) m c) m (xs.set i v) ∧ Fr (fun k => k ≠ g) w w') := by
  have hl := hown.1
  rcases hown.2 with ⟨hv, h0⟩ | ⟨g', cap, cur, hv, hb, hg, hnc, hcm, hcs, ht⟩
  · simp only [Value.slice.injEq] at hv; cases hv.1
  · simp only [Value.slice.injEq, Option.some.injEq, Addr.mk.injEq, and_true, true_and] at hv
    obtain ⟨rfl, rfl⟩ := hv
    have hsz : i < cur.size := by
      have := congrArg List.length ht
      simp at this
      omega
    refine (Does.stC (i := 0 + i) ho hx hy (show Blk w g el cur from hg) hi (by omega) h1).mono fun _ w' ⟨h1, h2⟩ => ⟨⟨by simpa using hl, .inr ⟨g, c, cur.setIfInBounds i v, rfl, hb, by rw [Nat.zero_add] at h1; exact h1, hnc, hcm, by simpa using hcs, ?_⟩⟩, h2⟩
    rw [Array.toList_setIfInBounds, List.take_set, ht]
end
section
variable {n : Nat} {e : Env} {w : World} {o : Oper} {x y : Operand} {S : Nat → Prop}
/-- as appI, and what lies elsewhere stays -/
theorem Does.appI' {base g : Nat} {B : Option Addr} {p sc : Nat} {l : List Int} {z : Int} (ho : o.op = .call { callee := .builtin .append, args := #[x, y], argTypes := #[29, 29] })
    (hx : ev e x = some (.slice B p sc)) (hy : ev e y = some (.slice (some ⟨g, 0, none⟩) 1 1)) (hown : OI w base B p sc l) (hg : Blk w g 3 [Value.int .i64 z].toArray) (hp : p ≤ 1000000) (hb : base ≤ w.heap.size) :
    Does Tryd.prog n o e w (fun v w' => ∃ B' sc', v = .slice B' (p + 1) sc' ∧ OI w' base B' (p + 1) sc' (l ++ [z]) ∧ Below base w w' ∧ Fr (NOwn w (fun _ => True) (.slice B p sc)) w w' ∧ ∀ k, NOwn w (fun _ => True) (.slice B p sc) k → NOwn w' (fun _ => True) (.slice B' (p + 1) sc') k) := by
  have hr : Row w (fun _ => True) 1 (some ⟨g, 0, none⟩) 1 1 [Value.int .i64 z] := ⟨rfl, Nat.le_refl _, by simp [maxLen], fun _ => ⟨g, 0, rfl, hg.lt, trivial, fun i v hv => by rw [Nat.zero_add]; exact (hg.cell i).trans (by simpa using hv)⟩⟩
  refine (Does.appX ho Tryd.underlying29 infoI rfl (by decide) hx hy hown hr (by simp [Value.oneCell']) (by omega) (by decide) hb).mono ?_
  rintro v w' ⟨B', sc', rfl, h1, h2, h3, h4⟩
  exact ⟨B', sc', rfl, by unfold OI i64s at *; rw [List.map_append]; exact h1, h2, h3, h4⟩
theorem Does.appL' {base g : Nat} {B N : Option Addr} {p sc nn nc : Nat} {ls : List (List UInt8)} {l : List UInt8} (ho : o.op = .call { callee := .builtin .append, args := #[x, y], argTypes := #[31, 31] })
    (hx : ev e x = some (.slice B p sc)) (hy : ev e y = some (.slice (some ⟨g, 0, none⟩) 1 1)) (hown : OL w S base B p sc ls) (hg : Blk w g 36 [Value.slice N nn nc].toArray) (hl : BV w (NOwn w S (.slice B p sc)) N nn nc l) (hp : p ≤ 1000000) (hb : base ≤ w.heap.size) :
    Does Tryd.prog n o e w (fun v w' => ∃ B' sc', v = .slice B' (p + 1) sc' ∧ OL w' S base B' (p + 1) sc' (ls ++ [l]) ∧ Below base w w' ∧ Fr (NOwn w (fun _ => True) (.slice B p sc)) w w' ∧ ∀ k, NOwn w (fun _ => True) (.slice B p sc) k → NOwn w' (fun _ => True) (.slice B' (p + 1) sc') k) := by
  obtain ⟨vs, hw1, hw2⟩ := hown
  have hr : Row w (fun _ => True) 1 (some ⟨g, 0, none⟩) 1 1 [Value.slice N nn nc] := ⟨rfl, Nat.le_refl _, by simp [maxLen], fun _ => ⟨g, 0, rfl, hg.lt, trivial, fun i v hv => by rw [Nat.zero_add]; exact (hg.cell i).trans (by simpa using hv)⟩⟩
  refine (Does.appX ho Tryd.underlying31 infoL rfl (by decide) hx hy hw1 hr (by simp [Value.oneCell']) (by omega) (by decide) hb).mono ?_
  rintro v w' ⟨B', sc', rfl, h1, h2, h3, h4⟩
  have key : ∀ k, NOwn w S (.slice B p sc) k → NOwn w (fun _ => True) (.slice B p sc) k := fun k hk => ⟨trivial, hk.2⟩
  refine ⟨B', sc', rfl, ⟨_, h1, ?_⟩, h2, h3, h4⟩
  exact ((hw2.snoc hl).fr (h3.mono key)).mono fun k hk => ⟨hk.1, (h4 k (key k hk)).2⟩
end
section
variable {w : World} {S : Nat → Prop} {base g n c : Nat}
/-- the numbers, one replaced -/
theorem OI.head {A : Option Addr} {l : List Int} (h : OI w base A n c l) (hn : 0 < n) : ∃ g, A = some ⟨g, 0, none⟩ ∧ base ≤ g ∧ g < w.heap.size := own_head h hn
theorem i64s_set (l : List Int) (i : Nat) (z : Int) : (i64s l).set i (.int .i64 z) = i64s (l.set i z) := by simp [i64s, List.map_set]
theorem OL.offs {S' : Nat → Prop} {A : Option Addr} {ls : List (List UInt8)} (h : OL w S base A n c ls) (hs : ∀ k, S k → k < w.heap.size → S' k) : OL w S' base A n c ls := let ⟨vs, ho, he⟩ := h; ⟨vs, ho, he.mono fun k hk => ⟨hs k hk.1 hk.2.1, hk.2⟩⟩
theorem OL.frN {w' : World} {b : Nat} {A : Option Addr} {ls : List (List UInt8)} (h : OL w S base A n c ls) (f : Fr (fun k => k ≠ b) w w') (hne : Value.ownBlock (.slice A n c) ≠ some b) (hs : ∀ k, S k → k ≠ b) : OL w' (fun k => k ≠ b) base A n c ls :=
  let ⟨vs, ho, he⟩ := h
  ⟨vs, own_frN ho f hne, (he.fr (f.mono fun k hk => hs k hk.1)).mono fun k hk => ⟨hs k hk.1, Nat.lt_of_lt_of_le hk.2.1 f.size, hk.2.2⟩⟩
theorem OL.head {A : Option Addr} {ls : List (List UInt8)} (h : OL w S base A n c ls) (hn : 0 < n) : ∃ g, A = some ⟨g, 0, none⟩ ∧ base ≤ g ∧ g < w.heap.size := let ⟨vs, ho, _⟩ := h; own_head ho hn
theorem OAu.head {A : Option Addr} {ls : List Auth} (h : OAu w S base A n c ls) (hn : 0 < n) : ∃ g, A = some ⟨g, 0, none⟩ ∧ base ≤ g ∧ g < w.heap.size := let ⟨vs, ho, _⟩ := h; own_head ho hn
theorem EachA.set {P : Nat → Prop} {vs : List Value} {l : List Auth} {i : Nat} {a : Auth} (z : Int) (h : EachA w P vs l) (ha : l[i]? = some a) : EachA w P (vs.set (i * 3) (.int .i64 z)) (l.set i { a with ses := z }) := by
  refine ⟨by simp [h.1], fun j x hj => ?_⟩
  have hlen := h.1
  rw [List.getElem?_set] at hj
  by_cases hij : i = j
  · subst hij
    rw [if_pos rfl] at hj
    split at hj
    · rename_i hlt
      cases hj
      obtain ⟨N, nn, nc, V, vn, vc, h1, h2⟩ := h.2 i a ha
      refine ⟨N, nn, nc, V, vn, vc, fun q v hq => ?_, h2⟩
      have hq3 : q < 3 := (List.getElem?_eq_some_iff.1 hq).1
      rw [List.getElem?_set]
      by_cases h0 : q = 0
      · subst h0
        rw [if_pos (by omega), if_pos (by omega)]
        exact hq
      · rw [if_neg (by omega)]
        refine h1 q v ?_
        rw [← hq]
        match q, h0, hq3 with
        | 1, _, _ => rfl
        | 2, _, _ => rfl
    · cases hj
  · rw [if_neg hij] at hj
    obtain ⟨N, nn, nc, V, vn, vc, h1, h2⟩ := h.2 j x hj
    refine ⟨N, nn, nc, V, vn, vc, fun q v hq => ?_, h2⟩
    have hq3 : q < 3 := (List.getElem?_eq_some_iff.1 hq).1
    rw [List.getElem?_set, if_neg (by omega)]
    exact h1 q v hq
end
theorem Ext.nown {P : Nat → Prop} {a b c : World} (h : Ext a b) (f : Fr P b c) (hp : ∀ k, k < a.heap.size → P k) : Ext a c :=
  ⟨f.os.trans h.below.os, f.tape.trans h.below.tape, f.output.trans h.below.output, Nat.le_trans h.below.size f.size, fun k hk => (f.block k (Nat.lt_of_lt_of_le hk h.below.size) (hp k hk)).trans (h.below.block k hk)⟩
/-! rows in windows -/
structure IW (w : World) (lo hi : Nat) (A : Option Addr) (n c : Nat) (l : List Int) : Prop where
  own : OI w lo A n c l
  win : Win A hi
structure UW (w : World) (S : Nat → Prop) (lo hi : Nat) (A : Option Addr) (n c : Nat) (l : List Auth) : Prop where
  own : OAu w S lo A n c l
  win : Win A hi
section
variable {P : Nat → Prop} {w w' : World} {lo hi n c : Nat} {A : Option Addr} {l : List Int} {ls : List Auth} {S : Nat → Prop}
theorem IW.close (h : OI w lo A n c l) : IW w lo w.heap.size A n c l := ⟨h, Win.of h⟩
theorem IW.fr (h : IW w lo hi A n c l) (f : Fr P w w') (hp : ∀ k, lo ≤ k → k < hi → P k) : IW w' lo hi A n c l := ⟨own_frW h.own h.win f hp, h.win⟩
theorem IW.ext (h : IW w lo hi A n c l) (f : Ext w w') : IW w' lo hi A n c l := ⟨h.own.ext f, h.win⟩
theorem IW.iv (h : IW w lo hi A n c l) (hP : ∀ k, lo ≤ k → k < hi → P k) : IV w P A n c l := own_win h.own h.win hP
theorem UW.close (h : OAu w S lo A n c ls) : UW w S lo w.heap.size A n c ls := let ⟨vs, ho, _⟩ := h; ⟨h, Win.of ho⟩
theorem UW.fr (h : UW w S lo hi A n c ls) (f : Fr P w w') (hp : ∀ k, lo ≤ k → k < hi → P k) (hs : ∀ k, S k → P k) : UW w' S lo hi A n c ls :=
  let ⟨vs, ho, he, h1⟩ := h.own
  ⟨⟨vs, own_frW ho h.win f hp, (he.fr (f.mono fun k hk => hs k hk.1)).mono fun k hk => ⟨hk.1, Nat.lt_of_lt_of_le hk.2.1 f.size, hk.2.2⟩, h1⟩, h.win⟩
theorem UW.ext (h : UW w S lo hi A n c ls) (f : Ext w w') : UW w' S lo hi A n c ls := ⟨h.own.ext f, h.win⟩
theorem UW.av (h : UW w S lo hi A n c ls) (hP : ∀ k, lo ≤ k → k < hi → P k) (hs : ∀ k, S k → P k) : AV w P A n c ls := let ⟨vs, ho, he, _⟩ := h.own; ⟨vs, own_win ho h.win hP, he.mono fun k hk => hs k hk.1⟩
end
/-- A request of the call's own, its rows in windows; the bytes in it are old or newer than all other rows. -/
structure ShQ (w : World) (N0 N1 N2 N3 N4 : Nat) (q : Req) (r : RA) : Prop where
  l01 : N0 ≤ N1
  l12 : N1 ≤ N2
  l23 : N2 ≤ N3
  l34 : N3 ≤ N4
  l45 : N4 ≤ w.heap.size
  hs : IW w N1 N2 r.hA r.hn r.hc q.hs
  us : UW w (fun k => k < N0) N2 N3 r.aA r.an r.ac q.us
  is : IW w N3 N4 r.iA r.iN r.ic q.is
  bs : OL w (fun k => k < N0 ∨ N4 ≤ k) N4 r.bA r.bn r.bc q.bs
theorem ShQ.ext {w w' : World} {N0 N1 N2 N3 N4 : Nat} {q : Req} {r : RA} (h : ShQ w N0 N1 N2 N3 N4 q r) (f : Ext w w') : ShQ w' N0 N1 N2 N3 N4 q r := ⟨h.l01, h.l12, h.l23, h.l34, Nat.le_trans h.l45 f.size, h.hs.ext f, h.us.ext f, h.is.ext f, h.bs.ext f⟩
theorem ShQ.req {w : World} {N0 N1 N2 N3 N4 : Nat} {q : Req} {r : RA} (h : ShQ w N0 N1 N2 N3 N4 q r) : ReqV w (fun _ => True) q r :=
  ⟨h.hs.iv fun _ _ _ => trivial, h.us.av (fun _ _ _ => trivial) (fun _ _ => trivial), h.is.iv fun _ _ _ => trivial, h.bs.bl (fun _ _ => trivial) (fun _ _ => trivial)⟩
theorem shape_ok {k : Int} (h1 : 1 ≤ k) (h2 : k < 34) (h3 : k ≠ 3) : (shapeS k).ok = true := by
  obtain ⟨n, rfl⟩ := Int.eq_ofNat_of_zero_le (show 0 ≤ k by omega)
  have key : ∀ n < 34, n ≠ 0 → n ≠ 3 → (shapeS ((n : Nat) : Int)).ok = true := by decide
  exact key n (by omega) (by omega) (by omega)
theorem few_of {q : Req} (h : argOk q (shapeS q.code) = true) : FewQ q := by
  have hbd := shape_bounds q.code
  unfold argOk argF fitsS at h
  simp only [Bool.and_eq_true, Bool.or_eq_true, decide_eq_true_eq] at h
  obtain ⟨⟨⟨⟨e1, e2, e3, e4⟩, _⟩, _⟩, _⟩ := h
  exact ⟨by omega, by omega, by omega, by omega⟩
theorem few9 {q : Req} (h : argOk q (shapeS q.code) = true) : q.hs.length ≤ 900 ∧ q.us.length ≤ 900 ∧ q.is.length ≤ 900 ∧ q.bs.length ≤ 900 := by
  have hbd := shape_bounds q.code
  unfold argOk argF fitsS at h
  simp only [Bool.and_eq_true, Bool.or_eq_true, decide_eq_true_eq] at h
  obtain ⟨⟨⟨⟨e1, e2, e3, e4⟩, _⟩, _⟩, _⟩ := h
  exact ⟨by omega, by omega, by omega, by omega⟩
theorem all_snoc {α : Type} (p : α → Bool) (l : List α) (x : α) (h : l.all p = true) (hx : p x = true) : (l ++ [x]).all p = true := by rw [List.all_append, h]; simp [hx]
end Go.Proofs.YtaekpiejdgahfaaDoor
