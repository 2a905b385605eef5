/- Rows of a call's own that hold slices: what they hold stays while they grow. -/
import Derived.Test.YtnbgieccindpnaaDoorVc5
import Derived.Test.YtnbgieccindpnaaDoorVcA
namespace Go.Proofs.YtnbgieccindpnaaDoor
set_option linter.all false
set_option maxRecDepth 20000
open Go.RowKit
theorem own_lt {w : World} {base e size n c : Nat} {A : Option Addr} {xs : List Value} (h : w.ownsRow base e size (.slice A n c) n xs) : ∀ k, Value.ownBlock (.slice A n c) = some k → base ≤ k ∧ k < w.heap.size := fun k hk => h.lt k hk
theorem own_fr {P : Nat → Prop} {w w' : World} {base e size n c : Nat} {A : Option Addr} {xs : List Value} (h : w.ownsRow base e size (.slice A n c) n xs) (f : Fr P w w') (hp : ∀ k, base ≤ k → P k) : w'.ownsRow base e size (.slice A n c) n xs := by
  refine ⟨h.1, ?_⟩
  rcases h.2 with h2 | ⟨g, cap, cur, hv, hb, hg, r⟩
  · exact Or.inl h2
  · exact Or.inr ⟨g, cap, cur, hv, hb, (f.block g (Array.getElem?_eq_some_iff.1 hg).1 (hp g hb)).trans hg, r⟩
theorem own_mono {w : World} {base base' e size n c : Nat} {A : Option Addr} {xs : List Value} (h : w.ownsRow base e size (.slice A n c) n xs) (hb : base' ≤ base) : w.ownsRow base' e size (.slice A n c) n xs := World.ownsRow.mono h hb
/-- S, there, and not the block of the row v -/
def NOwn (w : World) (S : Nat → Prop) (v : Value) (k : Nat) : Prop := S k ∧ k < w.heap.size ∧ Value.ownBlock v ≠ some k
theorem Row.bd {w : World} {P : Nat → Prop} {size n c : Nat} {A : Option Addr} {xs : List Value} (h : Row w P size A n c xs) : Row w (fun k => P k ∧ k < w.heap.size) size A n c xs :=
  ⟨h.1, h.2.1, h.2.2.1, fun hn => let ⟨b, off, hA, hb, hP, hc⟩ := h.2.2.2 hn; ⟨b, off, hA, hb, ⟨hP, hb⟩, hc⟩⟩
theorem BV.bd {w : World} {P : Nat → Prop} {n c : Nat} {A : Option Addr} {l : List UInt8} (h : BV w P A n c l) : BV w (fun k => P k ∧ k < w.heap.size) A n c l := Row.bd h
section
variable {P : Program} {n : Nat} {e : Env} {w : World} {o : Oper} {x y : Operand} {t el : TypeId} {S : Nat → Prop}
/-- 'append' onto a row of the call's own, any elements; what lies elsewhere stays -/
theorem Does.appX {zv : Value} {size bytes base : Nat} {A B : Option Addr} {m c p sc : Nat} {xs ys : List Value} {T : Nat → Prop} (ho : o.op = .call { callee := .builtin .append, args := #[x, y], argTypes := #[t, t] }) (ht : P.underlying t = some (.slice el)) (hinf : (P.info? el).map (fun i => (i.zero, i.size, i.bytes)) = some (some zv, size, bytes)) (hzs : zv.cells.size = size) (hsz : 0 < size)
    (hx : ev e x = some (.slice B p sc)) (hy : ev e y = some (.slice A m c)) (hown : w.ownsRow base el size (.slice B p sc) p xs) (hr : Row w T size A m c ys) (h1 : ∀ u ∈ ys, u.oneCell' = true) (hbytes : (p + m) * bytes ≤ 140737488355328) (hpos : 0 < bytes) (hb : base ≤ w.heap.size) :
    Does P n o e w (fun v w' => ∃ B' sc', v = .slice B' (p + m) sc' ∧ w'.ownsRow base el size (.slice B' (p + m) sc') (p + m) (xs ++ ys) ∧ Below base w w' ∧
      Fr (NOwn w (fun _ => True) (.slice B p sc)) w w' ∧ ∀ k, NOwn w (fun _ => True) (.slice B p sc) k → NOwn w' (fun _ => True) (.slice B' (p + m) sc') k) :=
  fun a ha ops Q rest hw hK => by
    obtain ⟨i, hi, hz0, hz1, hz2⟩ := info_parts hinf
    refine BigFrame.wpList_want hw fun K hk => wp_app w x y t ho base el i zv size bytes ht hi hz0 hz1 hz2 hzs hsz B p sc xs (ha.ev hx) hown A m c ys (ha.ev hy) hr h1 hbytes hpos hb fun B' sc' w' h1 h2 h3 => hk _ _ (hK _ w' ⟨B', sc', rfl, h1, ?_, ?_, ?_⟩)
    · exact (Below.refl base w).grown h2 hb (own_row_base hown)
    · have hB := (Below.refl base w).grown h2 hb (own_row_base hown)
      exact ⟨hB.os, hB.tape, hB.output, hB.size, fun k hk hP => h2.block k hk (fun he => hP.2.2 he.symm)⟩
    · have hB := (Below.refl base w).grown h2 hb (own_row_base hown)
      intro k hk
      refine ⟨trivial, Nat.lt_of_lt_of_le hk.2.1 hB.size, fun he => ?_⟩
      rcases h3 with h3 | h3
      · exact hk.2.2 (h3.symm.trans he)
      · rw [h3] at he; injection he with he; have := hk.2.1; omega
end
/-! rows of byte strings -/
theorem infoL : (Tryd.prog.info? 22).map (fun i => (i.zero, i.size, i.bytes)) = some (some (.slice none 0 0), 1, 24) := by kernel_rfl
theorem infoL2 : (Tryd.prog.info? 22).map (fun i => (i.zero, i.size)) = some (some (.slice none 0 0), 1) := by kernel_rfl
def OL (w : World) (S : Nat → Prop) (base : Nat) (A : Option Addr) (n c : Nat) (ls : List (List UInt8)) : Prop :=
  ∃ vs, w.ownsRow base 22 1 (.slice A n c) n vs ∧ Each w (NOwn w S (.slice A n c)) vs ls
section
variable {P : Nat → Prop} {w w' : World} {base n c k : Nat} {A : Option Addr} {ls : List (List UInt8)} {S S' : Nat → Prop}
theorem OL.fr (h : OL w S base A n c ls) (f : Fr P w w') (hb : ∀ k, base ≤ k → P k) (hs : ∀ k, S k → P k) : OL w' S base A n c ls :=
  let ⟨vs, ho, he⟩ := h
  ⟨vs, own_fr ho f hb, (he.fr (f.mono fun k hk => hs k hk.1)).mono fun k hk => ⟨hk.1, Nat.lt_of_lt_of_le hk.2.1 f.size, hk.2.2⟩⟩
theorem OL.ext (h : OL w S base A n c ls) (f : Ext w w') : OL w' S base A n c ls := h.fr (P := fun _ => True) f.fr (fun _ _ => trivial) (fun _ _ => trivial)
theorem OL.mono (h : OL w S base A n c ls) (hs : ∀ k, S k → S' k) : OL w S' base A n c ls := let ⟨vs, ho, he⟩ := h; ⟨vs, ho, he.mono fun k hk => ⟨hs k hk.1, hk.2⟩⟩
theorem OL.nil_ (w : World) (S : Nat → Prop) (base : Nat) : OL w S base none 0 0 [] := ⟨[], World.ownsRow_nil _ _ _ _, Each.nil_⟩
theorem OL.bl (h : OL w S base A n c ls) (hb : ∀ k, base ≤ k → P k) (hs : ∀ k, S k → P k) : BL w P A n c ls := let ⟨vs, ho, he⟩ := h; ⟨vs, Row.of_own ho hb, he.mono fun k hk => hs k hk.1⟩
theorem OL.own (h : OL w S base A n c ls) : ∃ vs, w.ownsRow base 22 1 (.slice A n c) n vs := let ⟨vs, ho, _⟩ := h; ⟨vs, ho⟩
theorem OL.len (h : OL w S base A n c ls) : ls.length = n := (h.bl (P := fun _ => True) (fun _ _ => trivial) (fun _ _ => trivial)).len
end
section
variable {n : Nat} {e : Env} {w : World} {o : Oper} {x y : Operand} {S : Nat → Prop}
/-- a byte string onto a row of byte strings -/
theorem Does.appL {base g : Nat} {B N : Option Addr} {p sc nn nc : Nat} {ls : List (List UInt8)} {l : List UInt8} (ho : o.op = .call { callee := .builtin .append, args := #[x, y], argTypes := #[32, 32] })
    (hx : ev e x = some (.slice B p sc)) (hy : ev e y = some (.slice (some ⟨g, 0, none⟩) 1 1)) (hown : OL w S base B p sc ls) (hg : Blk w g 22 [Value.slice N nn nc].toArray) (hl : BV w (NOwn w S (.slice B p sc)) N nn nc l) (hp : p ≤ 1000000) (hb : base ≤ w.heap.size) :
    Does Tryd.prog n o e w (fun v w' => ∃ B' sc', v = .slice B' (p + 1) sc' ∧ OL w' S base B' (p + 1) sc' (ls ++ [l]) ∧ Below base w w') := by
  obtain ⟨vs, hw1, hw2⟩ := hown
  have hr : Row w (fun _ => True) 1 (some ⟨g, 0, none⟩) 1 1 [Value.slice N nn nc] := ⟨rfl, Nat.le_refl _, by simp [maxLen], fun _ => ⟨g, 0, rfl, hg.lt, trivial, fun i v hv => by rw [Nat.zero_add]; exact (hg.cell i).trans (by simpa using hv)⟩⟩
  refine (Does.appX ho Tryd.underlying32 infoL rfl (by decide) hx hy hw1 hr (by simp [Value.oneCell']) (by omega) (by decide) hb).mono ?_
  rintro v w' ⟨B', sc', rfl, h1, h2, h3, h4⟩
  have key : ∀ k, NOwn w S (.slice B p sc) k → NOwn w (fun _ => True) (.slice B p sc) k := fun k hk => ⟨trivial, hk.2⟩
  refine ⟨B', sc', rfl, ⟨_, h1, ?_⟩, h2⟩
  exact ((hw2.snoc hl).fr (h3.mono key)).mono fun k hk => ⟨hk.1, (h4 k (key k hk)).2⟩
end
/-! rows of ints -/
end Go.Proofs.YtnbgieccindpnaaDoor
