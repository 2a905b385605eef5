/- More laws for the walk. -/
import Derived.Test.YtnbgieccindpnaaDoorLib
namespace Go.Proofs.YtnbgieccindpnaaDoor
set_option linter.all false
set_option maxRecDepth 20000
open Go.RowKit
set_option linter.unusedVariables false
set_option linter.unusedSimpArgs false
/-- The address of a slice cut from element k on (elements of s cells). -/
def cutAddr (A : Option Addr) (c k s : Nat) : Option Addr := if c = k then A else A.map (·.add (k * s))
section
variable {P : Program} (w : World) (t : TypeId) (A : Option Addr) (n c : Nat) (ht : P.underlying t = some (.slice (P.elem t)))
include ht
theorem run_cut_l (kl : IntKind) (l : Int) (h0 : 0 ≤ l) (h1 : l ≤ n) :
    (Instr.slice t (.slice A n c) (some (.int kl l)) none none).run P w = ((sizeOf (P.elem t)).run P w).andThen fun s w => .ok (.slice (cutAddr A c l.toNat s) (n - l.toNat) (c - l.toNat)) w := by
  rw [run_slice_l w t A n c ht kl l h0 h1]; rfl
theorem run_cut_lh (kl kh : IntKind) (l h : Int) (h0 : 0 ≤ l) (h1 : l ≤ h) (h2 : h ≤ c) :
    (Instr.slice t (.slice A n c) (some (.int kl l)) (some (.int kh h)) none).run P w = ((sizeOf (P.elem t)).run P w).andThen fun s w => .ok (.slice (cutAddr A c l.toNat s) (h.toNat - l.toNat) (c - l.toNat)) w := by
  rw [run_slice_lh w t A n c ht kl kh l h h0 h1 h2]; rfl
theorem cut_zero (m s : Nat) : (if m = 0 then A else A.map (·.add (0 * s))) = A := by
  split
  · rfl
  · cases A with
    | none => rfl
    | some p => simp [Addr.add]
theorem run_cut_h (kh : IntKind) (h : Int) (h0 : 0 ≤ h) (h2 : h ≤ c) :
    (Instr.slice t (.slice A n c) none (some (.int kh h)) none).run P w = ((sizeOf (P.elem t)).run P w).andThen fun s w => .ok (.slice A h.toNat c) w := by
  rw [run_slice_h w t A n c ht kh h h0 h2]
  congr 1
  funext s w
  unfold sliced
  rw [cut_zero t A ht]
  rfl
theorem run_cut_hm (kh km : IntKind) (h m : Int) (h0 : 0 ≤ h) (h2 : h ≤ m) (h3 : m ≤ c) :
    (Instr.slice t (.slice A n c) none (some (.int kh h)) (some (.int km m))).run P w = ((sizeOf (P.elem t)).run P w).andThen fun s w => .ok (.slice A h.toNat m.toNat) w := by
  rw [run_slice_hm w t A n c ht kh km h m h0 h2 h3]
  congr 1
  funext s w
  unfold sliced
  rw [cut_zero t A ht]
  rfl
end
section
variable {S : Nat → Prop} {w : World} {n c k h size : Nat} {A : Option Addr} {l : List UInt8} {xs : List Value}
theorem Row.cut (hr : Row w S size A n c xs) (hk : k ≤ n) : Row w S size (cutAddr A c k size) (n - k) (c - k) (xs.drop (k * size)) := hr.drop hk
theorem BV.cut (hr : BV w S A n c l) (hk : k ≤ n) : BV w S (cutAddr A c k 1) (n - k) (c - k) (l.drop k) := BV.of_drop (Row.cut hr hk)
theorem BV.cut2 (hr : BV w S A n c l) (hk : k ≤ h) (hh : h ≤ n) : BV w S (cutAddr A c k 1) (h - k) (c - k) ((l.take h).drop k) := BV.cut (BV.take hr hh) hk
theorem Row.cap (hr : Row w S size A n c xs) {c' : Nat} (h : n ≤ c') (h2 : c' ≤ c) : Row w S size A n c' xs := ⟨hr.1, h, Nat.le_trans h2 hr.2.2.1, hr.2.2.2⟩
theorem BV.cap (hr : BV w S A n c l) {c' : Nat} (h : n ≤ c') (h2 : c' ≤ c) : BV w S A n c' l := Row.cap hr h h2
end
section
variable {P : Program} {ops : Array Oper} {rest : List Oper} {o : Oper} {a : Act} {Q : Exit → Act → World → Prop} {S : Nat → Prop}
/-- any elements onto a row of the call's own, which lies from block 'base' on -/
theorem wpList_appG {w : World} (hgd : Region.wanted o (yielded ops a.tmps) = true) (s x : Operand) (t : TypeId)
    (ho : o.op = .call { callee := .builtin .append, args := #[s, x], argTypes := #[t, t] })
    (e : TypeId) (z : Value) (size bytes : Nat) (hinf : (P.info? e).map (fun i => (i.zero, i.size, i.bytes)) = some (some z, size, bytes)) (ht : P.underlying t = some (.slice e)) (hzs : z.cells.size = size) (hsz : 0 < size)
    (base : Nat) (B : Option Addr) (n sc : Nat) (xs : List Value) (hs : a.eval s = .slice B n sc) (hown : w.ownsRow base e size (.slice B n sc) n xs)
    (A : Option Addr) (m c : Nat) (ys : List Value) (hx : a.eval x = .slice A m c) (hr : Row w S size A m c ys) (h1 : ∀ u ∈ ys, u.oneCell' = true)
    (hbytes : (n + m) * bytes ≤ 140737488355328) (hpos : 0 < bytes) (hb : base ≤ w.heap.size)
    (h : ∀ B' sc' w', w'.ownsRow base e size (.slice B' (n + m) sc') (n + m) (xs ++ ys) → Below base w w' → wpList P ops Q rest (a.put o.dst (.slice B' (n + m) sc')) w') :
    wpList P ops Q (o :: rest) a w := by
  obtain ⟨i, hi, hz0, hz1, hz2⟩ := info_parts hinf
  exact BigFrame.wpList_want hgd fun K hK => wp_app w s x t ho base e i z size bytes ht hi hz0 hz1 hz2 hzs hsz B n sc xs hs hown A m c ys hx hr h1 hbytes hpos hb
    fun B' sc' w' h1 h2 _ => hK _ _ (h B' sc' w' h1 ((Below.refl base w).grown h2 hb (own_row_base hown)))
theorem wpList_appO {w : World} (hgd : Region.wanted o (yielded ops a.tmps) = true) (s x : Operand) (t : TypeId)
    (ho : o.op = .call { callee := .builtin .append, args := #[s, x], argTypes := #[t, t] })
    (e : TypeId) (hinf : (P.info? e).map (fun i => (i.zero, i.size, i.bytes)) = some (some (.int .u8 0), 1, 1)) (ht : P.underlying t = some (.slice e))
    (base : Nat) (B : Option Addr) (n sc : Nat) (l : List UInt8) (hs : a.eval s = .slice B n sc) (hown : OB w base e B n sc l)
    (A : Option Addr) (m c : Nat) (r : List UInt8) (hx : a.eval x = .slice A m c) (hr : BV w S A m c r)
    (hbytes : n + m ≤ 140737488355328) (hb : base ≤ w.heap.size)
    (h : ∀ B' sc' w', OB w' base e B' (n + m) sc' (l ++ r) → Below base w w' → wpList P ops Q rest (a.put o.dst (.slice B' (n + m) sc')) w') :
    wpList P ops Q (o :: rest) a w :=
  wpList_appG hgd s x t ho e _ 1 1 hinf ht rfl (by decide) base B n sc (u8s l) hs hown A m c (u8s r) hx hr (u8s_one r) (by omega) (by decide) hb
    fun B' sc' w' h1 h2 => h B' sc' w' (by rw [u8s_append] at h1; exact h1) h2
theorem Ext.step {a w w' : World} {base : Nat} (h : Ext a w) (k : Below base w w') (hb : a.heap.size ≤ base) : Ext a w' := Below.trans h.below (k.mono hb)
end
end Go.Proofs.YtnbgieccindpnaaDoor
