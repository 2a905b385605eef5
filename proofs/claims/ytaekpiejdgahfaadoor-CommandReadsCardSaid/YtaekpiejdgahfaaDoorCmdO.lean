/- Commands: reading, what is kept of readers and rows. -/
import Derived.Test.YtaekpiejdgahfaaDoorCmdP5
import Derived.Test.YtaekpiejdgahfaaDoorOwn
import Derived.Test.YtaekpiejdgahfaaDoorWireQ2
import Derived.Test.YtaekpiejdgahfaaDoorWireRB
namespace Go.Proofs.YtaekpiejdgahfaaDoor
set_option linter.all false
open Go.RowKit
theorem rdUint_b (r : Rd) (k : Int) : (rdUint r k).1.b = r.b := by unfold rdUint; repeat' split
                                                                   all_goals rfl
theorem rdBlob_b (r : Rd) (k : Int) : (rdBlob r k).1.b = r.b := by unfold rdBlob; repeat' split
                                                                   all_goals rfl
/-- A reader in its box, its bytes below block N. -/
structure RDX (t : TypeId) (w : World) (g N : Nat) (A : Option Addr) (n c : Nat) (r : Rd) : Prop where
  rd : RD t w g A n c r
  bv : BV w (fun k => k ≠ g ∧ k < N) A n c r.b
  lt : g < N
section
variable {t : TypeId} {w w' : World} {g N n c : Nat} {A : Option Addr} {r : Rd} {P : Nat → Prop}
theorem RDX.fr (h : RDX t w g N A n c r) (f : Fr P w w') (hp : ∀ k, k < N → P k) : RDX t w' g N A n c r :=
  have hb : BV w' (fun k => k ≠ g ∧ k < N) A n c r.b := h.bv.fr (f.mono fun k hk => hp k hk.2)
  ⟨⟨h.rd.1.fr f (hp g h.lt), hb.mono fun k hk => hk.1, h.rd.2.2⟩, hb, h.lt⟩
theorem RDX.ext (h : RDX t w g N A n c r) (e : Ext w w') : RDX t w' g N A n c r := h.fr (P := fun _ => True) e.fr (fun _ _ => trivial)
theorem RDX.next {r' : Rd} (h : RDX t w g N A n c r) (h' : RD t w' g A n c r') (hb : r'.b = r.b) (f : Fr (fun k => k ≠ g) w w') : RDX t w' g N A n c r' :=
  ⟨h', by rw [hb]; exact h.bv.fr (f.mono fun k hk => hk.1), h.lt⟩
theorem RDX.up {N' : Nat} (h : RDX t w g N A n c r) (hN : N ≤ N') : RDX t w g N' A n c r := ⟨h.rd, h.bv.mono fun k hk => ⟨hk.1, by omega⟩, by have := h.lt; omega⟩
end
/-- What a read of a number leaves: the number, the reader, all else as it was. -/
def UintX (t : TypeId) (w : World) (g N : Nat) (A : Option Addr) (n c : Nat) (x : Rd × Int) (e : Ending) (w' : World) : Prop := e = .returned (.int .i64 x.2) ∧ RDX t w' g N A n c x.1 ∧ Fr (fun k => k ≠ g) w w'
def BlobX (t : TypeId) (w : World) (g N : Nat) (A : Option Addr) (n c : Nat) (x : Rd × List UInt8) (e : Ending) (w' : World) : Prop := ∃ S m k, e = .returned (.slice S m k) ∧ OB w' w.heap.size 5 S m k x.2 ∧ RDX t w' g N A n c x.1 ∧ Fr (fun k => k ≠ g) w w'
theorem rUint_x (w : World) (g N : Nat) (A : Option Addr) (n c : Nat) (r : Rd) (size : Int) (h : RDX 92 w g N A n c r) :
    Calls Tryd.prog 41 #[.pointer (some ⟨g, 0, none⟩), .int .i64 size] w (UintX 92 w g N A n c (rdUint r size)) :=
  (rUint_calls w g A n c r.b r.at_ r.e size h.rd).mono fun e w' ⟨v, r', he, hv, hR, hF⟩ => by
    obtain ⟨rfl, rfl⟩ := hv.out
    exact ⟨he, h.next hR (rdUint_b r size) hF, hF⟩
theorem rBlob_x (w : World) (g N : Nat) (A : Option Addr) (n c : Nat) (r : Rd) (most : Int) (h : RDX 92 w g N A n c r) :
    Calls Tryd.prog 42 #[.pointer (some ⟨g, 0, none⟩), .int .i64 most] w (BlobX 92 w g N A n c (rdBlob r most)) :=
  (rBlob_calls w g A n c r.b r.at_ r.e most h.rd).mono fun e w' ⟨S, m, k, l, r', he, hv, hR, hO, hF⟩ => by
    obtain ⟨rfl, rfl⟩ := hv.out
    exact ⟨S, m, k, he, hO, h.next hR (rdBlob_b r most) hF, hF⟩
theorem rEnd_x (w : World) (g N : Nat) (A : Option Addr) (n c : Nat) (r : Rd) (h : RDX 92 w g N A n c r) :
    Calls Tryd.prog 44 #[.pointer (some ⟨g, 0, none⟩)] w fun e w' => e = .returned (.int .i64 (rdEnd r)) ∧ Quiet w w' :=
  rEnd_calls w g A n c r.b r.at_ r.e h.rd
theorem sUint_x (w : World) (g N : Nat) (A : Option Addr) (n c : Nat) (r : Rd) (size : Int) (h : RDX 84 w g N A n c r) :
    Calls Tryd.prog 49 #[.pointer (some ⟨g, 0, none⟩), .int .i64 size] w (UintX 84 w g N A n c (rdUint r size)) :=
  (sUint_calls w g A n c r.b r.at_ r.e size h.rd).mono fun e w' ⟨v, r', he, hv, hR, hF⟩ => by
    obtain ⟨rfl, rfl⟩ := hv.out
    exact ⟨he, h.next hR (rdUint_b r size) hF, hF⟩
theorem sBlob_x (w : World) (g N : Nat) (A : Option Addr) (n c : Nat) (r : Rd) (most : Int) (h : RDX 84 w g N A n c r) :
    Calls Tryd.prog 50 #[.pointer (some ⟨g, 0, none⟩), .int .i64 most] w (BlobX 84 w g N A n c (rdBlob r most)) :=
  (sBlob_calls w g A n c r.b r.at_ r.e most h.rd).mono fun e w' ⟨S, m, k, l, r', he, hv, hR, hO, hF⟩ => by
    obtain ⟨rfl, rfl⟩ := hv.out
    exact ⟨S, m, k, he, hO, h.next hR (rdBlob_b r most) hF, hF⟩
theorem sEnd_x (w : World) (g N : Nat) (A : Option Addr) (n c : Nat) (r : Rd) (h : RDX 84 w g N A n c r) :
    Calls Tryd.prog 51 #[.pointer (some ⟨g, 0, none⟩)] w fun e w' => e = .returned (.int .i64 (rdEnd r)) ∧ Quiet w w' :=
  sEnd_calls w g A n c r.b r.at_ r.e h.rd
theorem rErr_x (w : World) (g N : Nat) (A : Option Addr) (n c : Nat) (r : Rd) (h : RDX 92 w g N A n c r) :
    Calls Tryd.prog 43 #[.pointer (some ⟨g, 0, none⟩)] w fun e w' => e = .returned (.int .i64 r.e) ∧ w = w' := rErr_calls w g A n c r.b r.at_ r.e h.rd
/-- New: the reader, below any later block -/
theorem NewRd.x {t : TypeId} {w w' : World} {l : List UInt8} {e : Ending} (h : NewRd t w l e w') : ∃ g A n c, e = .returned (.pointer (some ⟨g, 0, none⟩)) ∧ w.heap.size ≤ g ∧ RDX t w' g w'.heap.size A n c ⟨l, 0, 0⟩ ∧ Ext w w' := by
  obtain ⟨g, A, n, c, he, hg, hR, hE⟩ := h
  exact ⟨g, A, n, c, he, hg, ⟨hR, hR.2.1.bd, hR.1.lt⟩, hE⟩
/-! rows of ints -/
theorem infoI : (Tryd.prog.info? 3).map (fun i => (i.zero, i.size, i.bytes)) = some (some (.int .i64 0), 1, 8) := by kernel_rfl
theorem infoI2 : (Tryd.prog.info? 3).map (fun i => (i.zero, i.size)) = some (some (.int .i64 0), 1) := by kernel_rfl
def OI (w : World) (base : Nat) (A : Option Addr) (n c : Nat) (l : List Int) : Prop := w.ownsRow base 3 1 (.slice A n c) n (i64s l)
section
variable {P : Nat → Prop} {w w' : World} {base n c k : Nat} {A : Option Addr} {l : List Int}
theorem OI.fr (h : OI w base A n c l) (f : Fr P w w') (hb : ∀ k, base ≤ k → P k) : OI w' base A n c l := own_fr h f hb
theorem OI.ext (h : OI w base A n c l) (f : Ext w w') : OI w' base A n c l := own_ext h f
theorem OI.nil_ (w : World) (base : Nat) : OI w base none 0 0 [] := World.ownsRow_nil _ _ _ _
theorem OI.iv (h : OI w base A n c l) (hb : ∀ k, base ≤ k → P k) : IV w P A n c l := Row.of_own h hb
theorem OI.low {base' : Nat} (h : OI w base A n c l) (hb : base' ≤ base) : OI w base' A n c l := own_mono h hb
end
section
variable {n : Nat} {e : Env} {w : World} {o : Oper} {x y : Operand} {S : Nat → Prop}
theorem Does.appI {base g : Nat} {B : Option Addr} {p sc : Nat} {l : List Int} {z : Int} (ho : o.op = .call { callee := .builtin .append, args := #[x, y], argTypes := #[29, 29] })
    (hx : ev e x = some (.slice B p sc)) (hy : ev e y = some (.slice (some ⟨g, 0, none⟩) 1 1)) (hown : OI w base B p sc l) (hg : Blk w g 3 [Value.int .i64 z].toArray) (hp : p ≤ 1000000) (hb : base ≤ w.heap.size) :
    Does Tryd.prog n o e w (fun v w' => ∃ B' sc', v = .slice B' (p + 1) sc' ∧ OI w' base B' (p + 1) sc' (l ++ [z]) ∧ Below base w w') := by
  have hr : Row w (fun _ => True) 1 (some ⟨g, 0, none⟩) 1 1 [Value.int .i64 z] := ⟨rfl, Nat.le_refl _, by simp [maxLen], fun _ => ⟨g, 0, rfl, hg.lt, trivial, fun i v hv => by rw [Nat.zero_add]; exact (hg.cell i).trans (by simpa using hv)⟩⟩
  refine (Does.appG ho Tryd.underlying29 infoI rfl (by decide) hx hy hown hr (by simp [Value.oneCell']) (by omega) (by decide) hb).mono ?_
  rintro v w' ⟨B', sc', rfl, h1, h2⟩
  exact ⟨B', sc', rfl, by unfold OI i64s at *; rw [List.map_append]; exact h1, h2⟩
end
/-! rows of authorizations -/
theorem infoU : (Tryd.prog.info? 38).map (fun i => (i.zero, i.size, i.bytes)) = some (some (.agg #[.int .i64 0, .slice none 0 0, .slice none 0 0]), 3, 56) := by kernel_rfl
theorem infoU2 : (Tryd.prog.info? 38).map (fun i => (i.zero, i.size)) = some (some (.agg #[.int .i64 0, .slice none 0 0, .slice none 0 0]), 3) := by kernel_rfl
def OAu (w : World) (S : Nat → Prop) (base : Nat) (A : Option Addr) (n c : Nat) (l : List Auth) : Prop :=
  ∃ vs, w.ownsRow base 38 3 (.slice A n c) n vs ∧ EachA w (NOwn w S (.slice A n c)) vs l ∧ ∀ u ∈ vs, u.oneCell' = true
section
variable {P : Nat → Prop} {w w' : World} {base n c k : Nat} {A : Option Addr} {ls : List Auth} {S S' : Nat → Prop}
theorem OAu.fr (h : OAu w S base A n c ls) (f : Fr P w w') (hb : ∀ k, base ≤ k → P k) (hs : ∀ k, S k → P k) : OAu w' S base A n c ls :=
  let ⟨vs, ho, he, h1⟩ := h
  ⟨vs, own_fr ho f hb, (he.fr (f.mono fun k hk => hs k hk.1)).mono fun k hk => ⟨hk.1, Nat.lt_of_lt_of_le hk.2.1 f.size, hk.2.2⟩, h1⟩
theorem OAu.ext (h : OAu w S base A n c ls) (f : Ext w w') : OAu w' S base A n c ls := h.fr (P := fun _ => True) f.fr (fun _ _ => trivial) (fun _ _ => trivial)
theorem OAu.nil_ (w : World) (S : Nat → Prop) (base : Nat) : OAu w S base none 0 0 [] := ⟨[], World.ownsRow_nil _ _ _ _, EachA.nil_, by simp⟩
theorem OAu.av (h : OAu w S base A n c ls) (hb : ∀ k, base ≤ k → P k) (hs : ∀ k, S k → P k) : AV w P A n c ls := let ⟨vs, ho, he, _⟩ := h; ⟨vs, Row.of_own ho hb, he.mono fun k hk => hs k hk.1⟩
theorem OAu.own (h : OAu w S base A n c ls) : ∃ vs, w.ownsRow base 38 3 (.slice A n c) n vs := let ⟨vs, ho, _⟩ := h; ⟨vs, ho⟩
end
section
variable {n : Nat} {e : Env} {w : World} {o : Oper} {x y : Operand} {S : Nat → Prop}
theorem Does.appU {base g : Nat} {B N V : Option Addr} {p sc nn nc vn vc : Nat} {ls : List Auth} {a : Auth} (ho : o.op = .call { callee := .builtin .append, args := #[x, y], argTypes := #[30, 30] })
    (hx : ev e x = some (.slice B p sc)) (hy : ev e y = some (.slice (some ⟨g, 0, none⟩) 1 1)) (hown : OAu w S base B p sc ls) (hg : Blk w g 38 [Value.int .i64 a.ses, Value.slice N nn nc, Value.slice V vn vc].toArray) (h1 : BV w (NOwn w S (.slice B p sc)) N nn nc a.nonce) (h2 : BV w (NOwn w S (.slice B p sc)) V vn vc a.val) (hp : p ≤ 1000000) (hb : base ≤ w.heap.size) :
    Does Tryd.prog n o e w (fun v w' => ∃ B' sc', v = .slice B' (p + 1) sc' ∧ OAu w' S base B' (p + 1) sc' (ls ++ [a]) ∧ Below base w w') := by
  obtain ⟨vs, hw1, hw2, hw3⟩ := hown
  have hr : Row w (fun _ => True) 3 (some ⟨g, 0, none⟩) 1 1 (authC a.ses N nn nc V vn vc) := ⟨rfl, Nat.le_refl _, by simp [maxLen], fun _ => ⟨g, 0, rfl, hg.lt, trivial, fun i v hv => by rw [Nat.zero_add]; exact (hg.cell i).trans (by simpa [authC] using hv)⟩⟩
  have hone : ∀ u ∈ authC a.ses N nn nc V vn vc, u.oneCell' = true := by
    intro u hu
    simp only [authC, List.mem_cons, List.not_mem_nil, or_false] at hu
    rcases hu with rfl | rfl | rfl <;> rfl
  refine (Does.appX ho Tryd.underlying30 infoU rfl (by decide) hx hy hw1 hr hone (by omega) (by decide) hb).mono ?_
  rintro v w' ⟨B', sc', rfl, h3, h4, h5, h6⟩
  have key : ∀ k, NOwn w S (.slice B p sc) k → NOwn w (fun _ => True) (.slice B p sc) k := fun k hk => ⟨trivial, hk.2⟩
  refine ⟨B', sc', rfl, ⟨_, h3, ?_, ?_⟩, h4⟩
  · exact ((hw2.snoc h1 h2).fr (h5.mono key)).mono fun k hk => ⟨hk.1, (h6 k (key k hk)).2⟩
  · intro u hu
    rcases List.mem_append.1 hu with h | h
    · exact hw3 u h
    · exact hone u h
end
end Go.Proofs.YtaekpiejdgahfaaDoor
