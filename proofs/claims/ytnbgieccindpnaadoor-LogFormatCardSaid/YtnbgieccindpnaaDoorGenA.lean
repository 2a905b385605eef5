/- General words: rows within bounds, readers in their boxes, regions that turn nothing old. -/
import Derived.Test.YtnbgieccindpnaaDoorVc7
import Derived.Test.YtnbgieccindpnaaDoorWireQ2
import Derived.Test.YtnbgieccindpnaaDoorRef1
import Derived.Test.YtnbgieccindpnaaDoorOwn
import Derived.Test.YtnbgieccindpnaaDoorWireRB
import Derived.Test.YtnbgieccindpnaaDoorDraw
namespace Go.Proofs.YtnbgieccindpnaaDoor
set_option linter.all false
set_option maxRecDepth 20000
open Go.RowKit
theorem BL.at'' {w : World} {P : Nat → Prop} {n c k : Nat} {A : Option Addr} {ls : List (List UInt8)} (h : BL w P A n c ls) (hk : k < n) :
    ∃ b off, A = some ⟨b, off, none⟩ ∧ b < w.heap.size ∧ ∃ l A' n' c', ls[k]? = some l ∧ w.cell? ⟨b, off + k, none⟩ = some (.slice A' n' c') ∧ BV w P A' n' c' l := by
  have hlen := h.len
  obtain ⟨vs, hr, he⟩ := h
  obtain ⟨b, off, rfl, hb, _, hc⟩ := hr.2.2.2 (by omega)
  have hl : k < ls.length := by omega
  obtain ⟨A', n', c', hv, h3⟩ := he.2 k _ (List.getElem?_eq_getElem hl)
  exact ⟨b, off, rfl, hb, ls[k], A', n', c', List.getElem?_eq_getElem hl, hc k _ hv, h3⟩
theorem fold_take' {α β : Type} (f : β → α → β) (b : β) (l : List α) (i : Nat) (x : α) (h : l[i]? = some x) : (l.take (i + 1)).foldl f b = f ((l.take i).foldl f b) x := by
  obtain ⟨hi, hx⟩ := List.getElem?_eq_some_iff.1 h
  rw [List.take_succ_eq_append_getElem hi, List.foldl_append, hx]; rfl
theorem BL.bd {w : World} {P : Nat → Prop} {n c : Nat} {A : Option Addr} {l : List (List UInt8)} (h : BL w P A n c l) : BL w (fun k => k < w.heap.size) A n c l :=
  let ⟨vs, hr, he⟩ := h
  ⟨vs, hr.bd.mono fun _ hk => hk.2, he.1, fun i a ha => let ⟨N, nn, nc, h1, h2⟩ := he.2 i a ha; ⟨N, nn, nc, h1, h2.bd.mono fun _ hk => hk.2⟩⟩
theorem below_fr {base : Nat} {w w' : World} (h : Below base w w') : Fr (fun k => k < base) w w' := ⟨h.os, h.tape, h.output, h.size, fun k _ hp => h.block k hp⟩
theorem rdUint_b (r : Rd) (k : Int) : (rdUint r k).1.b = r.b := by
  unfold rdUint
  repeat' split
  all_goals rfl
theorem rdBlob_b (r : Rd) (k : Int) : (rdBlob r k).1.b = r.b := by
  unfold rdBlob
  repeat' split
  all_goals rfl
theorem rdRaw_b (r : Rd) (k : Int) : (rdRaw r k).1.b = r.b := by
  unfold rdRaw
  repeat' split
  all_goals rfl
theorem BL.bdP {w : World} {P : Nat → Prop} {n c : Nat} {A : Option Addr} {l : List (List UInt8)} (h : BL w P A n c l) : BL w (fun k => P k ∧ k < w.heap.size) A n c l :=
  let ⟨vs, hr, he⟩ := h
  ⟨vs, hr.bd, he.1, fun i a ha => let ⟨N, nn, nc, h1, h2⟩ := he.2 i a ha; ⟨N, nn, nc, h1, h2.bd⟩⟩
/-- A reader in its box, its bytes below block N. -/
structure RDX (t : TypeId) (w : World) (g N : Nat) (A : Option Addr) (n c : Nat) (r : Rd) : Prop where
  rd : RD t w g A n c r
  bv : BV w (fun k => k ≠ g ∧ k < N) A n c r.b
  lt : g < N
section
variable {t : TypeId} {w w' : World} {g N n c : Nat} {A : Option Addr} {r : Rd} {P : Nat → Prop}
theorem RDX.fr (h : RDX t w g N A n c r) (f : Fr P w w') (hp : ∀ k, k < N → P k) : RDX t w' g N A n c r :=
  have hb : BV w' (fun k => k ≠ g ∧ k < N) A n c r.b := h.bv.fr (f.mono fun k hk => hp k hk.2)
  ⟨⟨h.rd.1.fr f (hp g h.lt), hb.mono fun k hk => hk.1, h.rd.2.2⟩, hb, h.lt⟩
theorem RDX.ext (h : RDX t w g N A n c r) (e : Ext w w') : RDX t w' g N A n c r := h.fr (P := fun _ => True) e.fr (fun _ _ => trivial)
theorem RDX.next {r' : Rd} (h : RDX t w g N A n c r) (h' : RD t w' g A n c r') (hb : r'.b = r.b) (f : Fr (fun k => k ≠ g) w w') : RDX t w' g N A n c r' :=
  ⟨h', by rw [hb]; exact h.bv.fr (f.mono fun k hk => hk.1), h.lt⟩
end
/-- What a read of a number leaves: the number, the reader, all else as it was. -/
def UintX (t : TypeId) (w : World) (g N : Nat) (A : Option Addr) (n c : Nat) (x : Rd × Int) (e : Ending) (w' : World) : Prop := e = .returned (.int .i64 x.2) ∧ RDX t w' g N A n c x.1 ∧ Fr (fun k => k ≠ g) w w'
def BlobX (t : TypeId) (w : World) (g N : Nat) (A : Option Addr) (n c : Nat) (x : Rd × List UInt8) (e : Ending) (w' : World) : Prop := ∃ S m k, e = .returned (.slice S m k) ∧ OB w' w.heap.size 5 S m k x.2 ∧ RDX t w' g N A n c x.1 ∧ Fr (fun k => k ≠ g) w w'
theorem rUint_x (w : World) (g N : Nat) (A : Option Addr) (n c : Nat) (r : Rd) (size : Int) (h : RDX 113 w g N A n c r) :
    Calls Tryd.prog 67 #[.pointer (some ⟨g, 0, none⟩), .int .i64 size] w (UintX 113 w g N A n c (rdUint r size)) :=
  (rUint_calls w g A n c r.b r.at_ r.e size h.rd).mono fun e w' ⟨v, r', he, hv, hR, hF⟩ => by
    obtain ⟨rfl, rfl⟩ := hv.out
    exact ⟨he, h.next hR (rdUint_b r size) hF, hF⟩
theorem rBlob_x (w : World) (g N : Nat) (A : Option Addr) (n c : Nat) (r : Rd) (most : Int) (h : RDX 113 w g N A n c r) :
    Calls Tryd.prog 70 #[.pointer (some ⟨g, 0, none⟩), .int .i64 most] w (BlobX 113 w g N A n c (rdBlob r most)) :=
  (rBlob_calls w g A n c r.b r.at_ r.e most h.rd).mono fun e w' ⟨S, m, k, l, r', he, hv, hR, hO, hF⟩ => by
    obtain ⟨rfl, rfl⟩ := hv.out
    exact ⟨S, m, k, he, hO, h.next hR (rdBlob_b r most) hF, hF⟩
theorem rRaw_x (w : World) (g N : Nat) (A : Option Addr) (n c : Nat) (r : Rd) (k : Int) (h : RDX 113 w g N A n c r) :
    Calls Tryd.prog 66 #[.pointer (some ⟨g, 0, none⟩), .int .i64 k] w (BlobX 113 w g N A n c (rdRaw r k)) :=
  (rRaw_calls w g A n c r.b r.at_ r.e k h.rd).mono fun e w' ⟨S, m, k', l, r', he, hv, hR, hO, hF⟩ => by
    obtain ⟨rfl, rfl⟩ := hv.out
    exact ⟨S, m, k', he, hO, h.next hR (rdRaw_b r k) hF, hF⟩
theorem rEnd_x (w : World) (g N : Nat) (A : Option Addr) (n c : Nat) (r : Rd) (h : RDX 113 w g N A n c r) :
    Calls Tryd.prog 89 #[.pointer (some ⟨g, 0, none⟩)] w fun e w' => e = .returned (.int .i64 (rdEnd r)) ∧ Quiet w w' :=
  rEnd_calls w g A n c r.b r.at_ r.e h.rd
theorem sUint_x (w : World) (g N : Nat) (A : Option Addr) (n c : Nat) (r : Rd) (size : Int) (h : RDX 127 w g N A n c r) :
    Calls Tryd.prog 92 #[.pointer (some ⟨g, 0, none⟩), .int .i64 size] w (UintX 127 w g N A n c (rdUint r size)) :=
  (sUint_calls w g A n c r.b r.at_ r.e size h.rd).mono fun e w' ⟨v, r', he, hv, hR, hF⟩ => by
    obtain ⟨rfl, rfl⟩ := hv.out
    exact ⟨he, h.next hR (rdUint_b r size) hF, hF⟩
theorem sBlob_x (w : World) (g N : Nat) (A : Option Addr) (n c : Nat) (r : Rd) (most : Int) (h : RDX 127 w g N A n c r) :
    Calls Tryd.prog 93 #[.pointer (some ⟨g, 0, none⟩), .int .i64 most] w (BlobX 127 w g N A n c (rdBlob r most)) :=
  (sBlob_calls w g A n c r.b r.at_ r.e most h.rd).mono fun e w' ⟨S, m, k, l, r', he, hv, hR, hO, hF⟩ => by
    obtain ⟨rfl, rfl⟩ := hv.out
    exact ⟨S, m, k, he, hO, h.next hR (rdBlob_b r most) hF, hF⟩
theorem sEnd_x (w : World) (g N : Nat) (A : Option Addr) (n c : Nat) (r : Rd) (h : RDX 127 w g N A n c r) :
    Calls Tryd.prog 94 #[.pointer (some ⟨g, 0, none⟩)] w fun e w' => e = .returned (.int .i64 (rdEnd r)) ∧ Quiet w w' :=
  sEnd_calls w g A n c r.b r.at_ r.e h.rd
theorem rErr_x (w : World) (g N : Nat) (A : Option Addr) (n c : Nat) (r : Rd) (h : RDX 113 w g N A n c r) :
    Calls Tryd.prog 68 #[.pointer (some ⟨g, 0, none⟩)] w fun e w' => e = .returned (.int .i64 r.e) ∧ w = w' := rErr_calls w g A n c r.b r.at_ r.e h.rd
/-- New: the reader, below any later block -/
theorem NewRd.x {t : TypeId} {w w' : World} {l : List UInt8} {e : Ending} (h : NewRd t w l e w') : ∃ g A n c, e = .returned (.pointer (some ⟨g, 0, none⟩)) ∧ w.heap.size ≤ g ∧ RDX t w' g w'.heap.size A n c ⟨l, 0, 0⟩ ∧ Ext w w' := by
  obtain ⟨g, A, n, c, he, hg, hR, hE⟩ := h
  exact ⟨g, A, n, c, he, hg, ⟨hR, hR.2.1.bd, hR.1.lt⟩, hE⟩
/-- an element of one cell, of an array by value -/
theorem Gives.idx1 {P : Program} {n : Nat} {e : Env} {w : World} {o : Oper} {t el : TypeId} {x y : Operand} {k : IntKind} {v : Value} {len i : Nat} {zi : Int} {cs : Array Value} (ho : o.op = .index t x y) (ht : P.underlying t = some (.array len el)) (hd : (match P.underlying el with | some (.struct _) | some (.array _ _) => false | some _ => true | none => false) = true) (hsz : (P.info? el).map (·.size) = some 1) (hx : ev e x = some (.agg cs)) (hy : ev e y = some (.int k zi)) (hz : zi = (i : Int)) (hlt : i < len) (hv : cs[i]? = some v) : Gives P n o e w v := .run fun q hq => by
  subst hz
  cases hu : P.underlying el with
  | none => simp [hu] at hd
  | some d =>
    cases hq' : P.info? el with
    | none => simp [hq'] at hsz
    | some f =>
      have hf : f.size = 1 := by simpa [hq'] using hsz
      have hagg : (isAgg el).run P w = .ok false w := by
        unfold isAgg
        rw [Sem.run_bind, run_underlying hu w]
        simp only [hu] at hd
        cases d <;> simp_all
      have h1 : (0 : Int) ≤ (i : Int) ∧ (i : Int) < (len : Int) := ⟨by omega, by omega⟩
      unfold execOp
      simp only [ho, hq.ev hx, hq.ev hy]
      simp [Instr.index, asIntOf, run_underlying ht, part, hagg, sizeOf, typeInfo, hq', hf, go_sem, hlt, hv]
/-- the block of the row lies below hi -/
def Win (A : Option Addr) (hi : Nat) : Prop := ∀ g o s, A = some ⟨g, o, s⟩ → g < hi
theorem Win.nil_ (hi : Nat) : Win none hi := fun g o s h => by cases h
theorem Win.of {w : World} {base e size n c : Nat} {A : Option Addr} {xs : List Value} (h : w.ownsRow base e size (.slice A n c) n xs) : Win A w.heap.size := fun g o s hA => by
  subst hA; exact (h.lt g rfl).2
section
variable {P : Nat → Prop} {w w' : World} {base hi e size n c : Nat} {A : Option Addr} {xs : List Value}
theorem own_frW (h : w.ownsRow base e size (.slice A n c) n xs) (hw : Win A hi) (f : Fr P w w') (hp : ∀ k, base ≤ k → k < hi → P k) : w'.ownsRow base e size (.slice A n c) n xs := by
  refine ⟨h.1, ?_⟩
  rcases h.2 with h2 | ⟨g, cap, cur, hv, hb, hg, r⟩
  · exact Or.inl h2
  · have hA : A = some ⟨g, 0, none⟩ := by simp only [Value.slice.injEq] at hv; exact hv.1
    exact Or.inr ⟨g, cap, cur, hv, hb, (f.block g (Array.getElem?_eq_some_iff.1 hg).1 (hp g hb (hw _ _ _ hA))).trans hg, r⟩
theorem own_head (h : w.ownsRow base e size (.slice A n c) n xs) (hn : 0 < n) : ∃ g, A = some ⟨g, 0, none⟩ ∧ base ≤ g ∧ g < w.heap.size := by
  obtain ⟨g, cap, hv, hbg, hlt⟩ := h.form hn
  simp only [Value.slice.injEq] at hv
  exact ⟨g, hv.1, hbg, hlt⟩
theorem own_frN {b : Nat} (h : w.ownsRow base e size (.slice A n c) n xs) (f : Fr (fun k => k ≠ b) w w') (hne : Value.ownBlock (.slice A n c) ≠ some b) : w'.ownsRow base e size (.slice A n c) n xs := by
  refine ⟨h.1, ?_⟩
  rcases h.2 with h2 | ⟨g, cap, cur, hv, hb, hg, r⟩
  · exact Or.inl h2
  · exact Or.inr ⟨g, cap, cur, hv, hb, (f.block g (Array.getElem?_eq_some_iff.1 hg).1 (fun he => hne (by rw [hv, he]; rfl))).trans hg, r⟩
theorem ownB_hi {k m : Nat} (hw : Win A hi) (hk : hi ≤ k) : Value.ownBlock (.slice A m c) ≠ some k := fun he => by
  cases A with
  | none => cases he
  | some a => obtain ⟨g, o, s⟩ := a; have h1 : g = k := Option.some.inj he; have := hw g o s rfl; omega
end
section
variable {P : Program} {n : Nat} {e : Env} {w : World} {o : Oper} {x y : Operand} {t el : TypeId} {v : Value}
/-- one cell of a row of the call's own written -/
theorem Does.stR {g i m c base size : Nat} {xs : List Value} (ho : o.op = .store t x y) (hx : ev e x = some (.pointer (some ⟨g, 0 + i, none⟩))) (hy : ev e y = some v) (h1 : v.oneCell' = true) (hown : w.ownsRow base el size (.slice (some ⟨g, 0, none⟩) m c) m xs) (hi : (P.info? t).map (·.size) = some 1) (hlt : i < xs.length) :
    Does P n o e w (fun _ w' => w'.ownsRow base el size (.slice (some ⟨g, 0, none⟩) m c) m (xs.set i v) ∧ Fr (fun k => k ≠ g) w w') := by
  have hl := hown.1
  rcases hown.2 with ⟨hv, h0⟩ | ⟨g', cap, cur, hv, hb, hg, hnc, hcm, hcs, ht⟩
  · simp only [Value.slice.injEq] at hv; cases hv.1
  · simp only [Value.slice.injEq, Option.some.injEq, Addr.mk.injEq, and_true, true_and] at hv
    obtain ⟨rfl, rfl⟩ := hv
    have hsz : i < cur.size := by
      have := congrArg List.length ht
      simp at this
      omega
    refine (Does.stC (i := 0 + i) ho hx hy (show Blk w g el cur from hg) hi (by omega) h1).mono fun _ w' ⟨h1, h2⟩ => ⟨⟨by simpa using hl, .inr ⟨g, c, cur.setIfInBounds i v, rfl, hb, by rw [Nat.zero_add] at h1; exact h1, hnc, hcm, by simpa using hcs, ?_⟩⟩, h2⟩
    rw [Array.toList_setIfInBounds, List.take_set, ht]
end
section
variable {n : Nat} {e : Env} {w : World} {o : Oper} {x y : Operand} {S : Nat → Prop}
end
section
variable {w : World} {S : Nat → Prop} {base g n c : Nat}
theorem OL.offs {S' : Nat → Prop} {A : Option Addr} {ls : List (List UInt8)} (h : OL w S base A n c ls) (hs : ∀ k, S k → k < w.heap.size → S' k) : OL w S' base A n c ls := let ⟨vs, ho, he⟩ := h; ⟨vs, ho, he.mono fun k hk => ⟨hs k hk.1 hk.2.1, hk.2⟩⟩
end
theorem Blk.bel {w w' : World} {g base : Nat} {t : TypeId} {cs : Array Value} (h : Blk w g t cs) (hB : Below base w w') (hlt : g < base) : Blk w' g t cs := (hB.block g hlt).trans h
end Go.Proofs.YtnbgieccindpnaaDoor
