/- Indices: SetBits, of the reference and of the program. -/
import Derived.Test.YtdekjkcnfebfnaaIdxC
namespace Go.Proofs.Ytdekjkcnfebfnaa
set_option linter.all false
open Go.RowKit
def orK (a b : List UInt8) (i : Nat) : List UInt8 := List.zipWith (· ||| ·) (a.take i) (b.take i) ++ a.drop i
theorem orK_step (a b : List UInt8) (i : Nat) (x y : UInt8) (hx : a[i]? = some x) (hy : b[i]? = some y) : orK a b (i + 1) = (orK a b i).set i (x ||| y) := by
  obtain ⟨ha1, ha2⟩ := List.getElem?_eq_some_iff.1 hx
  obtain ⟨hb1, hb2⟩ := List.getElem?_eq_some_iff.1 hy
  unfold orK
  rw [List.take_succ_eq_append_getElem ha1, List.take_succ_eq_append_getElem hb1, List.zipWith_append (by simp; omega), ha2, hb2]
  have hl : (List.zipWith (· ||| ·) (a.take i) (b.take i)).length = i := by simp; omega
  rw [List.set_append_right _ _ (by omega), hl, Nat.sub_self, List.append_assoc]
  congr 1
  rw [List.drop_eq_getElem_cons ha1]
  rfl
theorem orK_at (a b : List UInt8) (i : Nat) (hi : i < a.length) (hb : a.length ≤ b.length) : (orK a b i)[i]? = a[i]? := by
  unfold orK
  have hl : (List.zipWith (· ||| ·) (a.take i) (b.take i)).length = i := by simp; omega
  rw [List.getElem?_append_right (by omega), hl, Nat.sub_self]; simp
theorem orK_zero (a b : List UInt8) : orK a b 0 = a := by simp [orK]
def orL (a b : List UInt8) : List UInt8 := orK a b 8
theorem orL_len (a b : List UInt8) (ha : a.length = 8) (hb : b.length = 8) : (orL a b).length = 8 := by unfold orL orK; simp; omega
def setE' (x : Ix) (m : Nat) : Int := if x.kind ≠ 3 then 19 else if m ≠ 8 then 24 else 0
def setI' (x : Ix) (l : List UInt8) : Ix := if setE' x l.length = 0 then { x with wr := true, data := orL x.data l } else zeroIx
theorem set_z {x : Ix} {l : List UInt8} {m : Nat} {er : Int} (hm : l.length = m) (h : setE' x m = er) (h0 : er ≠ 0) : zeroIx = setI' x l := by unfold setI'; rw [hm, h, if_neg h0]
theorem set_0 {x : Ix} {l : List UInt8} {m : Nat} (hm : l.length = m) (h : setE' x m = 0) : { x with wr := true, data := orL x.data l } = setI' x l := by unfold setI'; rw [hm, h, if_pos rfl]
theorem bits_u8 (a b : UInt8) : bits .or .u8 (a.toNat : Int) (b.toNat : Int) = ((a ||| b).toNat : Int) := by
  have h1 : ∀ x : UInt8, (BitVec.ofInt 8 (x.toNat : Int)).toNat = x.toNat := by
    intro x
    rw [BitVec.toNat_ofInt]
    have := x.toNat_lt
    omega
  show IntKind.u8.wrap ((BitVec.ofInt 8 (a.toNat : Int) ||| BitVec.ofInt 8 (b.toNat : Int)).toNat : Int) = _
  rw [BitVec.toNat_or, h1, h1, wrap8, UInt8.toNat_or]
  have : a.toNat ||| b.toNat < 2 ^ 8 := Nat.or_lt_two_pow (by have := a.toNat_lt; omega) (by have := b.toNat_lt; omega)
  omega
section
variable {P : Program} {n : Nat} {e : Env} {w : World} {o : Oper} {x y : Operand} {t el : TypeId}
/-- one byte of a row of the call's own written -/
theorem Does.stO {g i m c base : Nat} {l : List UInt8} (v : UInt8) {z : Int} (ho : o.op = .store t x y) (hx : ev e x = some (.pointer (some ⟨g, 0 + i, none⟩))) (hy : ev e y = some (.int .u8 z)) (hz : z = (v.toNat : Int)) (hown : OB w base el (some ⟨g, 0, none⟩) m c l) (hi : (P.info? t).map (·.size) = some 1) (hlt : i < m) :
    Does P n o e w (fun _ w' => OB w' base el (some ⟨g, 0, none⟩) m c (l.set i v) ∧ Fr (fun k => k ≠ g) w w') := by
  subst hz
  have hl := hown.len
  rcases hown.2 with ⟨hv, h0⟩ | ⟨g', cap, cur, hv, hb, hg, hnc, hcm, hcs, ht⟩
  · omega
  · simp only [Value.slice.injEq, Option.some.injEq, Addr.mk.injEq, and_true, true_and] at hv
    obtain ⟨rfl, rfl⟩ := hv
    have hsz : i < cur.size := by omega
    refine (Does.stC (i := 0 + i) ho hx hy (show Blk w g el cur from hg) hi (by omega) rfl).mono fun _ w' ⟨h1, h2⟩ => ⟨⟨by simp [u8s, hl], .inr ⟨g, c, cur.setIfInBounds i (.int .u8 (v.toNat : Int)), rfl, hb, by rw [Nat.zero_add] at h1; exact h1, hnc, hcm, by simpa using hcs, ?_⟩⟩, h2⟩
    simp only [Nat.mul_one] at ht ⊢
    rw [Array.toList_setIfInBounds, List.take_set, ht]
    simp [u8s, List.map_set]
theorem Does.stM {g i : Nat} {tt : TypeId} {l : List UInt8} (v : UInt8) {z : Int} (ho : o.op = .store t x y) (hx : ev e x = some (.pointer (some ⟨g, 0 + i, none⟩))) (hy : ev e y = some (.int .u8 z)) (hz : z = (v.toNat : Int)) (hm : MB w g tt l) (hi : (P.info? t).map (·.size) = some 1) (hlt : i < l.length) :
    Does P n o e w (fun _ w' => MB w' g tt (l.set i v) ∧ Fr (fun k => k ≠ g) w w') := by
  subst hz
  refine (Does.stC (i := 0 + i) ho hx hy hm hi (by simp [u8s]; exact hlt) rfl).mono fun _ w' ⟨h1, h2⟩ => ⟨?_, h2⟩
  unfold MB
  have e : (u8s (l.set i v)).toArray = (u8s l).toArray.setIfInBounds i (.int .u8 (v.toNat : Int)) := by
    apply Array.ext'
    simp [u8s, List.map_set]
  rw [e]
  rw [Nat.zero_add] at h1
  exact h1
end
theorem OB.head {w : World} {base e n c : Nat} {A : Option Addr} {l : List UInt8} (h : OB w base e A n c l) (hn : 0 < n) : ∃ g, A = some ⟨g, 0, none⟩ ∧ base ≤ g := by
  obtain ⟨g, cap, hv, hbg, hlt⟩ := h.form hn
  simp only [Value.slice.injEq] at hv
  exact ⟨g, hv.1, hbg⟩
theorem BV.cellAt {w : World} {P : Nat → Prop} {g off n c i : Nat} {l : List UInt8} {x : UInt8} (h : BV w P (some ⟨g, off, none⟩) n c l) (hx : l[i]? = some x) : w.cell? ⟨g, off + i, none⟩ = some (.int .u8 (x.toNat : Int)) := by
  have hl := h.len
  have hi := (List.getElem?_eq_some_iff.1 hx).1
  obtain ⟨b, o, hA, _, _, hc⟩ := h.2.2.2 (by omega)
  cases hA
  exact hc i _ (by simp [u8s, hx])
theorem BV.cell0 {w : World} {P : Nat → Prop} {g n c i : Nat} {l : List UInt8} {x : UInt8} (h : BV w P (some ⟨g, 0, none⟩) n c l) (hx : l[i]? = some x) : w.cell? ⟨g, 0 + i, none⟩ = some (.int .u8 (x.toNat : Int)) := by
  have hl := h.len
  have hi := (List.getElem?_eq_some_iff.1 hx).1
  obtain ⟨b, off, hA, _, _, hc⟩ := h.2.2.2 (by omega)
  cases hA
  exact hc i _ (by simp [u8s, hx])
theorem BV.only {w : World} {P : Nat → Prop} {g off n c : Nat} {l : List UInt8} (h : BV w P (some ⟨g, off, none⟩) n c l) : BV w (fun q => q = g) (some ⟨g, off, none⟩) n c l :=
  ⟨h.1, h.2.1, h.2.2.1, fun hn => by obtain ⟨b, o, hA, hb, _, hc⟩ := h.2.2.2 hn; cases hA; exact ⟨_, _, rfl, hb, rfl, hc⟩⟩
def gb1 (l : List UInt8) (i : Nat) : UInt8 := l.getD i 0
theorem gb1_some (l : List UInt8) (i : Nat) (h : i < l.length) : l[i]? = some (gb1 l i) := by unfold gb1; simp [h]
end Go.Proofs.Ytdekjkcnfebfnaa
