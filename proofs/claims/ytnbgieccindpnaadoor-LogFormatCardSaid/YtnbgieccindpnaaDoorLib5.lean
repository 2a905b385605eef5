/- Byte arrays that a call fills: blocks known whole. -/
import Derived.Test.YtnbgieccindpnaaDoorLib4
import Derived.Laws.CopyRow
import Derived.Laws.CopyOwn
namespace Go.Proofs.YtnbgieccindpnaaDoor
set_option linter.all false
set_option maxRecDepth 20000
open Go.RowKit
/-- Block g holds the bytes l and nothing else. -/
def MB (w : World) (g : Nat) (t : TypeId) (l : List UInt8) : Prop := Blk w g t (u8s l).toArray
def spliceB (l : List UInt8) (off : Nat) (cs : List UInt8) : List UInt8 := l.take off ++ (cs ++ l.drop (off + cs.length))
theorem spliceB_len (l : List UInt8) (off : Nat) (cs : List UInt8) (h : off + cs.length ≤ l.length) : (spliceB l off cs).length = l.length := by simp [spliceB]; omega
section
variable {w w' : World} {g : Nat} {t : TypeId} {l : List UInt8} {P : Nat → Prop}
theorem MB.ext (h : MB w g t l) (e : Ext w w') : MB w' g t l := Blk.ext h e
theorem MB.fr (h : MB w g t l) (e : Fr P w w') (hg : P g) : MB w' g t l := Blk.fr h e hg
theorem MB.lt (h : MB w g t l) : g < w.heap.size := Blk.lt h
theorem MB.bv (h : MB w g t l) (hg : P g) {n c : Nat} (hn : l.length = n) (hc : n ≤ c) (hc2 : c ≤ 9223372036854775807) : BV w P (some ⟨g, 0, none⟩) n c l :=
  ⟨by simp [u8s, hn], hc, hc2, fun _ => ⟨g, 0, rfl, h.lt, hg, fun i v hv => by rw [Nat.zero_add]; rw [Blk.cell h i]; simpa using hv⟩⟩
theorem MB.ob (h : MB w g t l) {base : Nat} (hb : base ≤ g) {n c : Nat} (hn : l.length = n) (hc : n ≤ c) (hc2 : c = n) (hm : c ≤ 9223372036854775807) : OB w base t (some ⟨g, 0, none⟩) n c l := by
  subst hc2
  refine ⟨by simp [u8s, hn], .inr ⟨g, c, (u8s l).toArray, rfl, hb, h, Nat.le_refl _, by simpa [maxLen] using hm, ?_, ?_⟩⟩
  · simp [u8s, hn]
  · simp [u8s, List.take_of_length_le, hn]
end
section
variable {P : Program} {ops : Array Oper} {rest : List Oper} {o : Oper} {a : Act} {Q : Exit → Act → World → Prop} {S : Nat → Prop} {w : World}
/-- 'make([]byte, n)', its block known whole -/
theorem wpList_mkM (hg : o.guard = none) (l c : Operand) (t : TypeId) (hop : o.op = Op.makeSlice t l c)
    (e : TypeId) (hinf : (P.info? e).map (fun i => (i.zero, i.size, i.bytes)) = some (some (.int .u8 0), 1, 1)) (h1 : P.underlying t = some (.slice e))
    (kl kc : IntKind) (n : Nat) (hl : a.eval l = .int kl n) (hc : a.eval c = .int kc n) (b2 : n ≤ 140737488355328)
    (hK : ∀ g w', w.heap.size ≤ g → MB w' g e (List.replicate n 0) → Ext w w' → wpList P ops Q rest (a.put o.dst (.slice (some ⟨g, 0, none⟩) n n)) w') :
    wpList P ops Q (o :: rest) a w := by
  refine wpList_mkB hg l c t hop e hinf h1 kl kc n hl hc b2 fun g w' hgw hO hE => hK g w' hgw ?_ hE
  rcases hO.2 with ⟨hv, h0⟩ | ⟨g', cap, cur, hv, hb, hg', hnc, hcm, hcs, ht⟩
  · simp at hv
  · simp only [Value.slice.injEq, Option.some.injEq, Addr.mk.injEq, and_true, true_and] at hv
    obtain ⟨rfl, rfl⟩ := hv
    unfold MB Blk
    rw [hg']
    congr 2
    have hlen : cur.toList.length = n := by simp; omega
    have := ht
    rw [List.take_of_length_le (by omega)] at this
    rw [← this]
/-- 'copy(dst, src)', dst a part of a block that is known whole -/
theorem wpList_cpM (hgd : o.guard = none) (d s : Operand) (dT sT : TypeId)
    (ho : o.op = .call { callee := .builtin .copy, args := #[d, s], argTypes := #[dT, sT] }) (elem : TypeId) (hu : P.underlying dT = some (.slice elem)) (hsz : (P.info? elem).map (fun i => (i.zero, i.size, i.bytes)) = some (some (.int .u8 0), 1, 1))
    {dp : Option Addr} {dLen dCap : Nat} (hd : a.eval d = .slice dp dLen dCap) {A : Option Addr} {m c : Nat} (hs : a.eval s = .slice A m c) {r : List UInt8} (hr : BV w S A m c r)
    (g off : Nat) (hdp : 0 < dLen → dp = some ⟨g, off, none⟩) {t : TypeId} {l : List UInt8} (hg : MB w g t l) (hfit : off + dLen ≤ l.length)
    (h : ∀ w', MB w' g t (spliceB l off (r.take dLen)) → Fr (fun k => k ≠ g) w w' → wpList P ops Q rest (a.put o.dst (goInt ((min m dLen : Nat) : Int))) w') :
    wpList P ops Q (o :: rest) a w := by
  have hm := hr.len
  have hsz1 : (P.info? elem).map (·.size) = some 1 := by
    obtain ⟨i, hi, _, hz1, _⟩ := info_parts hsz
    simp [hi, hz1]
  by_cases h0 : min m dLen = 0
  · refine wpList_copy_nothing hgd d s dT sT ho elem hu hsz1 dp A dLen dCap m c hd hs (by simpa using h0) ?_
    have e : r.take dLen = [] := by
      rcases Nat.eq_zero_or_pos dLen with h1 | h1
      · rw [h1]; rfl
      · have : m = 0 := by omega
        rw [List.eq_nil_of_length_eq_zero (hm.trans this)]; simp
    have hk := h w (by rw [e]; simpa [spliceB] using hg) (Fr.refl _ _)
    rwa [h0] at hk
  · obtain rfl := hdp (by omega)
    obtain ⟨b, ob, rfl, _, _, hc⟩ := hr.2.2.2 (by omega)
    have hl : (r.take dLen).length = min m dLen := by rw [List.length_take]; omega
    refine wpList_copy_own hgd d s dT sT ho elem hu hsz1 g off dLen dCap ⟨b, ob, none⟩ m c hd hs (u8s l).toArray t hg (u8s (r.take dLen)) (by rw [u8s_length, hl]) (fun j v hv => ?_) (by simp [u8s]; omega) (u8s_one _) ?_
    · rw [Addr.add_lit]
      refine hc j v ?_
      rw [← u8s_take, List.getElem?_take] at hv
      split at hv
      · exact hv
      · cases hv
    · have hk := h (w.setRow g ((u8s l).toArray.toList.take off ++ (u8s (r.take dLen) ++ (u8s l).toArray.toList.drop (off + (u8s (r.take dLen)).length))).toArray) ?_ (fr_setRow _ _ _)
      · have e : ((u8s (r.take dLen)).length : Int) = ((min m dLen : Nat) : Int) := by rw [u8s_length, hl]
        rw [e]; exact hk
      · have := setRow_heap w g (u8s l).toArray ((u8s l).toArray.toList.take off ++ (u8s (r.take dLen) ++ (u8s l).toArray.toList.drop (off + (u8s (r.take dLen)).length))).toArray t (0, 0) hg
        unfold MB Blk
        rw [this]
        congr 2
        simp [spliceB, u8s, List.map_take, List.map_drop]
end
end Go.Proofs.YtnbgieccindpnaaDoor
