/- Chains in bytes: different chains, different bytes. No program. -/
import Derived.Test.YteppchoeiflnhaaDoorImgU
namespace Go.Proofs.YteppchoeiflnhaaDoor
set_option linter.all false
set_option maxRecDepth 20000
open Go.RowKit
theorem blobT_inj {x y r r' : List UInt8} (hx : x.length ≤ 65535) (hy : y.length ≤ 65535) (h : blobT x ++ r = blobT y ++ r') : x = y ∧ r = r' := by
  unfold blobT at h
  rw [List.append_assoc, List.append_assoc] at h
  obtain ⟨h1, h2⟩ := List.append_inj h (by rw [beS_len, beS_len])
  have h3 := be_inj (s := 2) (by omega) (by omega) (by decide) h1
  exact List.append_inj h2 h3
theorem chT_inj : ∀ {l l' : List Im}, l.length = l'.length → (∀ x ∈ l, imgE x = 0) → (∀ x ∈ l', imgE x = 0) → chT l = chT l' → l = l'
  | [], [], _, _, _, _ => rfl
  | [], _ :: _, hl, _, _, _ => by simp at hl
  | _ :: _, [], hl, _, _, _ => by simp at hl
  | x :: r, y :: s, hl, hx, hy, h => by
    have h' : blobT (imgB x) ++ chT r = blobT (imgB y) ++ chT s := h
    obtain ⟨h1, h2⟩ := blobT_inj (by have := imgB_le x; omega) (by have := imgB_le y; omega) h'
    rw [imgB_inj (hx x (List.mem_cons_self ..)) (hy y (List.mem_cons_self ..)) h1, chT_inj (by simpa using hl) (fun z hz => hx z (List.mem_cons_of_mem _ hz)) (fun z hz => hy z (List.mem_cons_of_mem _ hz)) h2]
theorem chB_inj {l l' : List Im} (h : chainE l = 0) (h' : chainE l' = 0) (he : chB l = chB l') : l = l' := by
  obtain ⟨⟨a1, a8⟩, _, _, ax⟩ := chain_ok h
  obtain ⟨⟨b1, b8⟩, _, _, bx⟩ := chain_ok h'
  rw [chB_eq h, chB_eq h'] at he
  obtain ⟨h1, h2⟩ := List.append_inj he (by rw [beS_len, beS_len])
  exact chT_inj (be_inj (s := 1) (by omega) (by omega) (by decide) h1) ax bx h2
theorem chB_iff (l : List Im) : 0 < (chB l).length ↔ chainE l = 0 := by
  constructor
  · intro h
    rcases Decidable.em (chainE l = 0) with h0 | h0
    · exact h0
    · rw [chB_no h0] at h; exact absurd h (by simp)
  · exact chB_pos
/-! a chain of many -/
def manyX : Im := ⟨1, [102], 0, []⟩
def manyI (i : Nat) : Im := ⟨3, [107, UInt8.ofNat (97 + i)], 0, []⟩
def manyL (n : Nat) : List Im := manyX :: (List.range n).map manyI
theorem many_step (n : Nat) : manyL n ++ [manyI n] = manyL (n + 1) := by unfold manyL; rw [List.range_succ, List.map_append, List.cons_append]; rfl
theorem many_len (n : Nat) : (manyL n).length = n + 1 := by simp [manyL]
set_option maxRecDepth 100000 in
theorem many_0 : chainE (manyL 0) = 40 := by decide
set_option maxRecDepth 100000 in
theorem many_E (n : Nat) (h1 : 0 < n) (h : n < 8) : chainE (manyL n) = 0 := by
  rcases (show n = 1 ∨ n = 2 ∨ n = 3 ∨ n = 4 ∨ n = 5 ∨ n = 6 ∨ n = 7 by omega) with rfl | rfl | rfl | rfl | rfl | rfl | rfl <;> decide
theorem many_1 (n : Nat) (h : 8 ≤ n) : chainE (manyL n) = 1 := chainE_1 (by rw [many_len]; omega)
theorem ImO.one {w : World} {base g m d : Nat} {S : Option Addr} {x : Im} (h : Blk w g 26 (imgC x S m d).toArray) (hb : base ≤ g) (hp : BV w (NOwn w (fun k => base ≤ k) (.slice (some ⟨g, 0, none⟩) 1 1)) S m d x.pay) : ImO w base (some ⟨g, 0, none⟩) 1 1 [x] :=
  ⟨imgC x S m d, h.own hb rfl rfl (by decide), EachR.single (img_rep hp)⟩
end Go.Proofs.YteppchoeiflnhaaDoor
