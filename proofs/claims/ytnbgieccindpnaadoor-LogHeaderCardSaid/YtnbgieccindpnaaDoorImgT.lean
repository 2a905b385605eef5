/- ImgT: merged. -/
import Derived.Test.YtnbgieccindpnaaDoorImgS
import Derived.Laws.CopyRow
/- Chains of images: rows of the call's own, drawn chains. -/
namespace Go.Proofs.YtnbgieccindpnaaDoor
set_option linter.all false
set_option maxRecDepth 20000
open Go.RowKit
theorem infoI2 : (Tryd.prog.info? 84).map (fun i => (i.zero, i.size)) = some (some (.agg #[.int .i64 0, .string ByteArray.empty, .int .i64 0, .slice none 0 0]), 4) := by kernel_rfl
theorem infoI4 : (Tryd.prog.info? 84).map (fun i => (i.zero, i.size, i.bytes)) = some (some (.agg #[.int .i64 0, .string ByteArray.empty, .int .i64 0, .slice none 0 0]), 4, 56) := by kernel_rfl
/-- a row of images of the call's own, all of it from block base on -/
def ImO (w : World) (base : Nat) (A : Option Addr) (n c : Nat) (l : List Im) : Prop := ∃ vs, w.ownsRow base 84 4 (.slice A n c) n vs ∧ EachR Rp.img w (NOwn w (fun k => base ≤ k) (.slice A n c)) vs l
section
variable {w w' : World} {base n c : Nat} {A : Option Addr} {l : List Im} {P : Nat → Prop}
theorem ImO.fr (h : ImO w base A n c l) (f : Fr P w w') (hp : ∀ k, base ≤ k → P k) : ImO w' base A n c l :=
  let ⟨vs, ho, he⟩ := h
  ⟨vs, own_fr ho f hp, (he.fr (f.mono fun k hk => hp k hk.1)).mono fun k hk _ => ⟨hk.1, Nat.lt_of_lt_of_le hk.2.1 f.size, hk.2.2⟩⟩
theorem ImO.ext (h : ImO w base A n c l) (e : Ext w w') : ImO w' base A n c l := h.fr (P := fun _ => True) e.fr (fun _ _ => trivial)
theorem ImO.nil_ (w : World) (base : Nat) : ImO w base none 0 0 [] := ⟨[], World.ownsRow_nil _ _ _ _, EachR.nil_⟩
theorem ImO.sl (h : ImO w base A n c l) (hp : ∀ k, base ≤ k → P k) : SL Rp.img w P A n c l := let ⟨vs, ho, he⟩ := h; ⟨vs, Row.of_own ho hp, he.mono fun k hk _ => hp k hk.1⟩
theorem ImO.len (h : ImO w base A n c l) : l.length = n := (h.sl (P := fun _ => True) fun _ _ => trivial).len
theorem ImO.low {base' : Nat} (h : ImO w base A n c l) (hb : base' ≤ base) : ImO w base' A n c l := let ⟨vs, ho, he⟩ := h; ⟨vs, own_mono ho hb, he.mono fun k hk _ => ⟨Nat.le_trans hb hk.1, hk.2⟩⟩
theorem ImO.lt (h : ImO w base A n c l) : ∀ k, Value.ownBlock (.slice A n c) = some k → k < w.heap.size := let ⟨_, ho, _⟩ := h; fun k hk => (own_lt ho k hk).2
theorem row_img {g : Nat} {x : Im} {S : Option Addr} {m d : Nat} (h : Blk w g 84 (imgC x S m d).toArray) : Row w (fun _ => True) 4 (some ⟨g, 0, none⟩) 1 1 (imgC x S m d) :=
  ⟨rfl, Nat.le_refl _, by simp [maxLen], fun _ => ⟨g, 0, rfl, h.lt, trivial, fun i v hv => by rw [Nat.zero_add]; exact (h.cell i).trans (by simpa using hv)⟩⟩
theorem imgC_one (x : Im) (S : Option Addr) (m d : Nat) : ∀ u ∈ imgC x S m d, u.oneCell' = true := by
  intro u hu
  simp only [imgC, List.mem_cons, List.not_mem_nil, or_false] at hu
  rcases hu with rfl | rfl | rfl | rfl <;> rfl
variable {n' : Nat} {e : Env} {o : Oper} {x y : Operand}
/-- an image onto a row of images -/
theorem Does.appIO {g p sc m d : Nat} {B S : Option Addr} {xi : Im} (ho : o.op = .call { callee := .builtin .append, args := #[x, y], argTypes := #[68, 68] })
    (hx : ev e x = some (.slice B p sc)) (hy : ev e y = some (.slice (some ⟨g, 0, none⟩) 1 1)) (hown : ImO w base B p sc l) (hg : Blk w g 84 (imgC xi S m d).toArray) (hl : BV w (NOwn w (fun k => base ≤ k) (.slice B p sc)) S m d xi.pay) (hp : p ≤ 1000000) (hb : base ≤ w.heap.size) :
    Does Tryd.prog n' o e w (fun v w' => ∃ B' sc', v = .slice B' (p + 1) sc' ∧ ImO w' base B' (p + 1) sc' (l ++ [xi]) ∧ Below base w w') := by
  obtain ⟨vs, hw1, hw2⟩ := hown
  refine (Does.appX ho Tryd.underlying68 infoI4 rfl (by decide) hx hy hw1 (row_img hg) (imgC_one _ _ _ _) (by omega) (by decide) hb).mono ?_
  rintro v w' ⟨B', sc', rfl, h1, h2, h3, h4⟩
  have key : ∀ k, NOwn w (fun k => base ≤ k) (.slice B p sc) k → NOwn w (fun _ => True) (.slice B p sc) k := fun k hk => ⟨trivial, hk.2⟩
  refine ⟨B', sc', rfl, ⟨_, h1, ?_⟩, h2⟩
  exact ((hw2.app (EachR.single (img_rep hl))).fr (h3.mono key)).mono fun k hk _ => ⟨hk.1, (h4 k (key k hk)).2⟩
end
/-! chains in plain words -/
theorem chkL_app : ∀ (a b done : List Im), chkL done (a ++ b) = if chkL done a ≠ 0 then chkL done a else chkL (done ++ a) b
  | [], b, done => by simp [chkL]
  | x :: r, b, done => by
    rw [List.cons_append, chkL_cons, chkL_cons]
    split
    · rename_i h; rfl
    · split
      · rw [if_pos (by decide)]
      · split
        · rw [if_pos (by decide)]
        · rw [chkL_app r b (done ++ [x]), List.append_assoc]; rfl
theorem chk_snoc {l : List Im} {x : Im} (h : chkL [] l = 0) (hx : imgE x = 0) (hr : ∀ y ∈ l, y.role ≤ x.role) (hn : l.any (sameN x) = false) : chkL [] (l ++ [x]) = 0 := by
  rw [chkL_app, if_neg (by simp [h]), List.nil_append, chk_go hx ?_ hn]
  · rfl
  · unfold lessL
    cases hq : l.getLast? with
    | none => rfl
    | some y =>
      have := hr y (List.mem_of_getLast? hq)
      exact decide_eq_false (by omega)
theorem chk_ok : ∀ {l done : List Im}, chkL done l = 0 → ∀ x ∈ l, imgE x = 0
  | [], _, _, x, hx => by simp at hx
  | y :: r, done, h, x, hx => by
    rw [chkL_cons] at h
    split at h
    · rename_i h1; exact absurd h h1
    · rename_i h1
      split at h
      · cases h
      · split at h
        · cases h
        · rcases List.mem_cons.1 hx with rfl | hx
          · exact Decidable.not_not.1 h1
          · exact chk_ok h x hx
theorem chain_ok {l : List Im} (h : chainE l = 0) : (1 ≤ l.length ∧ l.length ≤ 8) ∧ chkL [] l = 0 ∧ (hasK l 1 = true ∧ hasK l 3 = true) ∧ ∀ x ∈ l, imgE x = 0 := by
  unfold chainE at h
  split at h
  · cases h
  · rename_i h1
    split at h
    · rename_i h2; exact absurd h h2
    · rename_i h2
      split at h
      · rename_i h3
        exact ⟨Decidable.not_not.1 h1, Decidable.not_not.1 h2, h3, chk_ok (Decidable.not_not.1 h2)⟩
      · cases h
theorem has_of {l : List Im} {k : Int} (h : hasK l k = true) (x : Im) : hasK (l ++ [x]) k = true := by rw [has_snoc, h]; rfl
theorem has_new (l : List Im) {x : Im} {k : Int} (h : x.role = k) : hasK (l ++ [x]) k = true := by rw [has_snoc, decide_eq_true h]; simp
theorem any_take_step {l : List Im} {x : Im} {i : Nat} (hi : i < l.length) : (l.take (i + 1)).any (sameN x) = ((l.take i).any (sameN x) || sameN x (l.getD i noIm)) := by
  rw [← take_im (getD_im hi), List.any_append]; simp
theorem no_role {l : List Im} {x : Im} {r : Int} (h : ∀ y ∈ l, y.role < r) (hx : x.role = r) : l.any (sameN x) = false := by
  rw [Bool.eq_false_iff]
  intro hh
  obtain ⟨y, hy, hs⟩ := List.any_eq_true.1 hh
  unfold sameN at hs
  simp only [Bool.and_eq_true, decide_eq_true_eq] at hs
  have := h y hy
  omega
theorem has_any {l : List Im} {x : Im} {r : Int} (h : l.any (sameN x) = true) (hx : x.role = r) : hasK l r = true := by
  obtain ⟨y, hy, hs⟩ := List.any_eq_true.1 h
  unfold sameN at hs
  simp only [Bool.and_eq_true, decide_eq_true_eq] at hs
  unfold hasK
  rw [List.any_eq_true]
  exact ⟨y, hy, decide_eq_true (hs.1.trans hx)⟩
theorem has_len {l : List Im} {k : Int} (h : hasK l k = true) : 1 ≤ l.length := by
  obtain ⟨y, hy, _⟩ := List.any_eq_true.1 h
  exact List.length_pos_of_mem hy
def DChR (w : World) (e : Ending) (w' : World) : Prop := ∃ S m k l, e = .returned (.slice S m k) ∧ ImO w' w.heap.size S m k l ∧ chainE l = 0 ∧ Ext w w'
/-- what stands while a chain is drawn, at a role -/
structure Dr (l : List Im) (r : Int) (q : Int) : Prop where
  chk : chkL [] l = 0
  le : ∀ y ∈ l, y.role ≤ r
  len : (l.length : Int) + q ≤ 2 * r
  h1 : 1 < r → hasK l 1 = true
  h3 : 3 < r → hasK l 3 = true
theorem Dr.up {l : List Im} {r : Int} (h : Dr l r 0) (h1 : r = 1 → hasK l 1 = true) (h3 : r = 3 → hasK l 3 = true) : Dr l (r + 1) 2 :=
  ⟨h.chk, fun y hy => by have := h.le y hy; omega, by have := h.len; omega, fun hr => by rcases (show r = 1 ∨ 1 < r by omega) with h4 | h4; exact h1 h4; exact h.h1 h4, fun hr => by rcases (show r = 3 ∨ 3 < r by omega) with h4 | h4; exact h3 h4; exact h.h3 h4⟩
theorem Dr.add {l : List Im} {r q : Int} {x : Im} (h : Dr l r q) (hq : 0 < q) (hx : imgE x = 0) (hr : x.role = r) (hn : l.any (sameN x) = false) : Dr (l ++ [x]) r (q - 1) :=
  ⟨chk_snoc h.chk hx (fun y hy => by rw [hr]; exact h.le y hy) hn, fun y hy => by
    rcases List.mem_append.1 hy with h4 | h4
    · exact h.le y h4
    · rw [List.mem_singleton.1 h4]; omega, by have := h.len; rw [List.length_append]; simp; omega, fun h4 => has_of (h.h1 h4) x, fun h4 => has_of (h.h3 h4) x⟩
theorem Dr.less {l : List Im} {r q q' : Int} (h : Dr l r q) (hq : q' ≤ q) : Dr l r q' := ⟨h.chk, h.le, by have := h.len; omega, h.h1, h.h3⟩
set_option maxRecDepth 20000 in
set_option maxHeartbeats 4000000 in
theorem drawChain {P : Nat → Prop} (w : World) (A : Option Addr) (n c : Nat) (codes : List UInt8) (ha : BV w P A n c codes) :
    Calls Tryd.prog 43 #[.slice A n c] w (DChR w) := by
  refine calls_enter Tryd.func43 rfl Tryd.ntmps43 rfl ?_
  have hE : Ext w w := Ext.refl w
  refine Wc.seq (fun K1 hK1 => ?_)
  refine Wc.keep [(0, _)] (.cons rfl (.nil)) ?_
  refine Wc.region ?_
  refine Wl.val rfl rfl rfl (Gives.assign rfl rfl) ?_
  refine Wl.nil ?_
  refine Wx.thenN (hK1 _ _ ?_)
  refine Wc.seq (fun K2 hK2 => ?_)
  refine Wc.keep [(0, _)] (.cons rfl (.nil)) ?_
  refine Wc.region ?_
  refine Wl.val rfl rfl rfl (Gives.move rfl rfl) ?_
  refine Wl.call rfl rfl rfl rfl Tryd.func13 rfl (by kernel_rfl) rfl (newD _ A n c codes ha 200) ?_
  rintro x0 w11 ⟨gC, rfl, hgC, hC, hx11⟩
  refine ⟨_, rfl, ?_⟩
  generalize hN : w11.heap.size = N at *
  have hgN := hC.lt
  replace hE := hE.trans hx11
  refine Wl.val rfl rfl rfl (Gives.assign rfl rfl) ?_
  refine Wl.nil ?_
  refine Wx.thenN (hK2 _ _ ?_)
  refine Wc.seq (fun K3 hK3 => ?_)
  refine Wc.keep [(3, _)] (.cons rfl (.nil)) ?_
  refine Wc.region ?_
  refine Wl.val rfl rfl rfl (Gives.assign rfl rfl) ?_
  refine Wl.nil ?_
  refine Wx.thenN (hK3 _ _ ?_)
  refine Wc.seq (fun K4 hK4 => ?_)
  refine Wc.seq (fun K5 hK5 => ?_)
  refine Wc.keep [(3, _), (4, _)] (.cons rfl (.cons rfl (.nil))) ?_
  refine Wc.region ?_
  refine Wl.val rfl rfl rfl (Gives.assign rfl rfl) ?_
  refine Wl.nil ?_
  refine Wx.thenN (hK5 _ _ ?_)
  refine Wc.block ?_
  refine Wc.keep [(3, _), (4, _), (5, _)] (.cons rfl (.cons rfl (.cons rfl (.nil)))) ?_
  refine Wc.loopC (ι := Int × (Option Addr × Nat × Nat) × List Im) [(3, _)] (fun | (r, (S, m, k), _) => [(5, .int .i64 r), (4, .slice S m k)]) (fun | (r, (S, m, k), l), wr => 1 ≤ r ∧ r ≤ 5 ∧ Dr l r 2 ∧ (∀ y ∈ l, y.role < r) ∧ ImO wr N S m k l ∧ CD wr gC N ∧ N ≤ wr.heap.size ∧ Ext w wr) (fun | (r, _) => (6 - r).toNat) ((1, (none, 0, 0), [])) (.cons (by first | exact rfl | exact look_int rfl (by omega) | exact look_slice rfl (by omega)) (.cons (by first | exact rfl | exact look_int rfl (by omega) | exact look_slice rfl (by omega)) (.cons rfl (.nil)))) (⟨by omega, by omega, ⟨rfl, by simp, by simp, fun h => absurd h (by omega), fun h => absurd h (by omega)⟩, by simp, ImO.nil_ _ _, hC, by omega, hE⟩) ?_
  intro ⟨r, ⟨S, m, k⟩, l⟩ wr hJ KL1 hKL1
  clear hE hC
  obtain ⟨hr1, hr5, hD, hlt, hIO, hC, hNw, hE⟩ := hJ
  refine Wc.seq (fun K6 hK6 => ?_)
  refine Wc.seq (fun K7 hK7 => ?_)
  refine Wc.keep [(3, _), (4, _), (5, _)] (.cons rfl (.cons rfl (.cons rfl (.nil)))) ?_
  refine Wc.region ?_
  refine Wl.val rfl rfl rfl (Gives.move rfl rfl) ?_
  refine Wl.val rfl rfl rfl (Gives.leq rfl rfl rfl) ?_
  refine Wl.nil ?_
  refine Wx.thenN (hK7 _ _ ?_)
  refine Wc.cond _ rfl (fun h13 => ?_) (fun h13 => ?_)
  · (first | replace h13 := of_decide_eq_true h13 | replace h13 := nd_true h13 | skip)
    refine Wc.skip ?_
    refine Wx.thenN (hK6 _ _ ?_)
    refine Wc.seq (fun K8 hK8 => ?_)
    refine Wc.block ?_
    refine Wc.seq (fun K9 hK9 => ?_)
    refine Wc.keep [(3, _), (4, _), (5, _)] (.cons rfl (.cons rfl (.cons rfl (.nil)))) ?_
    refine Wc.region ?_
    refine Wl.val rfl rfl rfl (Gives.move rfl rfl) ?_
    refine Wl.call rfl rfl rfl rfl Tryd.func36 rfl (by kernel_rfl) rfl (nextD _ gC N hC 3 (by omega)) ?_
    rintro x1 w61 ⟨z, rfl, ⟨hz, hz'⟩, hC1, hF1⟩
    refine ⟨_, rfl, ?_⟩
    replace hIO := hIO.fr hF1 (fun q hq => by omega)
    have hN61 := hF1.size
    replace hE := Ext.over hE hF1 hgC
    refine Wl.val rfl rfl rfl (Gives.assign rfl rfl) ?_
    refine Wl.nil ?_
    refine Wx.thenN (hK9 _ _ ?_)
    refine Wc.joinC (ι := Int) [(3, _), (4, _), (5, _)] (fun q => [(6, .int .i64 q)]) (fun q wr => 0 ≤ q ∧ q ≤ 2 ∧ (r = 1 ∨ r = 3 → 1 ≤ q) ∧ ImO wr N S m k l ∧ CD wr gC N ∧ N ≤ wr.heap.size ∧ Ext w wr) ?_ ?_ (.cons rfl (.cons rfl (.cons rfl (.nil))))
    · intro K10 hJ10
      refine Wc.seq (fun K11 hK11 => ?_)
      refine Wc.keep [(3, _), (4, _), (5, _), (6, _)] (.cons rfl (.cons rfl (.cons rfl (.cons rfl (.nil))))) ?_
      refine Wc.region ?_
      refine Wl.val rfl rfl rfl (Gives.move rfl rfl) ?_
      refine Wl.val rfl rfl rfl (Gives.eql rfl rfl rfl) ?_
      refine Wl.val rfl rfl rfl (Gives.move rfl rfl) ?_
      refine Wl.guard rfl rfl rfl (fun h20 => ?_) (fun h20 => ?_)
      · (first | replace h20 := of_decide_eq_false h20 | replace h20 := nd_false h20 | skip)
        refine Wl.val rfl rfl rfl (Gives.move rfl rfl) ?_
        refine Wl.val rfl rfl rfl (Gives.eql rfl rfl rfl) ?_
        refine Wl.val rfl rfl rfl (Gives.pickF rfl rfl rfl rfl) ?_
        refine Wl.nil ?_
        refine Wx.thenN (hK11 _ _ ?_)
        refine Wc.cond _ rfl (fun h23 => ?_) (fun h23 => ?_)
        · (first | replace h23 := of_decide_eq_true h23 | replace h23 := nd_true h23 | skip)
          refine Wc.keep [(3, _), (4, _), (5, _)] (.cons rfl (.cons rfl (.cons rfl (.nil)))) ?_
          refine Wc.region ?_
          refine Wl.val rfl rfl rfl (Gives.move rfl rfl) ?_
          refine Wl.call rfl rfl rfl rfl Tryd.func36 rfl (by kernel_rfl) rfl (nextD _ gC N hC1 2 (by omega)) ?_
          rintro x2 w81 ⟨z2, rfl, ⟨hz2, hz2'⟩, hC2, hF2⟩
          refine ⟨_, rfl, ?_⟩
          have hIO2 := hIO.fr hF2 (fun q hq => by omega)
          have hN81 := hF2.size
          replace hE := Ext.over hE hF2 hgC
          refine Wl.val rfl rfl rfl (Gives.add rfl rfl rfl (by first | exact IntWalk.i64_in _ (by omega) | exact u64_in _ (by omega) | exact u32_in _ (by omega) | exact u8_in _ (by omega) | exact rfl)) ?_
          refine Wl.val rfl rfl rfl (Gives.assign rfl rfl) ?_
          refine Wl.nil ?_
          refine Wx.thenN ?_
          first | exact hJ10 _ _ _ (.cons (by first | exact rfl | exact look_int rfl (by omega) | exact look_slice rfl (by omega)) (.cons rfl (.cons rfl (.cons rfl (.nil))))) ⟨by omega, by omega, fun _ => by omega, hIO2, hC2, by omega, hE⟩ | exact hJ10 _ _ _ (.cons (by first | exact rfl | exact look_int rfl (by omega) | exact look_slice rfl (by omega)) (.cons rfl (.cons rfl (.cons rfl (.nil))))) ⟨by omega, by omega, fun hh => by omega, hIO, hC1, by omega, hE⟩
        · (first | replace h23 := of_decide_eq_false h23 | replace h23 := nd_false h23 | skip)
          refine Wc.skip ?_
          refine Wx.thenN ?_
          first | exact hJ10 _ _ _ (.cons (by first | exact rfl | exact look_int rfl (by omega) | exact look_slice rfl (by omega)) (.cons rfl (.cons rfl (.cons rfl (.nil))))) ⟨by omega, by omega, fun _ => by omega, hIO2, hC2, by omega, hE⟩ | exact hJ10 _ _ _ (.cons (by first | exact rfl | exact look_int rfl (by omega) | exact look_slice rfl (by omega)) (.cons rfl (.cons rfl (.cons rfl (.nil))))) ⟨by omega, by omega, fun hh => by omega, hIO, hC1, by omega, hE⟩
      · (first | replace h20 := of_decide_eq_true h20 | replace h20 := nd_true h20 | skip)
        refine Wl.pass rfl rfl rfl ?_
        refine Wl.pass rfl rfl rfl ?_
        refine Wl.val rfl rfl rfl (Gives.pickT rfl rfl rfl rfl) ?_
        refine Wl.nil ?_
        refine Wx.thenN (hK11 _ _ ?_)
        refine Wc.condT rfl rfl ?_
        refine Wc.keep [(3, _), (4, _), (5, _)] (.cons rfl (.cons rfl (.cons rfl (.nil)))) ?_
        refine Wc.region ?_
        refine Wl.val rfl rfl rfl (Gives.move rfl rfl) ?_
        refine Wl.call rfl rfl rfl rfl Tryd.func36 rfl (by kernel_rfl) rfl (nextD _ gC N hC1 2 (by omega)) ?_
        rintro x2 w81 ⟨z2, rfl, ⟨hz2, hz2'⟩, hC2, hF2⟩
        refine ⟨_, rfl, ?_⟩
        have hIO2 := hIO.fr hF2 (fun q hq => by omega)
        have hN81 := hF2.size
        replace hE := Ext.over hE hF2 hgC
        refine Wl.val rfl rfl rfl (Gives.add rfl rfl rfl (by first | exact IntWalk.i64_in _ (by omega) | exact u64_in _ (by omega) | exact u32_in _ (by omega) | exact u8_in _ (by omega) | exact rfl)) ?_
        refine Wl.val rfl rfl rfl (Gives.assign rfl rfl) ?_
        refine Wl.nil ?_
        refine Wx.thenN ?_
        first | exact hJ10 _ _ _ (.cons (by first | exact rfl | exact look_int rfl (by omega) | exact look_slice rfl (by omega)) (.cons rfl (.cons rfl (.cons rfl (.nil))))) ⟨by omega, by omega, fun _ => by omega, hIO2, hC2, by omega, hE⟩ | exact hJ10 _ _ _ (.cons (by first | exact rfl | exact look_int rfl (by omega) | exact look_slice rfl (by omega)) (.cons rfl (.cons rfl (.cons rfl (.nil))))) ⟨by omega, by omega, fun hh => by omega, hIO, hC1, by omega, hE⟩
    intro q wj hJ
    clear hE hC hIO hNw
    obtain ⟨hq0, hq2, hq1, hIO, hC, hNw, hE⟩ := hJ
    have hD0 := hD.less hq2
    refine Wc.block ?_
    refine Wc.keep [(3, _), (4, _), (5, _), (6, _)] (.cons rfl (.cons rfl (.cons rfl (.cons rfl (.nil))))) ?_
    refine Wc.loopC (ι := Int × (Option Addr × Nat × Nat) × List Im) [(3, _), (5, _)] (fun | (p, (S, m, k), _) => [(6, .int .i64 p), (4, .slice S m k)]) (fun | (p, (S, m, k), l), wr => 0 ≤ p ∧ p ≤ q ∧ Dr l r p ∧ (p < q → hasK l r = true) ∧ (p = q → ∀ y ∈ l, y.role < r) ∧ ImO wr N S m k l ∧ CD wr gC N ∧ N ≤ wr.heap.size ∧ Ext w wr) (fun | (p, _) => p.toNat) ((q, (S, m, k), l)) (.cons (by first | exact rfl | exact look_int rfl (by omega) | exact look_slice rfl (by omega)) (.cons (by first | exact rfl | exact look_int rfl (by omega) | exact look_slice rfl (by omega)) (.cons rfl (.cons rfl (.nil))))) (⟨hq0, by omega, hD0, fun h => absurd h (by omega), fun _ => hlt, hIO, hC, hNw, hE⟩) ?_
    intro ⟨p, ⟨S, m, k⟩, l⟩ wr2 hJ KL2 hKL2
    clear hE hC hIO hNw hD hD0 hlt
    obtain ⟨hp0, hpq, hD, hhas, hlt, hIO, hC, hNw, hE⟩ := hJ
    have hIl := hIO.len
    have hDl := hD.len
    refine Wc.seq (fun K12 hK12 => ?_)
    refine Wc.seq (fun K13 hK13 => ?_)
    refine Wc.keep [(3, _), (4, _), (5, _), (6, _)] (.cons rfl (.cons rfl (.cons rfl (.cons rfl (.nil))))) ?_
    refine Wc.region ?_
    refine Wl.val rfl rfl rfl (Gives.move rfl rfl) ?_
    refine Wl.val rfl rfl rfl (Gives.gtr rfl rfl rfl) ?_
    refine Wl.nil ?_
    refine Wx.thenN (hK13 _ _ ?_)
    refine Wc.cond _ rfl (fun h28 => ?_) (fun h28 => ?_)
    · (first | replace h28 := of_decide_eq_true h28 | replace h28 := nd_true h28 | skip)
      refine Wc.skip ?_
      refine Wx.thenN (hK12 _ _ ?_)
      refine Wc.seq (fun K14 hK14 => ?_)
      refine Wc.block ?_
      refine Wc.seq (fun K15 hK15 => ?_)
      refine Wc.keep [(3, _), (4, _), (5, _), (6, _)] (.cons rfl (.cons rfl (.cons rfl (.cons rfl (.nil))))) ?_
      refine Wc.region ?_
      refine Wl.val rfl rfl rfl (Gives.move rfl rfl) ?_
      refine Wl.val rfl rfl rfl (Gives.move rfl rfl) ?_
      refine Wl.call rfl rfl rfl rfl Tryd.func60 rfl (by kernel_rfl) rfl (imageD _ gC N hC hNw r (by omega)) ?_
      rintro x3 w112 ⟨x, S1, m1, k1, rfl, hO1, hxe, hrole, hC3, hF3⟩
      refine ⟨_, rfl, ?_⟩
      have hN112 := hF3.size
      have hrl := hIO.lt
      replace hIO := hIO.fr hF3 (fun q hq => by omega)
      have hP1 : BV w112 (fun q => wr2.heap.size ≤ q) S1 m1 k1 x.pay := hO1.bv fun _ h => h
      replace hE := Ext.over hE hF3 hgC
      refine Wl.does rfl rfl rfl (Does.alB (.agg #[(.int .i64 0), (.string ByteArray.empty), (.int .i64 0), (.slice none 0 0)]) rfl (by kernel_rfl) rfl) ?_
      rintro _ w11_3 ⟨b7, rfl, hs7, hb7, hx11_3⟩
      have hg7 : w.heap.size ≤ b7 := Nat.le_trans hE.size hs7
      replace hE := hE.trans hx11_3
      refine Wl.acts rfl rfl (Does.stL 4 rfl rfl rfl hb7 (by kernel_rfl) rfl rfl rfl) ?_
      rintro _ w11_4 ⟨hbn, hF11_4⟩
      replace hE := Ext.over hE hF11_4 hg7
      replace hb7 := hbn
      clear hbn
      have hx7 := Ext.over hx11_3 hF11_4 hs7
      replace hIO := hIO.ext hx7
      replace hP1 := hP1.ext hx7
      replace hC3 := hC3.ext hx7
      have hz7 := hx7.size
      have hY0 := Ext.refl w11_4
      replace hb7 : Blk w11_4 b7 84 (imgC x S1 m1 k1).toArray := hb7
      refine Wl.nil ?_
      refine Wx.thenN (hK15 _ _ ?_)
      refine Wc.seq (fun K16 hK16 => ?_)
      refine Wc.keep [(3, _), (4, _), (5, _), (6, _), (7, _)] (.cons rfl (.cons rfl (.cons rfl (.cons rfl (.cons rfl (.nil)))))) ?_
      refine Wc.region ?_
      refine Wl.val rfl rfl rfl (Gives.assign rfl rfl) ?_
      refine Wl.nil ?_
      refine Wx.thenN (hK16 _ _ ?_)
      refine Wc.seq (fun K17 hK17 => ?_)
      refine Wc.seq (fun K18 hK18 => ?_)
      refine Wc.keep [(3, _), (4, _), (5, _), (6, _), (7, _), (8, _)] (.cons rfl (.cons rfl (.cons rfl (.cons rfl (.cons rfl (.cons rfl (.nil))))))) ?_
      refine Wc.region ?_
      refine Wl.val rfl rfl rfl (Gives.assign rfl rfl) ?_
      refine Wl.nil ?_
      refine Wx.thenN (hK18 _ _ ?_)
      refine Wc.block ?_
      refine Wc.keep [(3, _), (4, _), (5, _), (6, _), (7, _), (8, _), (9, _)] (.cons rfl (.cons rfl (.cons rfl (.cons rfl (.cons rfl (.cons rfl (.cons rfl (.nil)))))))) ?_
      refine Wc.loopC (ι := Nat × Bool) [(3, _), (4, _), (5, _), (6, _), (7, _)] (fun | (i, ag) => [(9, .int .i64 (i : Int)), (8, .bool ag)]) (fun | (i, ag), wr => i ≤ m ∧ ag = (l.take i).any (sameN x) ∧ Blk wr b7 84 (imgC x S1 m1 k1).toArray ∧ Ext w11_4 wr ∧ Ext w wr) (fun | (i, _) => m - i) ((0, false)) (.cons (by first | exact rfl | exact look_int rfl (by omega) | exact look_slice rfl (by omega)) (.cons (by first | exact rfl | exact look_int rfl (by omega) | exact look_slice rfl (by omega)) (.cons rfl (.cons rfl (.cons rfl (.cons rfl (.cons rfl (.nil)))))))) (⟨by omega, by rw [List.take_zero]; rfl, hb7, hY0, hE⟩) ?_
      intro ⟨i, ag⟩ wr3 hJ KL3 hKL3
      clear hE hb7 hY0
      obtain ⟨hi, hag, hb7, hY, hE⟩ := hJ
      refine Wc.seq (fun K19 hK19 => ?_)
      refine Wc.seq (fun K20 hK20 => ?_)
      refine Wc.keep [(3, _), (4, _), (5, _), (6, _), (7, _), (8, _), (9, _)] (.cons rfl (.cons rfl (.cons rfl (.cons rfl (.cons rfl (.cons rfl (.cons rfl (.nil)))))))) ?_
      refine Wc.region ?_
      refine Wl.val rfl rfl rfl (Gives.move rfl rfl) ?_
      refine Wl.val rfl rfl rfl (Gives.move rfl rfl) ?_
      refine Wl.val rfl rfl rfl (Gives.lenS rfl Tryd.underlying68 rfl) ?_
      refine Wl.val rfl rfl rfl (Gives.lss rfl rfl rfl) ?_
      refine Wl.nil ?_
      refine Wx.thenN (hK20 _ _ ?_)
      refine Wc.cond _ rfl (fun h37 => ?_) (fun h37 => ?_)
      · (first | replace h37 := of_decide_eq_true h37 | replace h37 := nd_true h37 | skip)
        refine Wc.skip ?_
        refine Wx.thenN (hK19 _ _ ?_)
        refine Wc.seq (fun K21 hK21 => ?_)
        refine Wc.block ?_
        refine Wc.keep [(3, _), (4, _), (5, _), (6, _), (7, _), (8, _), (9, _)] (.cons rfl (.cons rfl (.cons rfl (.cons rfl (.cons rfl (.cons rfl (.cons rfl (.nil)))))))) ?_
        refine Wc.regionD (fun _ => true) Eq (.read 0 (.read 1 (.read 2 (.read 3 (.read 4 (.read 5 (.read 6 (.read 7 (.read 8 (.read 9 (.read 10 (.read 11 (.read 12 (.read 13 (.read 14 (.read 15 (.read 16 (.read 17 .tail)))))))))))))))))) 18 (by kernel_rfl) (by kernel_rfl) (by kernel_rfl) (fun _ => rfl) (fun _ _ _ h k => h.trans k) Quiet ⟨1, rfl⟩ ?_
        intro w16 hR16
        replace hb7 := hb7.ext hR16.ext
        replace hE := hE.trans hR16.ext
        have hls := (hIO.sl (P := fun _ => True) fun _ _ => trivial).ext (hY.trans hR16.ext)
        replace hY := hY.trans hR16.ext
        obtain ⟨xb, xo, rfl, _⟩ := IL.at_ hls (show i < m by omega)
        refine RunE.readE rfl rfl rfl rfl (Gives.move rfl rfl) ?_
        refine RunE.readE rfl rfl rfl rfl (Gives.move rfl rfl) ?_
        refine RunE.split (t := 41) rfl (fun h41 => ?_) (fun h41 => ?_)
        · (first | replace h41 := of_decide_eq_true h41 | replace h41 := nd_true h41 | skip)
          refine RunE.pass rfl rfl rfl rfl ?_
          refine RunE.pass rfl rfl rfl rfl ?_
          refine RunE.pass rfl rfl rfl rfl ?_
          refine RunE.pass rfl rfl rfl rfl ?_
          refine RunE.pass rfl rfl rfl rfl ?_
          refine RunE.pass rfl rfl rfl rfl ?_
          refine RunE.pass rfl rfl rfl rfl ?_
          refine RunE.pass rfl rfl rfl rfl ?_
          refine RunE.pass rfl rfl rfl rfl ?_
          refine RunE.pass rfl rfl rfl rfl ?_
          refine RunE.pass rfl rfl rfl rfl ?_
          refine RunE.pass rfl rfl rfl rfl ?_
          refine RunE.pass rfl rfl rfl rfl ?_
          refine RunE.pass rfl rfl rfl rfl ?_
          refine RunE.pass rfl rfl rfl rfl ?_
          refine RunE.pass rfl rfl rfl rfl ?_
          refine RunE.tail rfl ?_
          refine Wl.pass rfl rfl rfl ?_
          refine Wl.pass rfl rfl rfl ?_
          refine Wl.val rfl rfl rfl (Gives.pickT rfl rfl rfl rfl) ?_
          refine Wl.val rfl rfl rfl (Gives.assign rfl rfl) ?_
          refine Wl.nil ?_
          refine Wx.blockN ?_
          refine Wx.thenN (hK21 _ _ ?_)
          refine Wc.keep [(3, _), (4, _), (5, _), (6, _), (7, _), (8, _), (9, _)] (.cons rfl (.cons rfl (.cons rfl (.cons rfl (.cons rfl (.cons rfl (.cons rfl (.nil)))))))) ?_
          refine Wc.region ?_
          refine Wl.val rfl rfl rfl (Gives.move rfl rfl) ?_
          refine Wl.val rfl rfl rfl (Gives.add rfl rfl rfl (by first | exact IntWalk.i64_in _ (by omega) | exact u64_in _ (by omega) | exact u32_in _ (by omega) | exact u8_in _ (by omega) | exact rfl)) ?_
          refine Wl.val rfl rfl rfl (Gives.assign rfl rfl) ?_
          refine Wl.nil ?_
          refine Wx.thenN ?_
          refine hKL3 (i + 1, _) _ _ (.cons (by first | exact rfl | exact look_int rfl (by omega) | exact look_slice rfl (by omega)) (.cons (by first | exact rfl | exact look_int rfl (by omega) | exact look_slice rfl (by omega)) (.cons rfl (.cons rfl (.cons rfl (.cons rfl (.cons rfl (.nil)))))))) ⟨by omega, ?_, hb7, hY, hE⟩ (by show m - (i + 1) < m - i; omega)
          rw [any_take_step (by omega)]
          simp_all [sameN]
        · (first | replace h41 := of_decide_eq_false h41 | replace h41 := nd_false h41 | skip)
          refine RunE.readE rfl rfl rfl rfl (Gives.move rfl rfl) ?_
          refine RunE.readE rfl rfl rfl rfl (Gives.move rfl rfl) ?_
          refine RunE.readE rfl rfl rfl rfl (Gives.ixSZ (i := _) (sz := 4) rfl Tryd.underlying68 (by kernel_rfl) rfl rfl rfl (by omega)) ?_
          refine RunE.readE rfl rfl rfl rfl (Gives.fieldAt 0 rfl Tryd.underlying84 rfl (by kernel_rfl) rfl rfl) ?_
          refine RunE.readE rfl rfl rfl rfl (Gives.ldC rfl (by kernel_rfl) rfl ((IL.cell hls (k := i) (by omega)).1)) ?_
          refine RunE.readE rfl rfl rfl rfl (Gives.fieldAt 0 rfl Tryd.underlying84 rfl (by kernel_rfl) rfl rfl) ?_
          refine RunE.readE rfl rfl rfl rfl (Gives.ldK rfl (by kernel_rfl) rfl hb7 rfl) ?_
          refine RunE.readE rfl rfl rfl rfl (Gives.eql rfl rfl rfl) ?_
          refine RunE.readE rfl rfl rfl rfl (Gives.move rfl rfl) ?_
          refine RunE.split (t := 50) rfl (fun h50 => ?_) (fun h50 => ?_)
          · (first | replace h50 := of_decide_eq_true h50 | replace h50 := nd_true h50 | skip)
            refine RunE.readE rfl rfl rfl rfl (Gives.move rfl rfl) ?_
            refine RunE.readE rfl rfl rfl rfl (Gives.move rfl rfl) ?_
            refine RunE.readE rfl rfl rfl rfl (Gives.ixSZ (i := _) (sz := 4) rfl Tryd.underlying68 (by kernel_rfl) rfl rfl rfl (by omega)) ?_
            refine RunE.readE rfl rfl rfl rfl (Gives.fieldAt 1 rfl Tryd.underlying84 rfl (by kernel_rfl) rfl rfl) ?_
            refine RunE.readE rfl rfl rfl rfl (Gives.ldC rfl (by kernel_rfl) rfl ((IL.cell hls (k := i) (by omega)).2)) ?_
            refine RunE.readE rfl rfl rfl rfl (Gives.fieldAt 1 rfl Tryd.underlying84 rfl (by kernel_rfl) rfl rfl) ?_
            refine RunE.readE rfl rfl rfl rfl (Gives.ldK rfl (by kernel_rfl) rfl hb7 rfl) ?_
            refine RunE.tail rfl ?_
            refine Wl.val rfl rfl rfl (Gives.txtEql rfl rfl rfl) ?_
            refine Wl.val rfl rfl rfl (Gives.pickT rfl rfl rfl rfl) ?_
            refine Wl.val rfl rfl rfl (Gives.pickF rfl rfl rfl rfl) ?_
            refine Wl.val rfl rfl rfl (Gives.assign rfl rfl) ?_
            refine Wl.nil ?_
            refine Wx.blockN ?_
            refine Wx.thenN (hK21 _ _ ?_)
            refine Wc.keep [(3, _), (4, _), (5, _), (6, _), (7, _), (8, _), (9, _)] (.cons rfl (.cons rfl (.cons rfl (.cons rfl (.cons rfl (.cons rfl (.cons rfl (.nil)))))))) ?_
            refine Wc.region ?_
            refine Wl.val rfl rfl rfl (Gives.move rfl rfl) ?_
            refine Wl.val rfl rfl rfl (Gives.add rfl rfl rfl (by first | exact IntWalk.i64_in _ (by omega) | exact u64_in _ (by omega) | exact u32_in _ (by omega) | exact u8_in _ (by omega) | exact rfl)) ?_
            refine Wl.val rfl rfl rfl (Gives.assign rfl rfl) ?_
            refine Wl.nil ?_
            refine Wx.thenN ?_
            refine hKL3 (i + 1, _) _ _ (.cons (by first | exact rfl | exact look_int rfl (by omega) | exact look_slice rfl (by omega)) (.cons (by first | exact rfl | exact look_int rfl (by omega) | exact look_slice rfl (by omega)) (.cons rfl (.cons rfl (.cons rfl (.cons rfl (.cons rfl (.nil)))))))) ⟨by omega, ?_, hb7, hY, hE⟩ (by show m - (i + 1) < m - i; omega)
            rw [any_take_step (by omega)]
            simp_all [sameN]
          · (first | replace h50 := of_decide_eq_false h50 | replace h50 := nd_false h50 | skip)
            refine RunE.pass rfl rfl rfl rfl ?_
            refine RunE.pass rfl rfl rfl rfl ?_
            refine RunE.pass rfl rfl rfl rfl ?_
            refine RunE.pass rfl rfl rfl rfl ?_
            refine RunE.pass rfl rfl rfl rfl ?_
            refine RunE.pass rfl rfl rfl rfl ?_
            refine RunE.pass rfl rfl rfl rfl ?_
            refine RunE.tail rfl ?_
            refine Wl.pass rfl rfl rfl ?_
            refine Wl.val rfl rfl rfl (Gives.pickF rfl rfl rfl rfl) ?_
            refine Wl.val rfl rfl rfl (Gives.pickF rfl rfl rfl rfl) ?_
            refine Wl.val rfl rfl rfl (Gives.assign rfl rfl) ?_
            refine Wl.nil ?_
            refine Wx.blockN ?_
            refine Wx.thenN (hK21 _ _ ?_)
            refine Wc.keep [(3, _), (4, _), (5, _), (6, _), (7, _), (8, _), (9, _)] (.cons rfl (.cons rfl (.cons rfl (.cons rfl (.cons rfl (.cons rfl (.cons rfl (.nil)))))))) ?_
            refine Wc.region ?_
            refine Wl.val rfl rfl rfl (Gives.move rfl rfl) ?_
            refine Wl.val rfl rfl rfl (Gives.add rfl rfl rfl (by first | exact IntWalk.i64_in _ (by omega) | exact u64_in _ (by omega) | exact u32_in _ (by omega) | exact u8_in _ (by omega) | exact rfl)) ?_
            refine Wl.val rfl rfl rfl (Gives.assign rfl rfl) ?_
            refine Wl.nil ?_
            refine Wx.thenN ?_
            refine hKL3 (i + 1, _) _ _ (.cons (by first | exact rfl | exact look_int rfl (by omega) | exact look_slice rfl (by omega)) (.cons (by first | exact rfl | exact look_int rfl (by omega) | exact look_slice rfl (by omega)) (.cons rfl (.cons rfl (.cons rfl (.cons rfl (.cons rfl (.nil)))))))) ⟨by omega, ?_, hb7, hY, hE⟩ (by show m - (i + 1) < m - i; omega)
            rw [any_take_step (by omega)]
            simp_all [sameN]
      · (first | replace h37 := of_decide_eq_false h37 | replace h37 := nd_false h37 | skip)
        refine Wc.exit ?_
        refine Wx.thenE ?_
        refine Wx.thenE ?_
        refine Wx.hit ?_
        refine Wx.thenN (hK17 _ _ ?_)
        refine Wc.seq (fun K22 hK22 => ?_)
        refine Wc.keep [(3, _), (4, _), (5, _), (6, _), (7, _), (8, _)] (.cons rfl (.cons rfl (.cons rfl (.cons rfl (.cons rfl (.cons rfl (.nil))))))) ?_
        obtain rfl : i = m := by omega
        rw [List.take_of_length_le (by omega)] at hag
        replace hIO := hIO.ext hY
        replace hP1 := hP1.ext hY
        replace hC3 := hC3.ext hY
        have hzY := hY.size
        refine Wc.region ?_
        refine Wl.val rfl rfl rfl (Gives.move rfl rfl) ?_
        refine Wl.val rfl rfl rfl (Gives.not rfl rfl) ?_
        refine Wl.nil ?_
        refine Wx.thenN (hK22 _ _ ?_)
        refine Wc.cond _ rfl (fun h62 => ?_) (fun h62 => ?_)
        · (first | replace h62 := of_decide_eq_true h62 | replace h62 := nd_true h62 | skip)
          refine Wc.keep [(3, _), (4, _), (5, _), (6, _), (7, _)] (.cons rfl (.cons rfl (.cons rfl (.cons rfl (.cons rfl (.nil)))))) ?_
          refine Wc.region ?_
          refine Wl.val rfl rfl rfl (Gives.move rfl rfl) ?_
          refine Wl.val rfl rfl rfl (Gives.ldW rfl (by kernel_rfl) rfl hb7 (by kernel_rfl)) ?_
          refine Wl.does rfl rfl rfl (Does.lit1 4 rfl Tryd.underlying68 infoI2 rfl rfl rfl) ?_
          rintro _ w182 ⟨g182, rfl, hs182, hk182, hx182⟩
          replace hIO := hIO.ext hx182
          replace hP1 := hP1.ext hx182
          replace hC3 := hC3.ext hx182
          have hz182 := hx182.size
          replace hb7 := hb7.ext hx182
          replace hE := hE.trans hx182
          have hln : BV w182 (NOwn w182 (fun k => N ≤ k) (.slice S i k)) S1 m1 k1 x.pay := hP1.bd.mono fun q hq => ⟨by omega, hq.2, fun he => by have := hrl q he; omega⟩
          refine Wl.does rfl rfl rfl (Does.appIO rfl rfl rfl hIO hk182 hln (by omega) (by omega)) ?_
          rintro _ w183 ⟨B2, sc2, rfl, hIO2, hB183⟩
          have hC4 := hC3.fr (below_fr hB183) (fun q hq => hq)
          have hz183 := hB183.size
          replace hE := Ext.step hE hB183 (by omega)
          refine Wl.val rfl rfl rfl (Gives.assign rfl rfl) ?_
          refine Wl.nil ?_
          refine Wx.blockN ?_
          refine Wx.thenN (hK14 _ _ ?_)
          refine Wc.keep [(3, _), (4, _), (5, _), (6, _)] (.cons rfl (.cons rfl (.cons rfl (.cons rfl (.nil))))) ?_
          refine Wc.region ?_
          refine Wl.val rfl rfl rfl (Gives.move rfl rfl) ?_
          refine Wl.val rfl rfl rfl (Gives.sub rfl rfl rfl (by first | exact IntWalk.i64_in _ (by omega) | exact u64_in _ (by omega) | exact u32_in _ (by omega) | exact u8_in _ (by omega) | exact rfl)) ?_
          refine Wl.val rfl rfl rfl (Gives.assign rfl rfl) ?_
          refine Wl.nil ?_
          refine Wx.thenN ?_
          have hany : l.any (sameN x) = false := by rw [← hag]; simpa using h62
          exact hKL2 (p - 1, (B2, i + 1, sc2), l ++ [x]) _ _ (.cons (by first | exact rfl | exact look_int rfl (by omega) | exact look_slice rfl (by omega)) (.cons (by first | exact rfl | exact look_int rfl (by omega) | exact look_slice rfl (by omega)) (.cons rfl (.cons rfl (.nil))))) ⟨by omega, by omega, hD.add (by omega) hxe hrole hany, fun _ => has_new l hrole, fun h => absurd h (by omega), hIO2, hC4, by omega, hE⟩ (by show (p - 1).toNat < p.toNat; omega)
        · (first | replace h62 := of_decide_eq_false h62 | replace h62 := nd_false h62 | skip)
          refine Wc.skip ?_
          refine Wx.blockN ?_
          refine Wx.thenN (hK14 _ _ ?_)
          refine Wc.keep [(3, _), (4, _), (5, _), (6, _)] (.cons rfl (.cons rfl (.cons rfl (.cons rfl (.nil))))) ?_
          refine Wc.region ?_
          refine Wl.val rfl rfl rfl (Gives.move rfl rfl) ?_
          refine Wl.val rfl rfl rfl (Gives.sub rfl rfl rfl (by first | exact IntWalk.i64_in _ (by omega) | exact u64_in _ (by omega) | exact u32_in _ (by omega) | exact u8_in _ (by omega) | exact rfl)) ?_
          refine Wl.val rfl rfl rfl (Gives.assign rfl rfl) ?_
          refine Wl.nil ?_
          refine Wx.thenN ?_
          have hany : l.any (sameN x) = true := by rw [← hag]; simpa using h62
          exact hKL2 (p - 1, (S, i, k), l) _ _ (.cons (by first | exact rfl | exact look_int rfl (by omega) | exact look_slice rfl (by omega)) (.cons (by first | exact rfl | exact look_int rfl (by omega) | exact look_slice rfl (by omega)) (.cons rfl (.cons rfl (.nil))))) ⟨by omega, by omega, hD.less (by omega), fun _ => has_any hany hrole, fun h => absurd h (by omega), hIO, hC3, by omega, hE⟩ (by show (p - 1).toNat < p.toNat; omega)
    · (first | replace h28 := of_decide_eq_false h28 | replace h28 := nd_false h28 | skip)
      refine Wc.exit ?_
      refine Wx.thenE ?_
      refine Wx.thenE ?_
      refine Wx.hit ?_
      refine Wx.blockN ?_
      refine Wx.thenN (hK8 _ _ ?_)
      refine Wc.keep [(3, _), (4, _), (5, _)] (.cons rfl (.cons rfl (.cons rfl (.nil)))) ?_
      refine Wc.region ?_
      refine Wl.val rfl rfl rfl (Gives.move rfl rfl) ?_
      refine Wl.val rfl rfl rfl (Gives.add rfl rfl rfl (by first | exact IntWalk.i64_in _ (by omega) | exact u64_in _ (by omega) | exact u32_in _ (by omega) | exact u8_in _ (by omega) | exact rfl)) ?_
      refine Wl.val rfl rfl rfl (Gives.assign rfl rfl) ?_
      refine Wl.nil ?_
      refine Wx.thenN ?_
      have hp00 : p = 0 := by omega
      subst hp00
      exact hKL1 (r + 1, (S, m, k), l) _ _ (.cons (by first | exact rfl | exact look_int rfl (by omega) | exact look_slice rfl (by omega)) (.cons (by first | exact rfl | exact look_int rfl (by omega) | exact look_slice rfl (by omega)) (.cons rfl (.nil)))) ⟨by omega, by omega, hD.up (fun h => by rw [← h]; exact hhas (by have := hq1 (.inl h); omega)) (fun h => by rw [← h]; exact hhas (by have := hq1 (.inr h); omega)), fun y hy => by have := hD.le y hy; omega, hIO, hC, hNw, hE⟩ (by show (6 - (r + 1)).toNat < (6 - r).toNat; omega)
  · (first | replace h13 := of_decide_eq_false h13 | replace h13 := nd_false h13 | skip)
    refine Wc.exit ?_
    refine Wx.thenE ?_
    refine Wx.thenE ?_
    refine Wx.hit ?_
    refine Wx.thenN (hK4 _ _ ?_)
    refine Wc.seq (fun K23 hK23 => ?_)
    refine Wc.keep [(4, _)] (.cons rfl (.nil)) ?_
    refine Wc.region ?_
    refine Wl.val rfl rfl rfl (Gives.move rfl rfl) ?_
    refine Wl.val rfl rfl rfl (Gives.assign rfl rfl) ?_
    refine Wl.nil ?_
    refine Wx.thenN (hK23 _ _ ?_)
    refine Wc.ret ?_
    refine Wx.ret [_] ⟨rfl, trivial⟩ ?_
    have hr : r = 5 := by omega
    subst hr
    have hl1 := has_len (hD.h1 (by omega))
    have hlen := hD.len
    exact ⟨S, m, k, l, rfl, hIO.low (by omega), chainE_0 ⟨hl1, by omega⟩ hD.chk ⟨hD.h1 (by omega), hD.h3 (by omega)⟩, hE⟩
end Go.Proofs.YtnbgieccindpnaaDoor
/- Rows of images turned: an element stored, a name stored, rows put together. -/
namespace Go.Proofs.YtnbgieccindpnaaDoor
set_option linter.all false
set_option maxRecDepth 20000
open Go.RowKit
/-- a row of images of the call's own in block g; the payloads elsewhere -/
def IOg (w : World) (base g m c : Nat) (l : List Im) : Prop := ∃ vs, w.ownsRow base 84 4 (.slice (some ⟨g, 0, none⟩) m c) m vs ∧ EachR Rp.img w (fun k => k ≠ g) vs l
theorem ImO.head {w : World} {base m c : Nat} {A : Option Addr} {l : List Im} (h : ImO w base A m c l) (hm : 0 < m) : ∃ g, A = some ⟨g, 0, none⟩ ∧ base ≤ g ∧ g < w.heap.size := let ⟨vs, ho, _⟩ := h; own_head ho hm
theorem ImO.g {w : World} {base g m c : Nat} {l : List Im} (h : ImO w base (some ⟨g, 0, none⟩) m c l) : IOg w base g m c l :=
  let ⟨vs, ho, he⟩ := h
  ⟨vs, ho, he.mono fun k hk _ => fun hkg => hk.2.2 (by rw [hkg]; rfl)⟩
theorem IOg.ext {w w' : World} {base g m c : Nat} {l : List Im} (h : IOg w base g m c l) (e : Ext w w') : IOg w' base g m c l := let ⟨vs, ho, he⟩ := h; ⟨vs, own_ext ho e, he.fr (e.fr.mono fun _ _ => trivial)⟩
theorem IOg.sl {w : World} {base g m c : Nat} {l : List Im} (h : IOg w base g m c l) : SL Rp.img w (fun _ => True) (some ⟨g, 0, none⟩) m c l := let ⟨vs, ho, he⟩ := h; ⟨vs, Row.of_own ho (fun _ _ => trivial), he.mono fun _ _ _ => trivial⟩
theorem IOg.at_ {w : World} {base g m c k : Nat} {l : List Im} (h : IOg w base g m c l) (hk : k < m) :
    ∃ x S d q, l[k]? = some x ∧ w.rangeAt g (0 + k * 4) (imgC x S d q) ∧ BV w (fun k => k ≠ g) S d q x.pay := by
  obtain ⟨vs, ho, he⟩ := h
  have hln : l.length = m := by
    have h1 := he.1
    have h2 := ho.1
    have h3 : Rp.img.size = 4 := rfl
    rw [h3] at h1
    omega
  have hz := getD_im (show k < l.length by omega)
  generalize l.getD k noIm = x at hz
  obtain ⟨S, d, q, h5, h6⟩ := img_of (he.2 k x hz)
  refine ⟨x, S, d, q, hz, fun j v hj => ?_, h6⟩
  have hc := ho.cells (g := g) rfl (k * 4 + j) v (by
    have e : ((vs.drop (k * Rp.img.size)).take Rp.img.size)[j]? = some v := by rw [h5]; exact hj
    rw [List.getElem?_take] at e
    split at e
    · rw [List.getElem?_drop] at e; exact e
    · cases e)
  have e2 : (0 + k * 4 + j) = k * 4 + j := by omega
  rw [e2]
  simpa [Addr.add_lit] using hc
theorem take_mid {α : Type} (cur vs4 : List α) (o q m : Nat) (h4 : vs4.length = q) (hm : o + q ≤ m) (hc : m ≤ cur.length) : (cur.take o ++ vs4 ++ cur.drop (o + q)).take m = (cur.take m).take o ++ vs4 ++ (cur.take m).drop (o + q) := by
  have h1 : (cur.take o).length = o := by rw [List.length_take]; omega
  rw [List.append_assoc, List.take_append, h1, List.take_of_length_le (by omega), List.take_append, h4, List.take_of_length_le (show vs4.length ≤ m - o by omega), List.take_take, Nat.min_eq_left (by omega), List.drop_take, ← List.append_assoc]
  congr 2
  omega
theorem run_stVar {P : Program} (g off : Nat) (t' ty : TypeId) (vs : List Value) (cur : Array Value) (w : World) (hg : w.heap[g]? = some (.cells cur t' (0, 0))) (hl : off + vs.length ≤ cur.size) (h1 : ∀ v ∈ vs, v.oneCell' = true) (hi : (P.info? ty).map (·.size) = some vs.length) :
    (storeVar ty ⟨g, off, none⟩ (.agg vs.toArray)).run P w = .ok () (w.setRow g (cur.toList.take off ++ vs ++ cur.toList.drop (off + vs.length)).toArray) := by
  have h := run_storeCells_at (P := P) g off t' vs 0 cur w hg (by omega) h1
  simp only [Nat.add_zero] at h
  cases hq : P.info? ty with
  | none => simp [hq] at hi
  | some i =>
    have hs : i.size = vs.length := by simp [hq] at hi; omega
    simp [storeVar, sizeOf, typeInfo, hq, Value.cells, hs, h]
section
variable {n : Nat} {e : Env} {w : World} {o : Oper} {x y : Operand}
/-- an image stored at a place of the row -/
theorem Does.stIOg {base g m c j d q : Nat} {S : Option Addr} {l : List Im} {xi : Im} {t : TypeId} (ho : o.op = .store t x y) (hx : ev e x = some (.pointer (some ⟨g, 0 + j * 4, none⟩))) (hy : ev e y = some (.agg (imgC xi S d q).toArray)) (hown : IOg w base g m c l) (hp : BV w (fun k => k ≠ g) S d q xi.pay) (hi : (Tryd.prog.info? t).map (·.size) = some 4) (hj : j < m) :
    Does Tryd.prog n o e w (fun _ w' => IOg w' base g m c (l.take j ++ [xi] ++ l.drop (j + 1)) ∧ Fr (fun k => k ≠ g) w w') := by
  obtain ⟨vs, hw, he⟩ := hown
  have hl := hw.1
  rcases hw.2 with ⟨hv, h0⟩ | ⟨g', cap, cur, hv, hb, hg, hnc, hcm, hcs, ht⟩
  · simp only [Value.slice.injEq] at hv; cases hv.1
  · simp only [Value.slice.injEq, Option.some.injEq, Addr.mk.injEq, and_true, true_and] at hv
    obtain ⟨rfl, rfl⟩ := hv
    have hcl : m * 4 ≤ cur.toList.length := by
      have := congrArg List.length ht
      rw [List.length_take] at this
      omega
    intro a ha ops Q rest hwd hK
    refine BigFrame.wpList_want hwd fun K hk => ?_
    have hst := run_stVar (P := Tryd.prog) g (0 + j * 4) 84 t (imgC xi S d q) cur w hg (by show 0 + j * 4 + 4 ≤ cur.size; simp at hcl; omega) (imgC_one xi S d q) hi
    unfold Oper.wp execOp
    simp only [ho, ha.ev hx, ha.ev hy, Instr.storeAt, Instr.sureAddr, Sem.run_bind, Sem.run_pure, Result.andThen_ok, hst]
    have hF := fr_setRow w g (cur.toList.take (0 + j * 4) ++ imgC xi S d q ++ cur.toList.drop (0 + j * 4 + (imgC xi S d q).length)).toArray
    have hG := setRow_heap w g cur (cur.toList.take (0 + j * 4) ++ imgC xi S d q ++ cur.toList.drop (0 + j * 4 + (imgC xi S d q).length)).toArray 84 (0, 0) hg
    refine hk _ _ (hK _ _ ⟨⟨vs.take (j * 4) ++ imgC xi S d q ++ vs.drop ((j + 1) * 4), ⟨?_, .inr ⟨g, c, _, rfl, hb, hG, hnc, hcm, ?_, ?_⟩⟩, ?_⟩, hF⟩)
    · simp [imgC]; omega
    · simp [imgC] at *; omega
    · have h2 := take_mid cur.toList (imgC xi S d q) (j * 4) 4 (m * 4) rfl (by omega) hcl
      rw [ht] at h2
      have e1 : 0 + j * 4 = j * 4 := by omega
      have e2 : (imgC xi S d q).length = 4 := rfl
      have e3 : (j + 1) * 4 = j * 4 + 4 := by omega
      rw [e1, e2, e3]
      exact h2
    · exact (((he.take j).app (EachR.single (img_rep hp))).app (he.drop (j + 1))).fr hF
end
theorem set_mid {α : Type} (A B : List α) (a b c d v : α) (k : Nat) (h : A.length = k) : (A ++ [a, b, c, d] ++ B).set (k + 1) v = A ++ [a, v, c, d] ++ B := by
  subst h
  simp [List.set_append]
section
variable {n : Nat} {e : Env} {w : World} {o : Oper} {x y : Operand}
/-- the name of an image of the row stored -/
theorem Does.stName {base g m c j : Nat} {l : List Im} {nm2 : List UInt8} {t : TypeId} (ho : o.op = .store t x y) (hx : ev e x = some (.pointer (some ⟨g, 0 + (j * 4 + 1), none⟩))) (hy : ev e y = some (txt nm2)) (hown : IOg w base g m c l) (hi : (Tryd.prog.info? t).map (·.size) = some 1) (hj : j < m) :
    Does Tryd.prog n o e w (fun _ w' => ∃ l', IOg w' base g m c l' ∧ Fr (fun k => k ≠ g) w w') := by
  obtain ⟨vs, hw, he⟩ := hown
  have hl := hw.1
  have hln : l.length = m := by
    have h1 := he.1
    have h3 : Rp.img.size = 4 := rfl
    rw [h3] at h1
    omega
  have hz := getD_im (show j < l.length by omega)
  generalize l.getD j noIm = z at hz
  have hj4 := he.2 j z hz
  obtain ⟨S, d, q, h5, h6⟩ := img_of hj4
  have h5' : (vs.drop (j * 4)).take 4 = imgC z S d q := h5
  have hvs : vs = vs.take (j * 4) ++ imgC z S d q ++ vs.drop ((j + 1) * 4) := by
    have e3 : (j + 1) * 4 = j * 4 + 4 := by omega
    rw [← h5', e3, ← List.drop_drop, List.append_assoc, List.take_append_drop, List.take_append_drop]
  have hset : vs.set (j * 4 + 1) (txt nm2) = vs.take (j * 4) ++ imgC ⟨z.role, nm2, z.ver, z.pay⟩ S d q ++ vs.drop ((j + 1) * 4) := by
    conv => lhs; rw [hvs]
    exact set_mid _ _ _ _ _ _ _ _ (by rw [List.length_take]; omega)
  refine (Does.stR (i := j * 4 + 1) ho hx hy rfl hw hi (by omega)).mono ?_
  rintro _ w' ⟨h1, h2⟩
  refine ⟨l.take j ++ [⟨z.role, nm2, z.ver, z.pay⟩] ++ l.drop (j + 1), ⟨_, h1, ?_⟩, h2⟩
  rw [hset]
  exact (((he.take j).app (EachR.single (img_rep (x := ⟨z.role, nm2, z.ver, z.pay⟩) h6))).app (he.drop (j + 1))).fr h2
end
/-- a row of images made from block N on; the payloads below N -/
def IOb (w : World) (N : Nat) (A : Option Addr) (n c : Nat) (l : List Im) : Prop := ∃ vs, w.ownsRow N 84 4 (.slice A n c) n vs ∧ EachR Rp.img w (fun k => k < N) vs l
theorem range_goX {w0 wc wS : World} {b o : Nat} {cs : List Value} (h : w0.rangeAt b o cs) (hb : b < w0.heap.size) (hX : Ext w0 wc) (hS : Fr (Old w0.heap.size []) wc wS) : wS.rangeAt b o cs := fun j v hj =>
  (World.cell?_of_block (w := wc) (a := ⟨b, o + j, none⟩) (hS.block b (Nat.lt_of_lt_of_le hb hX.size) ⟨hb, trivial⟩)).trans ((hX.cells.1 b (o + j) hb).trans (h j v hj))
theorem IOb.nil_ {w : World} {N g : Nat} (hk : Blk w g 84 #[]) (hg : N ≤ g) : IOb w N (some ⟨g, 0, none⟩) 0 0 [] := ⟨[], Blk.own (xs := []) hk hg rfl rfl (by omega), EachR.nil_⟩
theorem IOb.ext {w w' : World} {N n c : Nat} {A : Option Addr} {l : List Im} (h : IOb w N A n c l) (e : Ext w w') : IOb w' N A n c l := let ⟨vs, ho, he⟩ := h; ⟨vs, own_ext ho e, he.fr (e.fr.mono fun _ _ => trivial)⟩
theorem IOb.sl {w : World} {N n c : Nat} {A : Option Addr} {l : List Im} (h : IOb w N A n c l) : SL Rp.img w (fun _ => True) A n c l := let ⟨vs, ho, he⟩ := h; ⟨vs, Row.of_own ho (fun _ _ => trivial), he.mono fun _ _ _ => trivial⟩
section
variable {n : Nat} {e : Env} {w : World} {o : Oper} {x y : Operand}
theorem Does.appIOb {N p sc m c : Nat} {B A : Option Addr} {l r : List Im} {ys : List Value} {T : Nat → Prop} (ho : o.op = .call { callee := .builtin .append, args := #[x, y], argTypes := #[68, 68] })
    (hx : ev e x = some (.slice B p sc)) (hy : ev e y = some (.slice A m c)) (hown : IOb w N B p sc l) (hr : Row w T 4 A m c ys) (he : EachR Rp.img w (fun k => k < N) ys r) (hp : p + m ≤ 1000000) (hb : N ≤ w.heap.size) :
    Does Tryd.prog n o e w (fun v w' => ∃ B' sc', v = .slice B' (p + m) sc' ∧ IOb w' N B' (p + m) sc' (l ++ r) ∧ Below N w w' ∧ Fr (NOwn w (fun _ => True) (.slice B p sc)) w w') := by
  obtain ⟨vs, hw1, hw2⟩ := hown
  refine (Does.appX ho Tryd.underlying68 infoI4 rfl (by decide) hx hy hw1 hr he.one (by omega) (by decide) hb).mono ?_
  rintro v w' ⟨B', sc', rfl, h1, h2, h3, _⟩
  exact ⟨B', sc', rfl, ⟨_, h1, (hw2.app he).fr (below_fr h2)⟩, h2, h3⟩
variable {P : Program} {t el : TypeId} {A : Option Addr} {m c : Nat}
/-- an empty literal, whatever the elements -/
theorem Does.lit0 {zv : Value} (sz : Nat) (ho : o.op = .buildSlice t 0 #[]) (ht : P.underlying t = some (.slice el)) (hinf : (P.info? el).map (fun i => (i.zero, i.size)) = some (some zv, sz)) :
    Does P n o e w (fun v w' => ∃ g, v = .slice (some ⟨g, 0, none⟩) 0 0 ∧ w.heap.size ≤ g ∧ Blk w' g el #[] ∧ Ext w w') := by
  intro a ha ops Q rest hw hK
  refine BigFrame.wpList_want hw fun K hk => ?_
  cases hie : P.info? el with
  | none => simp [hie] at hinf
  | some f =>
    have hf : f.zero = some zv ∧ f.size = sz := by simpa [hie] using hinf
    have hs : ∀ w, (sizeOf el).run P w = .ok sz w := fun w => by simp [sizeOf, typeInfo, hie, hf.2]
    have hrun : (execOp a.eval o).run P w = .ok (.value (.slice (some ⟨w.heap.size, 0, none⟩) 0 0)) (w.alloc (.cells #[] el)) := by
      unfold execOp
      simp only [ho, Instr.buildSlice, Sem.run_bind, run_underlying ht, Result.andThen_ok, hs, Nat.zero_mul]
      simp [Instr.fill, newRow, go_sem]
    unfold Oper.wp
    rw [hrun]
    exact hk _ _ (hK _ _ ⟨_, rfl, Nat.le_refl _, Blk.new _ _ _, (Ext.refl _).alloc _⟩)
/-- 's[k:]', whatever the elements -/
theorem Gives.cutLoZ {kd : IntKind} {q : Int} (sz k : Nat) (ho : o.op = .slice t x (some y) none none) (ht : P.underlying t = some (.slice el)) (hsz : (P.info? el).map (·.size) = some sz) (hx : ev e x = some (.slice A m c)) (hy : ev e y = some (.int kd q)) (hq : q = (k : Int)) (hk : k ≤ m) : Gives P n o e w (.slice (cutAddr A c k sz) (m - k) (c - k)) := .run fun a ha => by
  subst hq
  cases hi : P.info? el with
  | none => simp [hi] at hsz
  | some f =>
    have hf : f.size = sz := by simpa [hi] using hsz
    have hel : P.elem t = el := by simp [Program.elem, ht]
    have hat := fun (x : Value) (lo hi mx : Option Value) => run_sliceAt_slice (P := P) w t x lo hi mx (by rw [hel]; exact ht)
    have hrun := run_cut_l (P := P) w t A m c (by rw [hel]; exact ht) kd k (by omega) (by omega)
    have hs : (sizeOf (P.elem t)).run P w = .ok sz w := by simp [sizeOf, typeInfo, hel, hi, hf]
    unfold execOp
    simp only [ho, ha.ev hx, ha.ev hy, Option.map_some, Option.map_none, Sem.run_bind, hat, hrun, hs, Result.andThen_ok, Sem.run_pure, Int.toNat_natCast]
end
end Go.Proofs.YtnbgieccindpnaaDoor
