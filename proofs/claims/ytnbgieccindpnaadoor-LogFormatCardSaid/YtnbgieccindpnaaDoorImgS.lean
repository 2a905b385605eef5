/- Chains of images: plain words, rows of images, CheckChain. -/
import Derived.Test.YtnbgieccindpnaaDoorImgR
import Derived.Test.YtnbgieccindpnaaDoorRep
namespace Go.Proofs.YtnbgieccindpnaaDoor
set_option linter.all false
set_option maxRecDepth 20000
open Go.RowKit
def Rp.img : Rp Im := ((Rp.int .i64).pair (Rp.str.pair ((Rp.int .i64).pair Rp.bytes))).of fun x => (x.role, x.name, x.ver, x.pay)
def imgC (x : Im) (A : Option Addr) (n c : Nat) : List Value := [.int .i64 x.role, txt x.name, .int .i64 x.ver, .slice A n c]
theorem img_of {w : World} {P : Nat → Prop} {cs : List Value} {x : Im} (h : Rp.img.rep w P cs x) : ∃ A n c, cs = [.int .i64 x.role, txt x.name, .int .i64 x.ver, .slice A n c] ∧ BV w P A n c x.pay := by
  obtain ⟨c1, _, rfl, h1, c2, _, rfl, h2, c3, c4, rfl, h3, ⟨A, n, c, h4, i4⟩⟩ := h
  have h1' : c1 = [.int .i64 x.role] := h1
  have h2' : c2 = [txt x.name] := h2
  have h3' : c3 = [.int .i64 x.ver] := h3
  subst h1' h2' h3' h4
  exact ⟨A, n, c, rfl, i4⟩
theorem img_rep {w : World} {P : Nat → Prop} {x : Im} {A : Option Addr} {n c : Nat} (h : BV w P A n c x.pay) : Rp.img.rep w P (imgC x A n c) x :=
  ⟨[.int .i64 x.role], [txt x.name, .int .i64 x.ver, .slice A n c], rfl, rfl, [txt x.name], [.int .i64 x.ver, .slice A n c], rfl, rfl, [.int .i64 x.ver], [.slice A n c], rfl, rfl, ⟨A, n, c, rfl, h⟩⟩
instance : Inhabited Im := ⟨noIm⟩
deriving instance DecidableEq for Im
/-! plain words -/
def sameN (x y : Im) : Bool := decide (y.role = x.role) && decide (y.name = x.name)
def lessL (done : List Im) (x : Im) : Bool := match done.getLast? with | some y => decide (x.role < y.role) | none => false
def chkL : List Im → List Im → Int
  | _, [] => 0
  | done, x :: r => if imgE x ≠ 0 then imgE x else if lessL done x = true then 41 else if done.any (sameN x) = true then 42 else chkL (done ++ [x]) r
def hasK (l : List Im) (k : Int) : Bool := l.any fun x => decide (x.role = k)
def chainE (l : List Im) : Int := if ¬ (1 ≤ l.length ∧ l.length ≤ 8) then 1 else if chkL [] l ≠ 0 then chkL [] l else if hasK l 1 = true ∧ hasK l 3 = true then 0 else 40
theorem chkL_cons (done : List Im) (x : Im) (r : List Im) : chkL done (x :: r) = if imgE x ≠ 0 then imgE x else if lessL done x = true then 41 else if done.any (sameN x) = true then 42 else chkL (done ++ [x]) r := rfl
theorem chk_bad {done r : List Im} {x : Im} (h : imgE x ≠ 0) : chkL done (x :: r) = imgE x := by rw [chkL_cons, if_pos h]
theorem chk_41 {done r : List Im} {x : Im} (h : imgE x = 0) (h1 : lessL done x = true) : chkL done (x :: r) = 41 := by rw [chkL_cons, if_neg (by simp [h]), if_pos h1]
theorem chk_42 {done r : List Im} {x : Im} (h : imgE x = 0) (h1 : lessL done x = false) (h2 : done.any (sameN x) = true) : chkL done (x :: r) = 42 := by rw [chkL_cons, if_neg (by simp [h]), if_neg (by simp [h1]), if_pos h2]
theorem chk_go {done r : List Im} {x : Im} (h : imgE x = 0) (h1 : lessL done x = false) (h2 : done.any (sameN x) = false) : chkL done (x :: r) = chkL (done ++ [x]) r := by rw [chkL_cons, if_neg (by simp [h]), if_neg (by simp [h1]), if_neg (by simp [h2])]
theorem less_at {l : List Im} {i : Nat} {x y : Im} (hi : 0 < i) (hy : l[i - 1]? = some y) : lessL (l.take i) x = decide (x.role < y.role) := by
  have hlt := (List.getElem?_eq_some_iff.1 hy).1
  unfold lessL
  have e : (l.take i).getLast? = some y := by
    rw [List.getLast?_eq_getElem?, List.length_take, Nat.min_eq_left (by omega), List.getElem?_take, if_pos (by omega), hy]
  rw [e]
theorem less_0 (l : List Im) (x : Im) : lessL (l.take 0) x = false := by rw [List.take_zero]; rfl
theorem drop_im {l : List Im} {i : Nat} {x : Im} (h : l[i]? = some x) : l.drop i = x :: l.drop (i + 1) := by
  obtain ⟨hi, hx⟩ := List.getElem?_eq_some_iff.1 h
  rw [List.drop_eq_getElem_cons hi, hx]
theorem take_im {l : List Im} {i : Nat} {x : Im} (h : l[i]? = some x) : l.take i ++ [x] = l.take (i + 1) := by
  obtain ⟨hi, hx⟩ := List.getElem?_eq_some_iff.1 h
  rw [List.take_succ_eq_append_getElem hi, hx]
theorem any_take_no {l : List Im} {x : Im} {i : Nat} (h : ∀ j < i, ∀ y, l[j]? = some y → ¬ (y.role = x.role ∧ y.name = x.name)) : (l.take i).any (sameN x) = false := by
  rw [Bool.eq_false_iff]
  intro hh
  obtain ⟨y, hy, hs⟩ := List.any_eq_true.1 hh
  obtain ⟨j, hj⟩ := List.getElem?_of_mem hy
  rw [List.getElem?_take] at hj
  split at hj
  · rename_i hlt
    unfold sameN at hs
    simp only [Bool.and_eq_true, decide_eq_true_eq] at hs
    exact h j hlt y hj hs
  · cases hj
theorem any_take_yes {l : List Im} {x y : Im} {i j : Nat} (hj : j < i) (hy : l[j]? = some y) (h : y.role = x.role ∧ y.name = x.name) : (l.take i).any (sameN x) = true := by
  rw [List.any_eq_true]
  refine ⟨y, List.mem_of_getElem? (i := j) (by rw [List.getElem?_take, if_pos hj, hy]), ?_⟩
  unfold sameN
  rw [decide_eq_true h.1, decide_eq_true h.2]; rfl
theorem chainE_1 {l : List Im} (h : ¬ (1 ≤ l.length ∧ l.length ≤ 8)) : chainE l = 1 := by unfold chainE; rw [if_pos h]
theorem chainE_e {l : List Im} {e : Int} (h : 1 ≤ l.length ∧ l.length ≤ 8) (h2 : chkL [] l = e) (h3 : e ≠ 0) : chainE l = e := by unfold chainE; rw [if_neg (fun q => q h), if_pos (by rw [h2]; exact h3), h2]
theorem chainE_40 {l : List Im} (h : 1 ≤ l.length ∧ l.length ≤ 8) (h2 : chkL [] l = 0) (h3 : ¬ (hasK l 1 = true ∧ hasK l 3 = true)) : chainE l = 40 := by unfold chainE; rw [if_neg (fun q => q h), if_neg (by simp [h2]), if_neg h3]
theorem chainE_0 {l : List Im} (h : 1 ≤ l.length ∧ l.length ≤ 8) (h2 : chkL [] l = 0) (h3 : hasK l 1 = true ∧ hasK l 3 = true) : chainE l = 0 := by unfold chainE; rw [if_neg (fun q => q h), if_neg (by simp [h2]), if_pos h3]
theorem has_snoc (l : List Im) (x : Im) (k : Int) : hasK (l ++ [x]) k = (hasK l k || decide (x.role = k)) := by unfold hasK; rw [List.any_append]; simp
/-! rows of images -/
theorem IL.at_ {w : World} {P : Nat → Prop} {A : Option Addr} {n c k : Nat} {l : List Im} (h : SL Rp.img w P A n c l) (hk : k < n) :
    ∃ b off, A = some ⟨b, off, none⟩ ∧ b < w.heap.size ∧ ∃ x S m d, l[k]? = some x ∧ w.rangeAt b (off + k * 4) (imgC x S m d) ∧ BV w P S m d x.pay := by
  obtain ⟨b, off, hA, hb, _, a, cs, h1, h2, h3⟩ := h.at_ hk
  obtain ⟨S, m, d, h4, h5⟩ := img_of h3
  subst h4
  exact ⟨b, off, hA, hb, a, S, m, d, h1, h2, h5⟩
theorem range_ext {w w' : World} {b o : Nat} {cs : List Value} (h : w.rangeAt b o cs) (hb : b < w.heap.size) (hE : Ext w w') : w'.rangeAt b o cs := fun j v hj => (hE.cells.1 b _ hb).trans (h j v hj)
theorem IL.cell {w : World} {P : Nat → Prop} {b off n c k : Nat} {l : List Im} (h : SL Rp.img w P (some ⟨b, off, none⟩) n c l) (hk : k < n) :
    w.cell? ⟨b, off + k * 4 + 0, none⟩ = some (.int .i64 (l.getD k noIm).role) ∧ w.cell? ⟨b, off + k * 4 + 1, none⟩ = some (txt (l.getD k noIm).name) := by
  obtain ⟨b', off', hA, _, x, S, m, d, hz, hr, _⟩ := IL.at_ h hk
  cases hA
  have e : l.getD k noIm = x := by rw [List.getD, hz]; rfl
  rw [e]
  exact ⟨hr 0 _ rfl, hr 1 _ rfl⟩
theorem getD_im {l : List Im} {k : Nat} (h : k < l.length) : l[k]? = some (l.getD k noIm) := by
  rw [List.getD, List.getElem?_eq_getElem h]; rfl
section
variable {P : Program} {n : Nat} {e : Env} {w : World} {o : Oper} {x y z : Operand} {t el : TypeId} {A : Option Addr} {m c : Nat}
/-- 's[:h]', whatever the elements -/
theorem Gives.cutHiZ {kd : IntKind} {q : Int} (h : Nat) (ho : o.op = .slice t x none (some z) none) (ht : P.underlying t = some (.slice el)) (hsz : (P.info? el).isSome = true) (hx : ev e x = some (.slice A m c)) (hz : ev e z = some (.int kd q)) (hq : q = (h : Int)) (hh : h ≤ c) : Gives P n o e w (.slice A h c) := .run fun a ha => by
  subst hq
  cases hi : P.info? el with
  | none => simp [hi] at hsz
  | some f =>
    have hel : P.elem t = el := by simp [Program.elem, ht]
    have hat := fun (x : Value) (lo hi mx : Option Value) => run_sliceAt_slice (P := P) w t x lo hi mx (by rw [hel]; exact ht)
    have hrun := run_cut_h (P := P) w t A m c (by rw [hel]; exact ht) kd h (by omega) (by omega)
    have hs : (sizeOf (P.elem t)).run P w = .ok f.size w := by simp [sizeOf, typeInfo, hel, hi]
    unfold execOp
    simp only [ho, ha.ev hx, ha.ev hz, Option.map_some, Option.map_none, Sem.run_bind, hat, hrun, hs, Result.andThen_ok, Sem.run_pure, Int.toNat_natCast]
end
set_option maxRecDepth 20000 in
set_option maxHeartbeats 2000000 in
theorem chainR {P : Nat → Prop} (w : World) (A : Option Addr) (n c : Nat) (l : List Im) (hl : SL Rp.img w P A n c l) :
    Calls Tryd.prog 61 #[.slice A n c] w fun e w' => e = .returned (.int .i64 (chainE l)) ∧ Ext w w' := by
  have hln := hl.len
  have hle := hl.le
  refine calls_enter Tryd.func61 rfl Tryd.ntmps61 rfl ?_
  have hE : Ext w w := Ext.refl w
  refine vs fun K1 hK1 => vR [(0, _)] ?_
  refine vA ?_
  refine vn (hK1 _ _ ?_)
  refine Wc.seq (fun K2 hK2 => ?_)
  refine vs fun K3 hK3 => vR [(0, _)] ?_
  refine vM ?_
  refine vl (Gives.lenS rfl Tryd.underlying68 rfl) ?_
  refine vl (Gives.eql rfl rfl rfl) ?_
  refine vM ?_
  refine Wl.guard rfl rfl rfl (fun h11 => ?_) (fun h11 => ?_)
  · first | replace h11 := dF h11 | replace h11 := nF h11 | skip
    refine vM ?_
    refine vl (Gives.lenS rfl Tryd.underlying68 rfl) ?_
    refine vl (Gives.gtr rfl rfl rfl) ?_
    refine vU ?_
    refine vn (hK3 _ _ ?_)
    refine Wc.cond _ rfl (fun h15 => ?_) (fun h15 => ?_)
    · first | replace h15 := dT h15 | replace h15 := nT h15 | skip
      refine vs fun K4 hK4 => vR [] ?_
      refine vA ?_
      refine vn (hK4 _ _ ?_)
      refine Wc.ret ?_
      refine Wx.thenR ?_
      refine Wx.ret [_] ⟨rfl, trivial⟩ ?_
      first | exact ⟨by rw [chainE_1 (by omega)]; rfl, hE⟩ | exact ⟨by rw [chainE_e hn18 (hck.trans (chk_bad h28)) h28]; rfl, hE⟩ | exact ⟨by rw [chainE_e hn18 (hck.trans (chk_41 hxe (by rw [less_at (by omega) (getD_im (by omega))]; exact decide_eq_true h45))) (by decide)]; rfl, hE⟩ | exact ⟨by rw [chainE_e hn18 (hck.trans (chk_42 hxe hless (any_take_yes (show j < i by omega) (getD_im (by omega)) ⟨h62, h74⟩))) (by decide)]; rfl, hE⟩ | exact ⟨by rw [chainE_0 hn18 hck0 (by simp_all)]; rfl, hE⟩ | exact ⟨by rw [chainE_40 hn18 hck0 (by simp_all)]; rfl, hE⟩
    first | replace h15 := dF h15 | replace h15 := nF h15 | skip
    refine Wc.skip ?_
    refine Wx.thenN (hK2 _ _ ?_)
    refine vs fun K5 hK5 => vR [(0, _)] ?_
    refine vA ?_
    refine vA ?_
    refine vn (hK5 _ _ ?_)
    refine Wc.seq (fun K6 hK6 => ?_)
    refine vs fun K7 hK7 => vR [(0, _), (3, _), (4, _)] ?_
    refine vA ?_
    refine vn (hK7 _ _ ?_)
    refine Wc.block ?_
    refine vK [(0, _), (3, _), (4, _), (5, _)] ?_
    refine Wc.loopC (ι := Nat × Bool × Bool) [(0, _)] (fun | (i, fw, kn) => [(5, .int .i64 (i : Int)), (3, .bool fw), (4, .bool kn)]) (fun | (i, fw, kn), wr => i ≤ n ∧ chkL [] l = chkL (l.take i) (l.drop i) ∧ fw = hasK (l.take i) 1 ∧ kn = hasK (l.take i) 3 ∧ Ext w wr) (fun | (i, _) => n - i) ((0, false, false)) (.co (.co (.co (.cons rfl (.nil))))) (⟨by omega, by rw [List.take_zero, List.drop_zero], by rw [List.take_zero]; rfl, by rw [List.take_zero]; rfl, hE⟩) ?_
    intro ⟨i, fw, kn⟩ wr hJ KL1 hKL1
    clear hE
    obtain ⟨hi, hck, hfw, hkn, hE⟩ := hJ
    refine Wc.seq (fun K8 hK8 => ?_)
    refine vs fun K9 hK9 => vR [(0, _), (3, _), (4, _), (5, _)] ?_
    refine vM ?_
    refine vM ?_
    refine vl (Gives.lenS rfl Tryd.underlying68 rfl) ?_
    refine vl (Gives.lss rfl rfl rfl) ?_
    refine vn (hK9 _ _ ?_)
    refine Wc.cond _ rfl (fun h19 => ?_) (fun h19 => ?_)
    · first | replace h19 := dT h19 | replace h19 := nT h19 | skip
      refine Wc.skip ?_
      refine Wx.thenN (hK8 _ _ ?_)
      refine Wc.seq (fun K10 hK10 => ?_)
      refine Wc.block ?_
      refine Wc.seq (fun K11 hK11 => ?_)
      refine vs fun K12 hK12 => vK [(0, _), (3, _), (4, _), (5, _)] ?_
      obtain ⟨xb, xo, rfl, hbw, x, S, m, d, hz, hr0, hp⟩ := IL.at_ hl (show i < n by omega)
      have hr := range_ext hr0 hbw hE
      obtain rfl : l.getD i noIm = x := by rw [List.getD, hz]; rfl
      rw [drop_im hz] at hck
      have hn18 : 1 ≤ l.length ∧ l.length ≤ 8 := by omega
      refine Wc.region ?_
      refine vM ?_
      refine vM ?_
      refine vl (Gives.ixSZ (i := _) (sz := 4) rfl Tryd.underlying68 (by kernel_rfl) rfl rfl rfl (by omega)) ?_
      refine vl (Gives.ldM rfl (by kernel_rfl) rfl hr (by kernel_rfl)) ?_
      refine Wl.call rfl rfl rfl rfl Tryd.func83 rfl (by kernel_rfl) rfl (checkR0 _ (l.getD i noIm).role (l.getD i noIm).ver (l.getD i noIm).name S m d (l.getD i noIm).pay (hp.ext hE)) ?_
      rintro x1 w71 ⟨rfl, hx71⟩
      refine ⟨_, rfl, ?_⟩
      replace hE := hE.trans hx71
      refine vA ?_
      refine vn (hK12 _ _ ?_)
      refine vs fun K13 hK13 => vR [(0, _), (3, _), (4, _), (5, _), (6, _)] ?_
      refine vM ?_
      refine vl (Gives.neq rfl rfl rfl) ?_
      refine vn (hK13 _ _ ?_)
      refine Wc.cond _ rfl (fun h28 => ?_) (fun h28 => ?_)
      · first | replace h28 := dT h28 | replace h28 := nT h28 | skip
        refine vs fun K14 hK14 => vR [(6, _)] ?_
        refine vM ?_
        refine vA ?_
        refine vn (hK14 _ _ ?_)
        refine Wc.ret ?_
        refine Wx.thenR ?_
        refine Wx.blockR ?_
        refine Wx.thenR ?_
        refine Wx.thenR ?_
        refine Wx.blockR ?_
        refine Wx.thenR ?_
        refine Wx.ret [_] ⟨rfl, trivial⟩ ?_
        first | exact ⟨by rw [chainE_1 (by omega)]; rfl, hE⟩ | exact ⟨by rw [chainE_e hn18 (hck.trans (chk_bad h28)) h28]; rfl, hE⟩ | exact ⟨by rw [chainE_e hn18 (hck.trans (chk_41 hxe (by rw [less_at (by omega) (getD_im (by omega))]; exact decide_eq_true h45))) (by decide)]; rfl, hE⟩ | exact ⟨by rw [chainE_e hn18 (hck.trans (chk_42 hxe hless (any_take_yes (show j < i by omega) (getD_im (by omega)) ⟨h62, h74⟩))) (by decide)]; rfl, hE⟩ | exact ⟨by rw [chainE_0 hn18 hck0 (by simp_all)]; rfl, hE⟩ | exact ⟨by rw [chainE_40 hn18 hck0 (by simp_all)]; rfl, hE⟩
      first | replace h28 := dF h28 | replace h28 := nF h28 | skip
      refine Wc.skip ?_
      refine Wx.thenN (hK11 _ _ ?_)
      refine Wc.seq (fun K15 hK15 => ?_)
      refine vs fun K16 hK16 => vK [(0, _), (3, _), (4, _), (5, _)] ?_
      have hxe : imgE (l.getD i noIm) = 0 := h28
      refine Wc.regionD (fun _ => true) Eq (.read 0 (.read 1 (.read 2 (.read 3 (.read 4 (.read 5 (.read 6 (.read 7 (.read 8 (.read 9 (.read 10 (.read 11 (.read 12 (.read 13 .tail)))))))))))))) 14 (by kernel_rfl) (by kernel_rfl) (by kernel_rfl) (fun _ => rfl) (fun _ _ _ h k => h.trans k) Quiet ⟨1, rfl⟩ ?_
      intro w10 hR10
      replace hE := hE.trans hR10.ext
      have hlq := hl.ext hE
      refine rE rfl (Gives.move rfl rfl) ?_
      refine rE rfl (Gives.gtr rfl rfl rfl) ?_
      refine rE rfl (Gives.move rfl rfl) ?_
      refine RunE.split (t := 32) rfl (fun h32 => ?_) (fun h32 => ?_)
      · first | replace h32 := dT h32 | replace h32 := nT h32 | skip
        refine rE rfl (Gives.move rfl rfl) ?_
        refine rE rfl (Gives.move rfl rfl) ?_
        refine rE rfl (Gives.ixSZ (i := _) (sz := 4) rfl Tryd.underlying68 (by kernel_rfl) rfl rfl rfl (by omega)) ?_
        refine rE rfl (Gives.fieldAt 0 rfl Tryd.underlying84 rfl (by kernel_rfl) rfl rfl) ?_
        refine rE rfl (Gives.ldC rfl (by kernel_rfl) rfl ((IL.cell hlq (k := i) (by omega)).1)) ?_
        refine rE rfl (Gives.move rfl rfl) ?_
        refine rE rfl (Gives.move rfl rfl) ?_
        refine rE rfl (gSub rfl rfl rfl) ?_
        refine rE rfl (Gives.ixSZ (i := i - 1) (sz := 4) rfl Tryd.underlying68 (by kernel_rfl) rfl rfl (by omega) (by omega)) ?_
        refine rE rfl (Gives.fieldAt 0 rfl Tryd.underlying84 rfl (by kernel_rfl) rfl rfl) ?_
        refine rE rfl (Gives.ldC rfl (by kernel_rfl) rfl ((IL.cell hlq (k := i - 1) (by omega)).1)) ?_
        refine RunE.tail rfl ?_
        refine vl (Gives.lss rfl rfl rfl) ?_
        refine vT ?_
        refine vn (hK16 _ _ ?_)
        refine Wc.cond _ rfl (fun h45 => ?_) (fun h45 => ?_)
        · first | replace h45 := dT h45 | replace h45 := nT h45 | skip
          refine vs fun K17 hK17 => vR [] ?_
          refine vA ?_
          refine vn (hK17 _ _ ?_)
          refine Wc.ret ?_
          refine Wx.thenR ?_
          refine Wx.blockR ?_
          refine Wx.thenR ?_
          refine Wx.thenR ?_
          refine Wx.blockR ?_
          refine Wx.thenR ?_
          refine Wx.ret [_] ⟨rfl, trivial⟩ ?_
          first | exact ⟨by rw [chainE_1 (by omega)]; rfl, hE⟩ | exact ⟨by rw [chainE_e hn18 (hck.trans (chk_bad h28)) h28]; rfl, hE⟩ | exact ⟨by rw [chainE_e hn18 (hck.trans (chk_41 hxe (by rw [less_at (by omega) (getD_im (by omega))]; exact decide_eq_true h45))) (by decide)]; rfl, hE⟩ | exact ⟨by rw [chainE_e hn18 (hck.trans (chk_42 hxe hless (any_take_yes (show j < i by omega) (getD_im (by omega)) ⟨h62, h74⟩))) (by decide)]; rfl, hE⟩ | exact ⟨by rw [chainE_0 hn18 hck0 (by simp_all)]; rfl, hE⟩ | exact ⟨by rw [chainE_40 hn18 hck0 (by simp_all)]; rfl, hE⟩
        first | replace h45 := dF h45 | replace h45 := nF h45 | skip
        refine Wc.skip ?_
        refine Wx.thenN (hK15 _ _ ?_)
        refine Wc.seq (fun K18 hK18 => ?_)
        refine vs fun K19 hK19 => vK [(0, _), (3, _), (4, _), (5, _)] ?_
        have hless : lessL (l.take i) (l.getD i noIm) = false := by
          rcases Nat.eq_zero_or_pos i with h0 | h0
          · subst h0; exact less_0 l _
          · rw [less_at h0 (getD_im (by omega))]
            exact decide_eq_false (by first | omega | exact h45 | (exfalso; omega))
        refine Wc.region ?_
        refine vA ?_
        refine vn (hK19 _ _ ?_)
        refine Wc.block ?_
        refine vK [(0, _), (3, _), (4, _), (5, _), (7, _)] ?_
        refine Wc.loopC (ι := Nat) [(0, _), (3, _), (4, _), (5, _)] (fun j => [(7, .int .i64 (j : Int))]) (fun j wr => j ≤ i ∧ (∀ k < j, ∀ y, l[k]? = some y → ¬ (y.role = (l.getD i noIm).role ∧ y.name = (l.getD i noIm).name)) ∧ Ext w wr) (fun j => i - j) (0) (.co (.cons rfl (.cons rfl (.cons rfl (.cons rfl (.nil)))))) (⟨by omega, fun k hk => absurd hk (by omega), hE⟩) ?_
        intro j wj hJ KL2 hKL2
        clear hE
        obtain ⟨hj, hno, hE⟩ := hJ
        refine Wc.seq (fun K20 hK20 => ?_)
        refine vs fun K21 hK21 => vR [(0, _), (3, _), (4, _), (5, _), (7, _)] ?_
        refine vM ?_
        refine vM ?_
        refine vl (Gives.lss rfl rfl rfl) ?_
        refine vn (hK21 _ _ ?_)
        refine Wc.cond _ rfl (fun h48 => ?_) (fun h48 => ?_)
        · first | replace h48 := dT h48 | replace h48 := nT h48 | skip
          refine Wc.skip ?_
          refine Wx.thenN (hK20 _ _ ?_)
          refine Wc.seq (fun K22 hK22 => ?_)
          refine Wc.block ?_
          refine vs fun K23 hK23 => vK [(0, _), (3, _), (4, _), (5, _), (7, _)] ?_
          refine Wc.regionD (fun _ => true) Eq (.read 0 (.read 1 (.read 2 (.read 3 (.read 4 (.read 5 (.read 6 (.read 7 (.read 8 (.read 9 (.read 10 (.read 11 (.read 12 (.read 13 (.read 14 (.read 15 (.read 16 (.read 17 (.read 18 (.read 19 (.read 20 (.read 21 .tail)))))))))))))))))))))) 22 (by kernel_rfl) (by kernel_rfl) (by kernel_rfl) (fun _ => rfl) (fun _ _ _ h k => h.trans k) Quiet ⟨1, rfl⟩ ?_
          intro w15 hR15
          replace hE := hE.trans hR15.ext
          have hlr := hl.ext hE
          refine rE rfl (Gives.move rfl rfl) ?_
          refine rE rfl (Gives.move rfl rfl) ?_
          refine rE rfl (Gives.ixSZ (i := _) (sz := 4) rfl Tryd.underlying68 (by kernel_rfl) rfl rfl rfl (by omega)) ?_
          refine rE rfl (Gives.fieldAt 0 rfl Tryd.underlying84 rfl (by kernel_rfl) rfl rfl) ?_
          refine rE rfl (Gives.ldC rfl (by kernel_rfl) rfl ((IL.cell hlr (k := j) (by omega)).1)) ?_
          refine rE rfl (Gives.move rfl rfl) ?_
          refine rE rfl (Gives.move rfl rfl) ?_
          refine rE rfl (Gives.ixSZ (i := _) (sz := 4) rfl Tryd.underlying68 (by kernel_rfl) rfl rfl rfl (by omega)) ?_
          refine rE rfl (Gives.fieldAt 0 rfl Tryd.underlying84 rfl (by kernel_rfl) rfl rfl) ?_
          refine rE rfl (Gives.ldC rfl (by kernel_rfl) rfl ((IL.cell hlr (k := i) (by omega)).1)) ?_
          refine rE rfl (Gives.eql rfl rfl rfl) ?_
          refine rE rfl (Gives.move rfl rfl) ?_
          refine RunE.split (t := 62) rfl (fun h62 => ?_) (fun h62 => ?_)
          · first | replace h62 := dT h62 | replace h62 := nT h62 | skip
            refine rE rfl (Gives.move rfl rfl) ?_
            refine rE rfl (Gives.move rfl rfl) ?_
            refine rE rfl (Gives.ixSZ (i := _) (sz := 4) rfl Tryd.underlying68 (by kernel_rfl) rfl rfl rfl (by omega)) ?_
            refine rE rfl (Gives.fieldAt 1 rfl Tryd.underlying84 rfl (by kernel_rfl) rfl rfl) ?_
            refine rE rfl (Gives.ldC rfl (by kernel_rfl) rfl ((IL.cell hlr (k := j) (by omega)).2)) ?_
            refine rE rfl (Gives.move rfl rfl) ?_
            refine rE rfl (Gives.move rfl rfl) ?_
            refine rE rfl (Gives.ixSZ (i := _) (sz := 4) rfl Tryd.underlying68 (by kernel_rfl) rfl rfl rfl (by omega)) ?_
            refine rE rfl (Gives.fieldAt 1 rfl Tryd.underlying84 rfl (by kernel_rfl) rfl rfl) ?_
            refine rE rfl (Gives.ldC rfl (by kernel_rfl) rfl ((IL.cell hlr (k := i) (by omega)).2)) ?_
            refine RunE.tail rfl ?_
            refine vl (Gives.txtEql rfl rfl rfl) ?_
            refine vT ?_
            refine vn (hK23 _ _ ?_)
            refine Wc.cond _ rfl (fun h74 => ?_) (fun h74 => ?_)
            · first | replace h74 := dT h74 | replace h74 := nT h74 | skip
              refine vs fun K24 hK24 => vR [] ?_
              refine vA ?_
              refine vn (hK24 _ _ ?_)
              refine Wc.ret ?_
              refine Wx.blockR ?_
              refine Wx.thenR ?_
              refine Wx.thenR ?_
              refine Wx.blockR ?_
              refine Wx.thenR ?_
              refine Wx.blockR ?_
              refine Wx.thenR ?_
              refine Wx.thenR ?_
              refine Wx.blockR ?_
              refine Wx.thenR ?_
              refine Wx.ret [_] ⟨rfl, trivial⟩ ?_
              first | exact ⟨by rw [chainE_1 (by omega)]; rfl, hE⟩ | exact ⟨by rw [chainE_e hn18 (hck.trans (chk_bad h28)) h28]; rfl, hE⟩ | exact ⟨by rw [chainE_e hn18 (hck.trans (chk_41 hxe (by rw [less_at (by omega) (getD_im (by omega))]; exact decide_eq_true h45))) (by decide)]; rfl, hE⟩ | exact ⟨by rw [chainE_e hn18 (hck.trans (chk_42 hxe hless (any_take_yes (show j < i by omega) (getD_im (by omega)) ⟨h62, h74⟩))) (by decide)]; rfl, hE⟩ | exact ⟨by rw [chainE_0 hn18 hck0 (by simp_all)]; rfl, hE⟩ | exact ⟨by rw [chainE_40 hn18 hck0 (by simp_all)]; rfl, hE⟩
            first | replace h74 := dF h74 | replace h74 := nF h74 | skip
            refine Wc.skip ?_
            refine Wx.blockN ?_
            refine Wx.thenN (hK22 _ _ ?_)
            refine vR [(0, _), (3, _), (4, _), (5, _), (7, _)] ?_
            refine vM ?_
            refine vAdd ?_
            refine vA ?_
            refine Wl.nil ?_
            refine Wx.thenN ?_
            refine hKL2 (j + 1) _ _ (.co (.cons rfl (.cons rfl (.cons rfl (.cons rfl (.nil)))))) ⟨by omega, fun k hk y' hy' => ?_, hE⟩ (by show i - (j + 1) < i - j; omega)
            rcases Nat.lt_or_ge k j with hkj | hkj
            · exact hno k hkj y' hy'
            · obtain rfl : k = j := by omega
              rw [getD_im (by omega)] at hy'
              cases hy'
              intro hh
              first | exact h74 hh.2 | exact h62 hh.1
          first | replace h62 := dF h62 | replace h62 := nF h62 | skip
          refine RunE.pass rfl rfl rfl rfl ?_
          refine RunE.pass rfl rfl rfl rfl ?_
          refine RunE.pass rfl rfl rfl rfl ?_
          refine RunE.pass rfl rfl rfl rfl ?_
          refine RunE.pass rfl rfl rfl rfl ?_
          refine RunE.pass rfl rfl rfl rfl ?_
          refine RunE.pass rfl rfl rfl rfl ?_
          refine RunE.pass rfl rfl rfl rfl ?_
          refine RunE.pass rfl rfl rfl rfl ?_
          refine RunE.pass rfl rfl rfl rfl ?_
          refine RunE.tail rfl ?_
          refine vP ?_
          refine vU ?_
          refine vn (hK23 _ _ ?_)
          refine Wc.condF rfl rfl ?_
          refine Wc.skip ?_
          refine Wx.blockN ?_
          refine Wx.thenN (hK22 _ _ ?_)
          refine vR [(0, _), (3, _), (4, _), (5, _), (7, _)] ?_
          refine vM ?_
          refine vAdd ?_
          refine vA ?_
          refine Wl.nil ?_
          refine Wx.thenN ?_
          refine hKL2 (j + 1) _ _ (.co (.cons rfl (.cons rfl (.cons rfl (.cons rfl (.nil)))))) ⟨by omega, fun k hk y' hy' => ?_, hE⟩ (by show i - (j + 1) < i - j; omega)
          rcases Nat.lt_or_ge k j with hkj | hkj
          · exact hno k hkj y' hy'
          · obtain rfl : k = j := by omega
            rw [getD_im (by omega)] at hy'
            cases hy'
            intro hh
            first | exact h74 hh.2 | exact h62 hh.1
        first | replace h48 := dF h48 | replace h48 := nF h48 | skip
        refine Wc.exit ?_
        refine Wx.thenE ?_
        refine Wx.thenE ?_
        refine Wx.hit ?_
        refine Wx.thenN (hK18 _ _ ?_)
        refine vs fun K25 hK25 => vK [(0, _), (3, _), (4, _), (5, _)] ?_
        have hany : (l.take i).any (sameN (l.getD i noIm)) = false := any_take_no (fun k hk => hno k (by omega))
        rw [chk_go hxe hless hany, take_im hz] at hck
        have hlv := hl.ext hE
        refine Wc.region ?_
        refine vM ?_
        refine vM ?_
        refine Wl.guard rfl rfl rfl (fun h76 => ?_) (fun h76 => ?_)
        · first | replace h76 := dF h76 | replace h76 := nF h76 | skip
          refine vM ?_
          refine vM ?_
          refine vl (Gives.ixSZ (i := _) (sz := 4) rfl Tryd.underlying68 (by kernel_rfl) rfl rfl rfl (by omega)) ?_
          refine vF 0 Tryd.underlying84 ?_
          refine vl (Gives.ldC rfl (by kernel_rfl) rfl ((IL.cell hlv (k := i) (by omega)).1)) ?_
          refine vl (Gives.eql rfl rfl rfl) ?_
          refine vU ?_
          refine vA ?_
          refine vn (hK25 _ _ ?_)
          refine vR [(0, _), (3, _), (4, _), (5, _)] ?_
          refine vM ?_
          refine vM ?_
          refine Wl.guard rfl rfl rfl (fun h85 => ?_) (fun h85 => ?_)
          · first | replace h85 := dF h85 | replace h85 := nF h85 | skip
            refine vM ?_
            refine vM ?_
            refine vl (Gives.ixSZ (i := _) (sz := 4) rfl Tryd.underlying68 (by kernel_rfl) rfl rfl rfl (by omega)) ?_
            refine vF 0 Tryd.underlying84 ?_
            refine vl (Gives.ldC rfl (by kernel_rfl) rfl ((IL.cell hlv (k := i) (by omega)).1)) ?_
            refine vl (Gives.eql rfl rfl rfl) ?_
            refine vU ?_
            refine vA ?_
            refine Wl.nil ?_
            refine Wx.blockN ?_
            refine Wx.thenN (hK10 _ _ ?_)
            refine vR [(0, _), (3, _), (4, _), (5, _)] ?_
            refine vM ?_
            refine vAdd ?_
            refine vA ?_
            refine Wl.nil ?_
            refine Wx.thenN ?_
            refine hKL1 (i + 1, _, _) _ _ (.co (.co (.co (.cons rfl (.nil))))) ⟨by omega, hck, ?_, ?_, hE⟩ (by show n - (i + 1) < n - i; omega)
            · rw [← take_im hz, has_snoc]; simp_all
            · rw [← take_im hz, has_snoc]; simp_all
          first | replace h85 := dT h85 | replace h85 := nT h85 | skip
          refine vP ?_
          refine vP ?_
          refine vP ?_
          refine vP ?_
          refine vP ?_
          refine vP ?_
          refine vT ?_
          refine vA ?_
          refine Wl.nil ?_
          refine Wx.blockN ?_
          refine Wx.thenN (hK10 _ _ ?_)
          refine vR [(0, _), (3, _), (4, _), (5, _)] ?_
          refine vM ?_
          refine vAdd ?_
          refine vA ?_
          refine Wl.nil ?_
          refine Wx.thenN ?_
          refine hKL1 (i + 1, _, _) _ _ (.co (.co (.co (.cons rfl (.nil))))) ⟨by omega, hck, ?_, ?_, hE⟩ (by show n - (i + 1) < n - i; omega)
          · rw [← take_im hz, has_snoc]; simp_all
          · rw [← take_im hz, has_snoc]; simp_all
        first | replace h76 := dT h76 | replace h76 := nT h76 | skip
        refine vP ?_
        refine vP ?_
        refine vP ?_
        refine vP ?_
        refine vP ?_
        refine vP ?_
        refine vT ?_
        refine vA ?_
        refine vn (hK25 _ _ ?_)
        refine vR [(0, _), (3, _), (4, _), (5, _)] ?_
        refine vM ?_
        refine vM ?_
        refine Wl.guard rfl rfl rfl (fun h85 => ?_) (fun h85 => ?_)
        · first | replace h85 := dF h85 | replace h85 := nF h85 | skip
          refine vM ?_
          refine vM ?_
          refine vl (Gives.ixSZ (i := _) (sz := 4) rfl Tryd.underlying68 (by kernel_rfl) rfl rfl rfl (by omega)) ?_
          refine vF 0 Tryd.underlying84 ?_
          refine vl (Gives.ldC rfl (by kernel_rfl) rfl ((IL.cell hlv (k := i) (by omega)).1)) ?_
          refine vl (Gives.eql rfl rfl rfl) ?_
          refine vU ?_
          refine vA ?_
          refine Wl.nil ?_
          refine Wx.blockN ?_
          refine Wx.thenN (hK10 _ _ ?_)
          refine vR [(0, _), (3, _), (4, _), (5, _)] ?_
          refine vM ?_
          refine vAdd ?_
          refine vA ?_
          refine Wl.nil ?_
          refine Wx.thenN ?_
          refine hKL1 (i + 1, _, _) _ _ (.co (.co (.co (.cons rfl (.nil))))) ⟨by omega, hck, ?_, ?_, hE⟩ (by show n - (i + 1) < n - i; omega)
          · rw [← take_im hz, has_snoc]; simp_all
          · rw [← take_im hz, has_snoc]; simp_all
        first | replace h85 := dT h85 | replace h85 := nT h85 | skip
        refine vP ?_
        refine vP ?_
        refine vP ?_
        refine vP ?_
        refine vP ?_
        refine vP ?_
        refine vT ?_
        refine vA ?_
        refine Wl.nil ?_
        refine Wx.blockN ?_
        refine Wx.thenN (hK10 _ _ ?_)
        refine vR [(0, _), (3, _), (4, _), (5, _)] ?_
        refine vM ?_
        refine vAdd ?_
        refine vA ?_
        refine Wl.nil ?_
        refine Wx.thenN ?_
        refine hKL1 (i + 1, _, _) _ _ (.co (.co (.co (.cons rfl (.nil))))) ⟨by omega, hck, ?_, ?_, hE⟩ (by show n - (i + 1) < n - i; omega)
        · rw [← take_im hz, has_snoc]; simp_all
        · rw [← take_im hz, has_snoc]; simp_all
      first | replace h32 := dF h32 | replace h32 := nF h32 | skip
      refine RunE.pass rfl rfl rfl rfl ?_
      refine RunE.pass rfl rfl rfl rfl ?_
      refine RunE.pass rfl rfl rfl rfl ?_
      refine RunE.pass rfl rfl rfl rfl ?_
      refine RunE.pass rfl rfl rfl rfl ?_
      refine RunE.pass rfl rfl rfl rfl ?_
      refine RunE.pass rfl rfl rfl rfl ?_
      refine RunE.pass rfl rfl rfl rfl ?_
      refine RunE.pass rfl rfl rfl rfl ?_
      refine RunE.pass rfl rfl rfl rfl ?_
      refine RunE.pass rfl rfl rfl rfl ?_
      refine RunE.tail rfl ?_
      refine vP ?_
      refine vU ?_
      refine vn (hK16 _ _ ?_)
      refine Wc.condF rfl rfl ?_
      refine Wc.skip ?_
      refine Wx.thenN (hK15 _ _ ?_)
      refine Wc.seq (fun K26 hK26 => ?_)
      refine vs fun K27 hK27 => vK [(0, _), (3, _), (4, _), (5, _)] ?_
      have hless : lessL (l.take i) (l.getD i noIm) = false := by
        rcases Nat.eq_zero_or_pos i with h0 | h0
        · subst h0; exact less_0 l _
        · rw [less_at h0 (getD_im (by omega))]
          exact decide_eq_false (by first | omega | exact h45 | (exfalso; omega))
      refine Wc.region ?_
      refine vA ?_
      refine vn (hK27 _ _ ?_)
      refine Wc.block ?_
      refine vK [(0, _), (3, _), (4, _), (5, _), (7, _)] ?_
      refine Wc.loopC (ι := Nat) [(0, _), (3, _), (4, _), (5, _)] (fun j => [(7, .int .i64 (j : Int))]) (fun j wr => j ≤ i ∧ (∀ k < j, ∀ y, l[k]? = some y → ¬ (y.role = (l.getD i noIm).role ∧ y.name = (l.getD i noIm).name)) ∧ Ext w wr) (fun j => i - j) (0) (.co (.cons rfl (.cons rfl (.cons rfl (.cons rfl (.nil)))))) (⟨by omega, fun k hk => absurd hk (by omega), hE⟩) ?_
      intro j wj hJ KL2 hKL2
      clear hE
      obtain ⟨hj, hno, hE⟩ := hJ
      refine Wc.seq (fun K28 hK28 => ?_)
      refine vs fun K29 hK29 => vR [(0, _), (3, _), (4, _), (5, _), (7, _)] ?_
      refine vM ?_
      refine vM ?_
      refine vl (Gives.lss rfl rfl rfl) ?_
      refine vn (hK29 _ _ ?_)
      refine Wc.cond _ rfl (fun h48 => ?_) (fun h48 => ?_)
      · first | replace h48 := dT h48 | replace h48 := nT h48 | skip
        refine Wc.skip ?_
        refine Wx.thenN (hK28 _ _ ?_)
        refine Wc.seq (fun K30 hK30 => ?_)
        refine Wc.block ?_
        refine vs fun K31 hK31 => vK [(0, _), (3, _), (4, _), (5, _), (7, _)] ?_
        refine Wc.regionD (fun _ => true) Eq (.read 0 (.read 1 (.read 2 (.read 3 (.read 4 (.read 5 (.read 6 (.read 7 (.read 8 (.read 9 (.read 10 (.read 11 (.read 12 (.read 13 (.read 14 (.read 15 (.read 16 (.read 17 (.read 18 (.read 19 (.read 20 (.read 21 .tail)))))))))))))))))))))) 22 (by kernel_rfl) (by kernel_rfl) (by kernel_rfl) (fun _ => rfl) (fun _ _ _ h k => h.trans k) Quiet ⟨1, rfl⟩ ?_
        intro w15 hR15
        replace hE := hE.trans hR15.ext
        have hlr := hl.ext hE
        refine rE rfl (Gives.move rfl rfl) ?_
        refine rE rfl (Gives.move rfl rfl) ?_
        refine rE rfl (Gives.ixSZ (i := _) (sz := 4) rfl Tryd.underlying68 (by kernel_rfl) rfl rfl rfl (by omega)) ?_
        refine rE rfl (Gives.fieldAt 0 rfl Tryd.underlying84 rfl (by kernel_rfl) rfl rfl) ?_
        refine rE rfl (Gives.ldC rfl (by kernel_rfl) rfl ((IL.cell hlr (k := j) (by omega)).1)) ?_
        refine rE rfl (Gives.move rfl rfl) ?_
        refine rE rfl (Gives.move rfl rfl) ?_
        refine rE rfl (Gives.ixSZ (i := _) (sz := 4) rfl Tryd.underlying68 (by kernel_rfl) rfl rfl rfl (by omega)) ?_
        refine rE rfl (Gives.fieldAt 0 rfl Tryd.underlying84 rfl (by kernel_rfl) rfl rfl) ?_
        refine rE rfl (Gives.ldC rfl (by kernel_rfl) rfl ((IL.cell hlr (k := i) (by omega)).1)) ?_
        refine rE rfl (Gives.eql rfl rfl rfl) ?_
        refine rE rfl (Gives.move rfl rfl) ?_
        refine RunE.split (t := 62) rfl (fun h62 => ?_) (fun h62 => ?_)
        · first | replace h62 := dT h62 | replace h62 := nT h62 | skip
          refine rE rfl (Gives.move rfl rfl) ?_
          refine rE rfl (Gives.move rfl rfl) ?_
          refine rE rfl (Gives.ixSZ (i := _) (sz := 4) rfl Tryd.underlying68 (by kernel_rfl) rfl rfl rfl (by omega)) ?_
          refine rE rfl (Gives.fieldAt 1 rfl Tryd.underlying84 rfl (by kernel_rfl) rfl rfl) ?_
          refine rE rfl (Gives.ldC rfl (by kernel_rfl) rfl ((IL.cell hlr (k := j) (by omega)).2)) ?_
          refine rE rfl (Gives.move rfl rfl) ?_
          refine rE rfl (Gives.move rfl rfl) ?_
          refine rE rfl (Gives.ixSZ (i := _) (sz := 4) rfl Tryd.underlying68 (by kernel_rfl) rfl rfl rfl (by omega)) ?_
          refine rE rfl (Gives.fieldAt 1 rfl Tryd.underlying84 rfl (by kernel_rfl) rfl rfl) ?_
          refine rE rfl (Gives.ldC rfl (by kernel_rfl) rfl ((IL.cell hlr (k := i) (by omega)).2)) ?_
          refine RunE.tail rfl ?_
          refine vl (Gives.txtEql rfl rfl rfl) ?_
          refine vT ?_
          refine vn (hK31 _ _ ?_)
          refine Wc.cond _ rfl (fun h74 => ?_) (fun h74 => ?_)
          · first | replace h74 := dT h74 | replace h74 := nT h74 | skip
            refine vs fun K32 hK32 => vR [] ?_
            refine vA ?_
            refine vn (hK32 _ _ ?_)
            refine Wc.ret ?_
            refine Wx.blockR ?_
            refine Wx.thenR ?_
            refine Wx.thenR ?_
            refine Wx.blockR ?_
            refine Wx.thenR ?_
            refine Wx.blockR ?_
            refine Wx.thenR ?_
            refine Wx.thenR ?_
            refine Wx.blockR ?_
            refine Wx.thenR ?_
            refine Wx.ret [_] ⟨rfl, trivial⟩ ?_
            first | exact ⟨by rw [chainE_1 (by omega)]; rfl, hE⟩ | exact ⟨by rw [chainE_e hn18 (hck.trans (chk_bad h28)) h28]; rfl, hE⟩ | exact ⟨by rw [chainE_e hn18 (hck.trans (chk_41 hxe (by rw [less_at (by omega) (getD_im (by omega))]; exact decide_eq_true h45))) (by decide)]; rfl, hE⟩ | exact ⟨by rw [chainE_e hn18 (hck.trans (chk_42 hxe hless (any_take_yes (show j < i by omega) (getD_im (by omega)) ⟨h62, h74⟩))) (by decide)]; rfl, hE⟩ | exact ⟨by rw [chainE_0 hn18 hck0 (by simp_all)]; rfl, hE⟩ | exact ⟨by rw [chainE_40 hn18 hck0 (by simp_all)]; rfl, hE⟩
          first | replace h74 := dF h74 | replace h74 := nF h74 | skip
          refine Wc.skip ?_
          refine Wx.blockN ?_
          refine Wx.thenN (hK30 _ _ ?_)
          refine vR [(0, _), (3, _), (4, _), (5, _), (7, _)] ?_
          refine vM ?_
          refine vAdd ?_
          refine vA ?_
          refine Wl.nil ?_
          refine Wx.thenN ?_
          refine hKL2 (j + 1) _ _ (.co (.cons rfl (.cons rfl (.cons rfl (.cons rfl (.nil)))))) ⟨by omega, fun k hk y' hy' => ?_, hE⟩ (by show i - (j + 1) < i - j; omega)
          rcases Nat.lt_or_ge k j with hkj | hkj
          · exact hno k hkj y' hy'
          · obtain rfl : k = j := by omega
            rw [getD_im (by omega)] at hy'
            cases hy'
            intro hh
            first | exact h74 hh.2 | exact h62 hh.1
        first | replace h62 := dF h62 | replace h62 := nF h62 | skip
        refine RunE.pass rfl rfl rfl rfl ?_
        refine RunE.pass rfl rfl rfl rfl ?_
        refine RunE.pass rfl rfl rfl rfl ?_
        refine RunE.pass rfl rfl rfl rfl ?_
        refine RunE.pass rfl rfl rfl rfl ?_
        refine RunE.pass rfl rfl rfl rfl ?_
        refine RunE.pass rfl rfl rfl rfl ?_
        refine RunE.pass rfl rfl rfl rfl ?_
        refine RunE.pass rfl rfl rfl rfl ?_
        refine RunE.pass rfl rfl rfl rfl ?_
        refine RunE.tail rfl ?_
        refine vP ?_
        refine vU ?_
        refine vn (hK31 _ _ ?_)
        refine Wc.condF rfl rfl ?_
        refine Wc.skip ?_
        refine Wx.blockN ?_
        refine Wx.thenN (hK30 _ _ ?_)
        refine vR [(0, _), (3, _), (4, _), (5, _), (7, _)] ?_
        refine vM ?_
        refine vAdd ?_
        refine vA ?_
        refine Wl.nil ?_
        refine Wx.thenN ?_
        refine hKL2 (j + 1) _ _ (.co (.cons rfl (.cons rfl (.cons rfl (.cons rfl (.nil)))))) ⟨by omega, fun k hk y' hy' => ?_, hE⟩ (by show i - (j + 1) < i - j; omega)
        rcases Nat.lt_or_ge k j with hkj | hkj
        · exact hno k hkj y' hy'
        · obtain rfl : k = j := by omega
          rw [getD_im (by omega)] at hy'
          cases hy'
          intro hh
          first | exact h74 hh.2 | exact h62 hh.1
      first | replace h48 := dF h48 | replace h48 := nF h48 | skip
      refine Wc.exit ?_
      refine Wx.thenE ?_
      refine Wx.thenE ?_
      refine Wx.hit ?_
      refine Wx.thenN (hK26 _ _ ?_)
      refine vs fun K33 hK33 => vK [(0, _), (3, _), (4, _), (5, _)] ?_
      have hany : (l.take i).any (sameN (l.getD i noIm)) = false := any_take_no (fun k hk => hno k (by omega))
      rw [chk_go hxe hless hany, take_im hz] at hck
      have hlv := hl.ext hE
      refine Wc.region ?_
      refine vM ?_
      refine vM ?_
      refine Wl.guard rfl rfl rfl (fun h76 => ?_) (fun h76 => ?_)
      · first | replace h76 := dF h76 | replace h76 := nF h76 | skip
        refine vM ?_
        refine vM ?_
        refine vl (Gives.ixSZ (i := _) (sz := 4) rfl Tryd.underlying68 (by kernel_rfl) rfl rfl rfl (by omega)) ?_
        refine vF 0 Tryd.underlying84 ?_
        refine vl (Gives.ldC rfl (by kernel_rfl) rfl ((IL.cell hlv (k := i) (by omega)).1)) ?_
        refine vl (Gives.eql rfl rfl rfl) ?_
        refine vU ?_
        refine vA ?_
        refine vn (hK33 _ _ ?_)
        refine vR [(0, _), (3, _), (4, _), (5, _)] ?_
        refine vM ?_
        refine vM ?_
        refine Wl.guard rfl rfl rfl (fun h85 => ?_) (fun h85 => ?_)
        · first | replace h85 := dF h85 | replace h85 := nF h85 | skip
          refine vM ?_
          refine vM ?_
          refine vl (Gives.ixSZ (i := _) (sz := 4) rfl Tryd.underlying68 (by kernel_rfl) rfl rfl rfl (by omega)) ?_
          refine vF 0 Tryd.underlying84 ?_
          refine vl (Gives.ldC rfl (by kernel_rfl) rfl ((IL.cell hlv (k := i) (by omega)).1)) ?_
          refine vl (Gives.eql rfl rfl rfl) ?_
          refine vU ?_
          refine vA ?_
          refine Wl.nil ?_
          refine Wx.blockN ?_
          refine Wx.thenN (hK10 _ _ ?_)
          refine vR [(0, _), (3, _), (4, _), (5, _)] ?_
          refine vM ?_
          refine vAdd ?_
          refine vA ?_
          refine Wl.nil ?_
          refine Wx.thenN ?_
          refine hKL1 (i + 1, _, _) _ _ (.co (.co (.co (.cons rfl (.nil))))) ⟨by omega, hck, ?_, ?_, hE⟩ (by show n - (i + 1) < n - i; omega)
          · rw [← take_im hz, has_snoc]; simp_all
          · rw [← take_im hz, has_snoc]; simp_all
        first | replace h85 := dT h85 | replace h85 := nT h85 | skip
        refine vP ?_
        refine vP ?_
        refine vP ?_
        refine vP ?_
        refine vP ?_
        refine vP ?_
        refine vT ?_
        refine vA ?_
        refine Wl.nil ?_
        refine Wx.blockN ?_
        refine Wx.thenN (hK10 _ _ ?_)
        refine vR [(0, _), (3, _), (4, _), (5, _)] ?_
        refine vM ?_
        refine vAdd ?_
        refine vA ?_
        refine Wl.nil ?_
        refine Wx.thenN ?_
        refine hKL1 (i + 1, _, _) _ _ (.co (.co (.co (.cons rfl (.nil))))) ⟨by omega, hck, ?_, ?_, hE⟩ (by show n - (i + 1) < n - i; omega)
        · rw [← take_im hz, has_snoc]; simp_all
        · rw [← take_im hz, has_snoc]; simp_all
      first | replace h76 := dT h76 | replace h76 := nT h76 | skip
      refine vP ?_
      refine vP ?_
      refine vP ?_
      refine vP ?_
      refine vP ?_
      refine vP ?_
      refine vT ?_
      refine vA ?_
      refine vn (hK33 _ _ ?_)
      refine vR [(0, _), (3, _), (4, _), (5, _)] ?_
      refine vM ?_
      refine vM ?_
      refine Wl.guard rfl rfl rfl (fun h85 => ?_) (fun h85 => ?_)
      · first | replace h85 := dF h85 | replace h85 := nF h85 | skip
        refine vM ?_
        refine vM ?_
        refine vl (Gives.ixSZ (i := _) (sz := 4) rfl Tryd.underlying68 (by kernel_rfl) rfl rfl rfl (by omega)) ?_
        refine vF 0 Tryd.underlying84 ?_
        refine vl (Gives.ldC rfl (by kernel_rfl) rfl ((IL.cell hlv (k := i) (by omega)).1)) ?_
        refine vl (Gives.eql rfl rfl rfl) ?_
        refine vU ?_
        refine vA ?_
        refine Wl.nil ?_
        refine Wx.blockN ?_
        refine Wx.thenN (hK10 _ _ ?_)
        refine vR [(0, _), (3, _), (4, _), (5, _)] ?_
        refine vM ?_
        refine vAdd ?_
        refine vA ?_
        refine Wl.nil ?_
        refine Wx.thenN ?_
        refine hKL1 (i + 1, _, _) _ _ (.co (.co (.co (.cons rfl (.nil))))) ⟨by omega, hck, ?_, ?_, hE⟩ (by show n - (i + 1) < n - i; omega)
        · rw [← take_im hz, has_snoc]; simp_all
        · rw [← take_im hz, has_snoc]; simp_all
      first | replace h85 := dT h85 | replace h85 := nT h85 | skip
      refine vP ?_
      refine vP ?_
      refine vP ?_
      refine vP ?_
      refine vP ?_
      refine vP ?_
      refine vT ?_
      refine vA ?_
      refine Wl.nil ?_
      refine Wx.blockN ?_
      refine Wx.thenN (hK10 _ _ ?_)
      refine vR [(0, _), (3, _), (4, _), (5, _)] ?_
      refine vM ?_
      refine vAdd ?_
      refine vA ?_
      refine Wl.nil ?_
      refine Wx.thenN ?_
      refine hKL1 (i + 1, _, _) _ _ (.co (.co (.co (.cons rfl (.nil))))) ⟨by omega, hck, ?_, ?_, hE⟩ (by show n - (i + 1) < n - i; omega)
      · rw [← take_im hz, has_snoc]; simp_all
      · rw [← take_im hz, has_snoc]; simp_all
    first | replace h19 := dF h19 | replace h19 := nF h19 | skip
    refine Wc.exit ?_
    refine Wx.thenE ?_
    refine Wx.thenE ?_
    refine Wx.hit ?_
    refine Wx.thenN (hK6 _ _ ?_)
    refine Wc.seq (fun K34 hK34 => ?_)
    refine vs fun K35 hK35 => vK [(3, _), (4, _)] ?_
    obtain rfl : i = n := by omega
    rw [List.take_of_length_le (by omega), List.drop_eq_nil_of_le (by omega)] at hck
    rw [List.take_of_length_le (by omega)] at hfw hkn
    have hck0 : chkL [] l = 0 := hck
    have hn18 : 1 ≤ l.length ∧ l.length ≤ 8 := by omega
    refine Wc.region ?_
    refine vM ?_
    refine vl (Gives.not rfl rfl) ?_
    refine vM ?_
    refine Wl.guard rfl rfl rfl (fun h95 => ?_) (fun h95 => ?_)
    · first | replace h95 := dF h95 | replace h95 := nF h95 | skip
      refine vM ?_
      refine vl (Gives.not rfl rfl) ?_
      refine vU ?_
      refine vn (hK35 _ _ ?_)
      refine Wc.cond _ rfl (fun h98 => ?_) (fun h98 => ?_)
      · first | replace h98 := dT h98 | replace h98 := nT h98 | skip
        refine vs fun K36 hK36 => vR [] ?_
        refine vA ?_
        refine vn (hK36 _ _ ?_)
        refine Wc.ret ?_
        refine Wx.thenR ?_
        refine Wx.ret [_] ⟨rfl, trivial⟩ ?_
        first | exact ⟨by rw [chainE_1 (by omega)]; rfl, hE⟩ | exact ⟨by rw [chainE_e hn18 (hck.trans (chk_bad h28)) h28]; rfl, hE⟩ | exact ⟨by rw [chainE_e hn18 (hck.trans (chk_41 hxe (by rw [less_at (by omega) (getD_im (by omega))]; exact decide_eq_true h45))) (by decide)]; rfl, hE⟩ | exact ⟨by rw [chainE_e hn18 (hck.trans (chk_42 hxe hless (any_take_yes (show j < i by omega) (getD_im (by omega)) ⟨h62, h74⟩))) (by decide)]; rfl, hE⟩ | exact ⟨by rw [chainE_0 hn18 hck0 (by simp_all)]; rfl, hE⟩ | exact ⟨by rw [chainE_40 hn18 hck0 (by simp_all)]; rfl, hE⟩
      first | replace h98 := dF h98 | replace h98 := nF h98 | skip
      refine Wc.skip ?_
      refine Wx.thenN (hK34 _ _ ?_)
      refine vs fun K37 hK37 => vR [] ?_
      refine vA ?_
      refine vn (hK37 _ _ ?_)
      refine Wc.ret ?_
      refine Wx.ret [_] ⟨rfl, trivial⟩ ?_
      first | exact ⟨by rw [chainE_1 (by omega)]; rfl, hE⟩ | exact ⟨by rw [chainE_e hn18 (hck.trans (chk_bad h28)) h28]; rfl, hE⟩ | exact ⟨by rw [chainE_e hn18 (hck.trans (chk_41 hxe (by rw [less_at (by omega) (getD_im (by omega))]; exact decide_eq_true h45))) (by decide)]; rfl, hE⟩ | exact ⟨by rw [chainE_e hn18 (hck.trans (chk_42 hxe hless (any_take_yes (show j < i by omega) (getD_im (by omega)) ⟨h62, h74⟩))) (by decide)]; rfl, hE⟩ | exact ⟨by rw [chainE_0 hn18 hck0 (by simp_all)]; rfl, hE⟩ | exact ⟨by rw [chainE_40 hn18 hck0 (by simp_all)]; rfl, hE⟩
    first | replace h95 := dT h95 | replace h95 := nT h95 | skip
    refine vP ?_
    refine vP ?_
    refine vT ?_
    refine vn (hK35 _ _ ?_)
    refine Wc.condT rfl rfl ?_
    refine vs fun K38 hK38 => vR [] ?_
    refine vA ?_
    refine vn (hK38 _ _ ?_)
    refine Wc.ret ?_
    refine Wx.thenR ?_
    refine Wx.ret [_] ⟨rfl, trivial⟩ ?_
    first | exact ⟨by rw [chainE_1 (by omega)]; rfl, hE⟩ | exact ⟨by rw [chainE_e hn18 (hck.trans (chk_bad h28)) h28]; rfl, hE⟩ | exact ⟨by rw [chainE_e hn18 (hck.trans (chk_41 hxe (by rw [less_at (by omega) (getD_im (by omega))]; exact decide_eq_true h45))) (by decide)]; rfl, hE⟩ | exact ⟨by rw [chainE_e hn18 (hck.trans (chk_42 hxe hless (any_take_yes (show j < i by omega) (getD_im (by omega)) ⟨h62, h74⟩))) (by decide)]; rfl, hE⟩ | exact ⟨by rw [chainE_0 hn18 hck0 (by simp_all)]; rfl, hE⟩ | exact ⟨by rw [chainE_40 hn18 hck0 (by simp_all)]; rfl, hE⟩
  first | replace h11 := dT h11 | replace h11 := nT h11 | skip
  refine vP ?_
  refine vP ?_
  refine vP ?_
  refine vT ?_
  refine vn (hK3 _ _ ?_)
  refine Wc.condT rfl rfl ?_
  refine vs fun K39 hK39 => vR [] ?_
  refine vA ?_
  refine vn (hK39 _ _ ?_)
  refine Wc.ret ?_
  refine Wx.thenR ?_
  refine Wx.ret [_] ⟨rfl, trivial⟩ ?_
  first | exact ⟨by rw [chainE_1 (by omega)]; rfl, hE⟩ | exact ⟨by rw [chainE_e hn18 (hck.trans (chk_bad h28)) h28]; rfl, hE⟩ | exact ⟨by rw [chainE_e hn18 (hck.trans (chk_41 hxe (by rw [less_at (by omega) (getD_im (by omega))]; exact decide_eq_true h45))) (by decide)]; rfl, hE⟩ | exact ⟨by rw [chainE_e hn18 (hck.trans (chk_42 hxe hless (any_take_yes (show j < i by omega) (getD_im (by omega)) ⟨h62, h74⟩))) (by decide)]; rfl, hE⟩ | exact ⟨by rw [chainE_0 hn18 hck0 (by simp_all)]; rfl, hE⟩ | exact ⟨by rw [chainE_40 hn18 hck0 (by simp_all)]; rfl, hE⟩
end Go.Proofs.YtnbgieccindpnaaDoor
