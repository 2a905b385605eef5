/- JournalRecover: the walk. -/
import Derived.Test.YtbbeoojlgfegjaaDoorLawJC
namespace Go.Proofs.YtbbeoojlgfegjaaDoor
set_option linter.all false
open Go.RowKit
theorem bits_u8and (a b : UInt8) : bits .and .u8 (a.toNat : Int) (b.toNat : Int) = ((a &&& b).toNat : Int) := by
  have h1 : (BitVec.ofInt 8 (a.toNat : Int)).toNat = a.toNat := by
    rw [BitVec.toNat_ofInt]
    have := a.toNat_lt
    omega
  have h2 : (BitVec.ofInt 8 (b.toNat : Int)).toNat = b.toNat := by
    rw [BitVec.toNat_ofInt]
    have := b.toNat_lt
    omega
  have e : bits .and .u8 (a.toNat : Int) (b.toNat : Int) = IntKind.u8.wrap ((BitVec.ofInt 8 (a.toNat : Int) &&& BitVec.ofInt 8 (b.toNat : Int)).toNat : Int) := rfl
  rw [e, BitVec.toNat_and, h1, h2, UInt8.toNat_and]
  have hlt : a.toNat &&& b.toNat ≤ a.toNat := Nat.and_le_left
  have := a.toNat_lt
  rw [wrap8]
  omega
theorem Blk.bel {w w' : World} {g base : Nat} {t : TypeId} {cs : Array Value} (h : Blk w g t cs) (hB : Below base w w') (hlt : g < base) : Blk w' g t cs := (hB.block g hlt).trans h
theorem write_lens {d : Dk} {i : Int} {x : List UInt8} {L : Nat} (h : Lens d L) {M : Nat} (hx : x.length + L ≤ M) : Lens (writeS d i x) M := by
  unfold writeS putS
  intro l hl
  split at hl
  · have := h l hl; omega
  · split at hl
    · have := h l hl; omega
    · split at hl
      · have := h l hl; omega
      · rcases List.mem_or_eq_of_mem_set hl with h3 | rfl
        · have := h l h3; omega
        · have hg := getD_le h i.toNat
          unfold write1S
          rw [List.length_append, List.length_take]
          split
          · rw [List.length_drop]; omega
          · simp only [List.length_nil]; omega
def gbJ (l : List UInt8) (i : Nat) : UInt8 := l.getD i 0
theorem gbJ_some (l : List UInt8) (i : Nat) (h : i < l.length) : l[i]? = some (gbJ l i) := by simp [gbJ, List.getD, h]
set_option maxRecDepth 20000 in
set_option maxHeartbeats 2000000 in
theorem journalRecover_walk {P P' : Nat → Prop} (w : World) (hT : Tab w) (A : Option Addr) (n c : Nat) (l : List (List UInt8)) (ha : BL w P A n c l) (base pos : Int) (x3 x4 : UInt8) (D : Option Addr) (m dc : Nat) (p : List UInt8) (hp : BV w P' D m dc p) (stop : Bool) :
    Calls Tryd.prog 4 #[.slice A n c, .int .i64 base, .int .i64 pos, .int .u8 (x3.toNat : Int), .int .u8 (x4.toNat : Int), .slice D m dc, .bool stop] w fun e w' => e = .returned (.bool true) ∧ Ext w w' := by
  have hle := hp.le
  have hpl := hp.len
  have hl := ha.len
  obtain ⟨k5, hk5⟩ := Int.eq_ofNat_of_zero_le (Int.emod_nonneg base (show (5 : Int) ≠ 0 by decide))
  have hk5' : k5 ≤ 4 := by have := Int.emod_lt_of_pos base (show (0 : Int) < 5 by decide); omega
  have hbit : (x4 &&& 1).toNat ≤ 1 := by rw [UInt8.toNat_and]; exact Nat.and_le_right
  refine calls_enter Tryd.func4 rfl Tryd.ntmps4 rfl ?_
  have hE : Ext w w := Ext.refl w
  refine Wc.seq (fun K1 hK1 => ?_)
  refine Wc.keep [(0, _), (1, _), (2, _), (3, _), (4, _), (5, _), (6, _)] (.cons rfl (.cons rfl (.cons rfl (.cons rfl (.cons rfl (.cons rfl (.cons rfl (.nil)))))))) ?_
  refine Wc.region ?_
  refine Wl.val rfl rfl rfl (Gives.assign rfl rfl) ?_
  refine Wl.nil ?_
  refine Wx.thenN (hK1 _ _ ?_)
  refine Wc.seq (fun K2 hK2 => ?_)
  refine Wc.seq (fun K3 hK3 => ?_)
  refine Wc.keep [(0, _), (1, _), (2, _), (3, _), (4, _), (5, _), (6, _)] (.cons rfl (.cons rfl (.cons rfl (.cons rfl (.cons rfl (.cons rfl (.cons rfl (.nil)))))))) ?_
  refine Wc.region ?_
  refine Wl.call rfl rfl rfl rfl Tryd.func9 rfl (by kernel_rfl) rfl (awakeJ _ (hT.ext hE)) ?_
  rintro x0 w0 ⟨rfl, hx0⟩
  refine ⟨_, rfl, ?_⟩
  replace hE := hE.trans hx0
  refine Wl.val rfl rfl rfl (Gives.not rfl rfl) ?_
  refine Wl.nil ?_
  refine Wx.thenN (hK3 _ _ ?_)
  refine Wc.condF rfl rfl ?_
  refine Wc.skip ?_
  refine Wx.thenN (hK2 _ _ ?_)
  refine Wc.seq (fun K4 hK4 => ?_)
  refine Wc.seq (fun K5 hK5 => ?_)
  refine Wc.keep [(0, _), (1, _), (2, _), (3, _), (4, _), (5, _), (6, _)] (.cons rfl (.cons rfl (.cons rfl (.cons rfl (.cons rfl (.cons rfl (.cons rfl (.nil)))))))) ?_
  refine Wc.region ?_
  refine Wl.val rfl rfl rfl (Gives.move rfl rfl) ?_
  refine Wl.call rfl rfl rfl rfl Tryd.func10 rfl (by kernel_rfl) rfl (fewJ _ A n c l (ha.ext hE)) ?_
  rintro x1 w1 ⟨b, rfl, hfew, hx1⟩
  refine ⟨_, rfl, ?_⟩
  replace hE := hE.trans hx1
  refine Wl.val rfl rfl rfl (Gives.not rfl rfl) ?_
  refine Wl.val rfl rfl rfl (Gives.move rfl rfl) ?_
  refine Wl.guard rfl rfl rfl (fun h38 => ?_) (fun h38 => ?_)
  · (first | replace h38 := of_decide_eq_false h38 | replace h38 := nd_false h38 | skip)
    refine Wl.val rfl rfl rfl (Gives.move rfl rfl) ?_
    refine Wl.val rfl rfl rfl (Gives.lenS rfl Tryd.underlying23 rfl) ?_
    refine Wl.val rfl rfl rfl (Gives.gtr rfl rfl rfl) ?_
    refine Wl.val rfl rfl rfl (Gives.pickF rfl rfl rfl rfl) ?_
    refine Wl.nil ?_
    refine Wx.thenN (hK5 _ _ ?_)
    refine Wc.cond _ rfl (fun h42 => ?_) (fun h42 => ?_)
    · (first | replace h42 := of_decide_eq_true h42 | replace h42 := nd_true h42 | skip)
      refine Wc.seq (fun K6 hK6 => ?_)
      refine Wc.keep [] (.nil) ?_
      refine Wc.region ?_
      refine Wl.val rfl rfl rfl (Gives.assign rfl rfl) ?_
      refine Wl.nil ?_
      refine Wx.thenN (hK6 _ _ ?_)
      refine Wc.ret ?_
      refine Wx.thenR ?_
      refine Wx.ret [_] ⟨rfl, trivial⟩ ?_
      exact ⟨rfl, hE⟩
    · (first | replace h42 := of_decide_eq_false h42 | replace h42 := nd_false h42 | skip)
      refine Wc.skip ?_
      refine Wx.thenN (hK4 _ _ ?_)
      refine Wc.seq (fun K7 hK7 => ?_)
      refine Wc.keep [(0, _), (1, _), (2, _), (3, _), (4, _), (5, _), (6, _)] (.cons rfl (.cons rfl (.cons rfl (.cons rfl (.cons rfl (.cons rfl (.cons rfl (.nil)))))))) ?_
      have hb : b = true := by simpa using h38
      obtain ⟨hn10, hx60⟩ := hfew hb
      refine Wc.region ?_
      refine Wl.val rfl rfl rfl (Gives.move rfl rfl) ?_
      refine Wl.call rfl rfl rfl rfl Tryd.func11 rfl (by kernel_rfl) rfl (mod_calls _ base 5 (by omega) (by omega)) ?_
      rintro x2 w51 ⟨rfl, rfl⟩
      refine ⟨_, rfl, ?_⟩
      rw [hk5]
      refine Wl.val rfl rfl rfl (Gives.assign rfl rfl) ?_
      refine Wl.nil ?_
      refine Wx.thenN (hK7 _ _ ?_)
      refine Wc.seq (fun K8 hK8 => ?_)
      refine Wc.keep [(0, _), (1, _), (2, _), (3, _), (4, _), (5, _), (6, _), (15, _)] (.cons rfl (.cons rfl (.cons rfl (.cons rfl (.cons rfl (.cons rfl (.cons rfl (.cons rfl (.nil))))))))) ?_
      refine Wc.region ?_
      refine Wl.val rfl rfl rfl (Gives.move rfl rfl) ?_
      refine Wl.val rfl rfl rfl (Gives.move rfl rfl) ?_
      refine Wl.call rfl rfl rfl rfl Tryd.func12 rfl (by kernel_rfl) rfl (chainJ _ A n c l (ha.ext hE) (by omega) (fun x hx => by have := hx60 x hx; omega) k5 hk5') ?_
      rintro x3' w63 ⟨A1, c1, d1, rfl, H1, hb1, hx3⟩
      refine ⟨_, rfl, ?_⟩
      have hw1 : d1.wr = n := by { rw [H1.out]; exact (chain_inv k5 hk5' l (fun x hx => by have := hx60 x hx; omega) n (by omega) (by omega)).2 }
      have hL1 : Lens d1 2000 := by { rw [H1.out]; exact chain_lens k5 hk5' l 2000 (by omega) (fun x hx => by have := hx60 x hx; omega) (fun x hx => by have := hx60 x hx; omega) n (by omega) (by omega) }
      replace hE := hE.trans hx3
      refine Wl.val rfl rfl rfl (Gives.move rfl rfl) ?_
      refine Wl.val rfl rfl rfl (Gives.extract rfl rfl rfl) ?_
      refine Wl.val rfl rfl rfl (Gives.extract rfl rfl rfl) ?_
      refine Wl.does rfl rfl rfl (Does.alB (.agg #[(.slice none 0 0), (.int .i64 0), (.int .i64 0), (.int .i64 0), (.bool false)]) rfl (by kernel_rfl) rfl) ?_
      rintro _ w6_6 ⟨b16, rfl, hs16, hb16, hx6_6⟩
      have hg16 : w.heap.size ≤ b16 := Nat.le_trans hE.size hs16
      replace hE := hE.trans hx6_6
      refine Wl.acts rfl rfl (Does.stL 5 rfl rfl rfl hb16 (by kernel_rfl) rfl rfl rfl) ?_
      rintro _ w6_7 ⟨hbn, hF6_7⟩
      replace hE := Ext.over hE hF6_7 hg16
      replace hb16 := hbn
      clear hbn
      have hD : BL w6_7 (fun q => q ≠ b16) A1 6 c1 d1.areas := ((hb1.bd.mono (P' := fun q => q ≠ b16) (fun q hq => by omega)).ext hx6_6).fr hF6_7
      refine Wl.val rfl rfl rfl (Gives.assign rfl rfl) ?_
      refine Wl.nil ?_
      refine Wx.thenN (hK8 _ _ ?_)
      refine Wc.seq (fun K9 hK9 => ?_)
      refine Wc.keep [(1, _), (2, _), (3, _), (4, _), (5, _), (6, _), (15, _), (16, _)] (.cons rfl (.cons rfl (.cons rfl (.cons rfl (.cons rfl (.cons rfl (.cons rfl (.cons rfl (.nil))))))))) ?_
      refine Wc.region ?_
      refine Wl.val rfl rfl rfl (Gives.move rfl rfl) ?_
      refine Wl.val rfl rfl rfl (Gives.move rfl rfl) ?_
      refine Wl.val rfl rfl rfl (Gives.bits .and (by simp) rfl rfl rfl (bits_u8and x4 1)) ?_
      refine Wl.val rfl rfl rfl (Gives.conv rfl Tryd.underlying5 Tryd.underlying3 rfl (by first | exact IntWalk.i64_in _ (by omega) | exact u64_in _ (by omega) | exact u32_in _ (by omega) | exact u8_in _ (by omega) | exact rfl)) ?_
      refine Wl.val rfl rfl rfl (Gives.add rfl rfl rfl (by first | exact IntWalk.i64_in _ (by omega) | exact u64_in _ (by omega) | exact u32_in _ (by omega) | exact u8_in _ (by omega) | exact rfl)) ?_
      refine Wl.val rfl rfl rfl (Gives.assign rfl rfl) ?_
      refine Wl.nil ?_
      refine Wx.thenN (hK9 _ _ ?_)
      refine Wc.seq (fun K10 hK10 => ?_)
      refine Wc.keep [(1, _), (2, _), (3, _), (5, _), (6, _), (16, _), (18, _)] (.cons rfl (.cons rfl (.cons rfl (.cons rfl (.cons rfl (.cons rfl (.cons rfl (.nil)))))))) ?_
      obtain ⟨xb, xo, rfl, hbw, f, fA, fn, fc, hz, hcell, hF⟩ := hD.at'' (show k5 + (x4 &&& 1).toNat < 6 by omega)
      have hfl := hF.len
      have hfm := hL1 f (List.mem_of_getElem? hz)
      refine Wc.region ?_
      refine Wl.val rfl rfl rfl (Gives.fieldAt 0 rfl Tryd.underlying28 rfl (by kernel_rfl) rfl rfl) ?_
      refine Wl.val rfl rfl rfl (Gives.ldK rfl (by kernel_rfl) rfl hb16 rfl) ?_
      refine Wl.val rfl rfl rfl (Gives.move rfl rfl) ?_
      refine Wl.val rfl rfl rfl (Gives.ixS (i := (k5 + (x4 &&& 1).toNat)) rfl Tryd.underlying22 (by kernel_rfl) rfl rfl (by omega) (by omega)) ?_
      refine Wl.val rfl rfl rfl (Gives.ldC rfl (by kernel_rfl) rfl hcell) ?_
      refine Wl.call rfl rfl rfl rfl Tryd.func17 rfl (by kernel_rfl) rfl (copy_calls _ fA fn fc f hF (by omega)) ?_
      rintro x5 w85 ⟨S1, k1, rfl, hO1, hx5⟩
      refine ⟨_, rfl, ?_⟩
      have hz16 := hb16.lt
      have hDb := (hD.bdP).ext hx5
      have hs85 := hx5.size
      replace hb16 := hb16.ext hx5
      replace hE := hE.trans hx5
      refine Wl.val rfl rfl rfl (Gives.move rfl rfl) ?_
      refine Wl.does rfl rfl rfl (Does.appO rfl Tryd.underlying23 infoB rfl rfl hO1 (hp.ext hE) (by omega) (by omega)) ?_
      rintro _ w87 ⟨S2, k2, rfl, hO2, hB87⟩
      have hW := YB.of hO2
      have hWl := hW.len
      have hDc := hDb.fr ((below_fr hB87).mono fun q hq => hq.2)
      have hD' := hDc.mono (P' := fun q => q ≠ b16) fun q hq => hq.1
      replace hb16 := Blk.bel hb16 hB87 (by omega)
      replace hE := Ext.step hE hB87 (by omega)
      refine Wl.val rfl rfl rfl (Gives.assign rfl rfl) ?_
      refine Wl.nil ?_
      refine Wx.thenN (hK10 _ _ ?_)
      refine Wc.joinC (ι := List UInt8) [(1, _), (6, _), (16, _), (18, _), (19, _)] (fun _ => []) (fun lb wr => YB wr w6_7.heap.size S2 (fn + m) k2 lb ∧ BL wr (fun q => q ≠ b16) (some ⟨xb, xo, none⟩) 6 c1 d1.areas ∧ Blk wr b16 28 #[.slice (some ⟨xb, xo, none⟩) 6 c1, .int .i64 (d1).wr, .int .i64 (d1).ct, .int .i64 (d1).tn, .bool (d1).off] ∧ Ext w wr) ?_ ?_ (.cons rfl (.cons rfl (.cons rfl (.cons rfl (.cons rfl (.nil))))))
      · intro K11 hJ11
        refine Wc.seq (fun K12 hK12 => ?_)
        refine Wc.keep [(1, _), (2, _), (3, _), (6, _), (16, _), (18, _), (19, _)] (.cons rfl (.cons rfl (.cons rfl (.cons rfl (.cons rfl (.cons rfl (.cons rfl (.nil)))))))) ?_
        refine Wc.region ?_
        refine Wl.val rfl rfl rfl (Gives.move rfl rfl) ?_
        refine Wl.val rfl rfl rfl (Gives.geq rfl rfl rfl) ?_
        refine Wl.val rfl rfl rfl (Gives.move rfl rfl) ?_
        refine Wl.guard rfl rfl rfl (fun h66 => ?_) (fun h66 => ?_)
        · (first | replace h66 := of_decide_eq_true h66 | replace h66 := nd_true h66 | skip)
          refine Wl.val rfl rfl rfl (Gives.move rfl rfl) ?_
          refine Wl.val rfl rfl rfl (Gives.move rfl rfl) ?_
          refine Wl.val rfl rfl rfl (Gives.lenS rfl Tryd.underlying23 rfl) ?_
          refine Wl.val rfl rfl rfl (Gives.lss rfl rfl rfl) ?_
          refine Wl.val rfl rfl rfl (Gives.pickT rfl rfl rfl rfl) ?_
          refine Wl.nil ?_
          refine Wx.thenN (hK12 _ _ ?_)
          refine Wc.cond _ rfl (fun h71 => ?_) (fun h71 => ?_)
          · (first | replace h71 := of_decide_eq_true h71 | replace h71 := nd_true h71 | skip)
            refine Wc.keep [(1, _), (2, _), (3, _), (6, _), (16, _), (18, _), (19, _)] (.cons rfl (.cons rfl (.cons rfl (.cons rfl (.cons rfl (.cons rfl (.cons rfl (.nil)))))))) ?_
            obtain ⟨k, rfl⟩ := Int.eq_ofNat_of_zero_le (show 0 ≤ pos by omega)
            obtain ⟨g, off, rfl, hg1, hg2⟩ := hW.head (show 0 < fn + m by omega)
            have hBb := hW.bv (P := fun _ => True) (fun _ _ => trivial)
            refine Wc.region ?_
            refine Wl.val rfl rfl rfl (Gives.move rfl rfl) ?_
            refine Wl.val rfl rfl rfl (Gives.move rfl rfl) ?_
            refine Wl.val rfl rfl rfl (Gives.ixS (i := k) rfl Tryd.underlying23 (by kernel_rfl) rfl rfl (by omega) (by omega)) ?_
            refine Wl.val rfl rfl rfl (Gives.ldC rfl (by kernel_rfl) rfl (hBb.cellAt (gbJ_some (f ++ p) k (by omega)))) ?_
            refine Wl.val rfl rfl rfl (Gives.move rfl rfl) ?_
            refine Wl.val rfl rfl rfl (Gives.bits .xor (by simp) rfl rfl rfl (bits_u8xor _ _)) ?_
            refine Wl.val rfl rfl rfl (Gives.ixS (i := k) rfl Tryd.underlying23 (by kernel_rfl) rfl rfl (by omega) (by omega)) ?_
            refine Wl.acts rfl rfl (Does.stY (i := k) (gbJ (f ++ p) k ^^^ x3) rfl rfl rfl rfl hW (by kernel_rfl) (by omega)) ?_
            rintro _ w107 ⟨hW2, hF107⟩
            have hng : b16 ≠ g := by omega
            have hDg := (hDc.fr (hF107.mono fun q hq => by omega)).mono (P' := fun q => q ≠ b16) fun q hq => hq.1
            replace hb16 := hb16.fr hF107 hng
            replace hE := Ext.over hE hF107 (by omega)
            refine Wl.nil ?_
            refine Wx.thenN ?_
            exact hJ11 _ _ _ (.cons rfl (.cons rfl (.cons rfl (.cons rfl (.cons rfl (.nil)))))) ⟨hW2, hDg, hb16, hE⟩
          · (first | replace h71 := of_decide_eq_false h71 | replace h71 := nd_false h71 | skip)
            refine Wc.skip ?_
            refine Wx.thenN ?_
            exact hJ11 _ _ _ (.cons rfl (.cons rfl (.cons rfl (.cons rfl (.cons rfl (.nil)))))) ⟨hW, hD', hb16, hE⟩
        · (first | replace h66 := of_decide_eq_false h66 | replace h66 := nd_false h66 | skip)
          refine Wl.pass rfl rfl rfl ?_
          refine Wl.pass rfl rfl rfl ?_
          refine Wl.pass rfl rfl rfl ?_
          refine Wl.pass rfl rfl rfl ?_
          refine Wl.val rfl rfl rfl (Gives.pickF rfl rfl rfl rfl) ?_
          refine Wl.nil ?_
          refine Wx.thenN (hK12 _ _ ?_)
          refine Wc.condF rfl rfl ?_
          refine Wc.skip ?_
          refine Wx.thenN ?_
          exact hJ11 _ _ _ (.cons rfl (.cons rfl (.cons rfl (.cons rfl (.cons rfl (.nil)))))) ⟨hW, hD', hb16, hE⟩
      intro lb wr0 hJ
      clear hD hb16 hE hD' hDc hDb hW
      obtain ⟨hY, hD, hb16, hE⟩ := hJ
      have hYl := hY.len
      have hz16 := hb16.lt
      refine Wc.seq (fun K13 hK13 => ?_)
      refine Wc.keep [(1, _), (6, _), (16, _), (18, _), (19, _)] (.cons rfl (.cons rfl (.cons rfl (.cons rfl (.cons rfl (.nil)))))) ?_
      refine Wc.region ?_
      refine Wl.val rfl rfl rfl (Gives.ldW rfl (by kernel_rfl) rfl hb16 (by kernel_rfl)) ?_
      refine Wl.val rfl rfl rfl (Gives.move rfl rfl) ?_
      refine Wl.val rfl rfl rfl (Gives.move rfl rfl) ?_
      refine Wl.call rfl rfl rfl rfl Tryd.func18 rfl (by kernel_rfl) rfl (writeR_calls (fun q => q ≠ b16) _ (fun q hq => by omega) (some ⟨xb, xo, none⟩) 6 c1 d1 hD (by omega) S2 (fn + m) k2 lb (hY.bv (P := fun _ => True) fun _ _ => trivial) (by omega) (k5 + (x4 &&& 1).toNat : Nat) (by omega) (by omega) (fun l hl => by have := hL1 l hl; omega)) ?_
      rintro x6 w113 ⟨A2, c2, d2, e2, rfl, H2, hb2, hx6⟩
      refine ⟨_, rfl, ?_⟩
      have hL2 : Lens d2 8000 := by { rw [H2.out.1]; exact write_lens hL1 (by omega) }
      replace hb16 := hb16.ext hx6
      replace hE := hE.trans hx6
      refine Wl.val rfl rfl rfl (Gives.move rfl rfl) ?_
      refine Wl.val rfl rfl rfl (Gives.extract rfl rfl rfl) ?_
      refine Wl.val rfl rfl rfl (Gives.extract rfl rfl rfl) ?_
      refine Wl.acts rfl rfl (Does.stL 5 rfl rfl rfl hb16 (by kernel_rfl) rfl rfl rfl) ?_
      rintro _ w11_7 ⟨hbn, hF11_7⟩
      replace hE := Ext.over hE hF11_7 hg16
      replace hb16 := hbn
      clear hbn
      have hD2 := hb2.fr hF11_7
      refine Wl.nil ?_
      refine Wx.thenN (hK13 _ _ ?_)
      refine Wc.joinC (ι := (Option Addr × Nat) × Dk) [(1, _), (16, _)] (fun _ => []) (fun | ((A, c), d), wr => Lens d 8000 ∧ BL wr (fun q => q ≠ b16) A 6 c d.areas ∧ Blk wr b16 28 #[.slice A 6 c, .int .i64 (d).wr, .int .i64 (d).ct, .int .i64 (d).tn, .bool (d).off] ∧ Ext w wr) ?_ ?_ (.cons rfl (.cons rfl (.nil)))
      · intro K14 hJ14
        refine Wc.seq (fun K15 hK15 => ?_)
        refine Wc.keep [(1, _), (6, _), (16, _)] (.cons rfl (.cons rfl (.cons rfl (.nil)))) ?_
        refine Wc.region ?_
        refine Wl.val rfl rfl rfl (Gives.move rfl rfl) ?_
        refine Wl.nil ?_
        refine Wx.thenN (hK15 _ _ ?_)
        refine Wc.cond _ rfl (fun h86 => ?_) (fun h86 => ?_)
        · (first | replace h86 := of_decide_eq_true h86 | replace h86 := nd_true h86 | skip)
          refine Wc.keep [(1, _), (16, _)] (.cons rfl (.cons rfl (.nil))) ?_
          refine Wc.region ?_
          refine Wl.val rfl rfl rfl (Gives.ldW rfl (by kernel_rfl) rfl hb16 (by kernel_rfl)) ?_
          refine Wl.call rfl rfl rfl rfl Tryd.func19 rfl (by kernel_rfl) rfl (stopR_calls (fun q => q ≠ b16) _ (fun q hq => by have := hb16.lt; omega) A2 6 c2 d2 hD2) ?_
          rintro x7 w131 ⟨A3, c3, d3, rfl, H3, hb3, hx7⟩
          refine ⟨_, rfl, ?_⟩
          have hL3 : Lens d3 8000 := by { rw [H3.out]; exact hL2 }
          replace hb16 := hb16.ext hx7
          replace hE := hE.trans hx7
          refine Wl.acts rfl rfl (Does.stL 5 rfl rfl rfl hb16 (by kernel_rfl) rfl rfl rfl) ?_
          rintro _ w13_2 ⟨hbn, hF13_2⟩
          replace hE := Ext.over hE hF13_2 hg16
          replace hb16 := hbn
          clear hbn
          have hD3 := hb3.fr hF13_2
          refine Wl.nil ?_
          refine Wx.thenN ?_
          exact hJ14 ((A3, c3), d3) _ _ (.cons rfl (.cons rfl (.nil))) ⟨hL3, hD3, hb16, hE⟩
        · (first | replace h86 := of_decide_eq_false h86 | replace h86 := nd_false h86 | skip)
          refine Wc.skip ?_
          refine Wx.thenN ?_
          exact hJ14 ((A2, c2), d2) _ _ (.cons rfl (.cons rfl (.nil))) ⟨hL2, hD2, hb16, hE⟩
      intro ⟨⟨A4, c4⟩, d4⟩ wr1 hJ
      clear hD hb16 hE hD2 hz16
      obtain ⟨hL4, hD, hb16, hE⟩ := hJ
      refine Wc.seq (fun K16 hK16 => ?_)
      refine Wc.seq (fun K17 hK17 => ?_)
      refine Wc.keep [(1, _), (16, _)] (.cons rfl (.cons rfl (.nil))) ?_
      refine Wc.region ?_
      refine Wl.val rfl rfl rfl (Gives.assign rfl rfl) ?_
      refine Wl.nil ?_
      refine Wx.thenN (hK17 _ _ ?_)
      refine Wc.block ?_
      refine Wc.keep [(1, _), (16, _), (20, _)] (.cons rfl (.cons rfl (.cons rfl (.nil)))) ?_
      refine Wc.loopC (ι := Int) [(1, _), (16, _)] (fun z => [(20, .int .i64 z)]) (fun z wr => -1 ≤ z ∧ z ≤ 7 ∧ BL wr (fun q => q ≠ b16) A4 6 c4 d4.areas ∧ Blk wr b16 28 #[.slice A4 6 c4, .int .i64 (d4).wr, .int .i64 (d4).ct, .int .i64 (d4).tn, .bool (d4).off] ∧ Ext w wr) (fun z => (8 - z).toNat) (-1) (.cons (by first | exact rfl | exact look_int rfl (by omega) | exact look_slice rfl (by omega)) (.cons rfl (.cons rfl (.nil)))) (⟨by omega, by omega, hD, hb16, hE⟩) ?_
      intro z wr2 hJ KL1 hKL1
      clear hD hb16 hE
      obtain ⟨hz1, hz2, hD, hb16, hE⟩ := hJ
      refine Wc.seq (fun K18 hK18 => ?_)
      refine Wc.seq (fun K19 hK19 => ?_)
      refine Wc.keep [(1, _), (16, _), (20, _)] (.cons rfl (.cons rfl (.cons rfl (.nil)))) ?_
      refine Wc.region ?_
      refine Wl.val rfl rfl rfl (Gives.move rfl rfl) ?_
      refine Wl.val rfl rfl rfl (Gives.lss rfl rfl rfl) ?_
      refine Wl.nil ?_
      refine Wx.thenN (hK19 _ _ ?_)
      refine Wc.cond _ rfl (fun h90 => ?_) (fun h90 => ?_)
      · (first | replace h90 := of_decide_eq_true h90 | replace h90 := nd_true h90 | skip)
        refine Wc.skip ?_
        refine Wx.thenN (hK18 _ _ ?_)
        refine Wc.seq (fun K20 hK20 => ?_)
        refine Wc.block ?_
        refine Wc.seq (fun K21 hK21 => ?_)
        refine Wc.keep [(1, _), (16, _), (20, _)] (.cons rfl (.cons rfl (.cons rfl (.nil)))) ?_
        refine Wc.region ?_
        refine Wl.val rfl rfl rfl (Gives.ldW rfl (by kernel_rfl) rfl hb16 (by kernel_rfl)) ?_
        refine Wl.val rfl rfl rfl (Gives.move rfl rfl) ?_
        refine Wl.call rfl rfl rfl rfl Tryd.func20 rfl (by kernel_rfl) rfl (recoverP _ (hT.ext hE) A4 6 c4 d4 hD (by omega) (fun l hl => by have := hL4 l hl; omega) z) ?_
        rintro x8 w172 ⟨S5, m5, k5', rfl, hO5, hx8⟩
        refine ⟨_, rfl, ?_⟩
        replace hD := hD.ext hx8
        replace hb16 := hb16.ext hx8
        replace hE := hE.trans hx8
        refine Wl.val rfl rfl rfl (Gives.move rfl rfl) ?_
        refine Wl.val rfl rfl rfl (Gives.extract rfl rfl rfl) ?_
        refine Wl.val rfl rfl rfl (Gives.extract rfl rfl rfl) ?_
        refine Wl.val rfl rfl rfl (Gives.extract rfl rfl rfl) ?_
        refine Wl.val rfl rfl rfl (Gives.assign rfl rfl) ?_
        refine Wl.val rfl rfl rfl (Gives.assign rfl rfl) ?_
        refine Wl.val rfl rfl rfl (Gives.assign rfl rfl) ?_
        refine Wl.nil ?_
        refine Wx.thenN (hK21 _ _ ?_)
        refine Wc.seq (fun K22 hK22 => ?_)
        refine Wc.keep [(1, _), (16, _), (20, _), (21, _), (22, _), (23, _)] (.cons rfl (.cons rfl (.cons rfl (.cons rfl (.cons rfl (.cons rfl (.nil))))))) ?_
        refine Wc.region ?_
        refine Wl.val rfl rfl rfl (Gives.ldW rfl (by kernel_rfl) rfl hb16 (by kernel_rfl)) ?_
        refine Wl.val rfl rfl rfl (Gives.move rfl rfl) ?_
        refine Wl.call rfl rfl rfl rfl Tryd.func21 rfl (by kernel_rfl) rfl (recover15 _ A4 6 c4 d4 hD (by omega) (fun l hl => by have := hL4 l hl; omega) z) ?_
        rintro x9 w182 ⟨S6, m6, k6', rfl, hO6, hx9⟩
        refine ⟨_, rfl, ?_⟩
        replace hD := hD.ext hx9
        replace hO5 := hO5.ext hx9
        replace hb16 := hb16.ext hx9
        replace hE := hE.trans hx9
        refine Wl.val rfl rfl rfl (Gives.move rfl rfl) ?_
        refine Wl.val rfl rfl rfl (Gives.extract rfl rfl rfl) ?_
        refine Wl.val rfl rfl rfl (Gives.extract rfl rfl rfl) ?_
        refine Wl.val rfl rfl rfl (Gives.extract rfl rfl rfl) ?_
        refine Wl.val rfl rfl rfl (Gives.assign rfl rfl) ?_
        refine Wl.val rfl rfl rfl (Gives.assign rfl rfl) ?_
        refine Wl.val rfl rfl rfl (Gives.assign rfl rfl) ?_
        refine Wl.nil ?_
        refine Wx.thenN (hK22 _ _ ?_)
        refine Wc.seq (fun K23 hK23 => ?_)
        refine Wc.keep [(1, _), (16, _), (20, _), (21, _), (22, _), (23, _), (24, _), (25, _), (26, _)] (.cons rfl (.cons rfl (.cons rfl (.cons rfl (.cons rfl (.cons rfl (.cons rfl (.cons rfl (.cons rfl (.nil)))))))))) ?_
        refine Wc.region ?_
        refine Wl.val rfl rfl rfl (Gives.move rfl rfl) ?_
        refine Wl.val rfl rfl rfl (Gives.move rfl rfl) ?_
        refine Wl.val rfl rfl rfl (Gives.neq rfl rfl rfl) ?_
        refine Wl.val rfl rfl rfl (Gives.move rfl rfl) ?_
        refine Wl.guardT rfl rfl rfl (by simp) ?_
        refine Wl.val rfl rfl rfl (Gives.move rfl rfl) ?_
        refine Wl.val rfl rfl rfl (Gives.move rfl rfl) ?_
        refine Wl.val rfl rfl rfl (Gives.neq rfl rfl rfl) ?_
        refine Wl.val rfl rfl rfl (Gives.pickF rfl rfl rfl rfl) ?_
        refine Wl.val rfl rfl rfl (Gives.move rfl rfl) ?_
        refine Wl.guardT rfl rfl rfl (by simp) ?_
        refine Wl.val rfl rfl rfl (Gives.move rfl rfl) ?_
        refine Wl.val rfl rfl rfl (Gives.move rfl rfl) ?_
        refine Wl.call rfl rfl rfl rfl Tryd.func22 rfl (by kernel_rfl) rfl (same_calls _ _ _ _ _ _ _ _ _ (hO5.bv (P := fun _ => True) fun _ _ => trivial) (hO6.bv (P := fun _ => True) fun _ _ => trivial)) ?_
        rintro x10 w191 ⟨rfl, hq10⟩
        refine ⟨_, rfl, ?_⟩
        replace hD := hD.ext hq10.ext
        replace hb16 := hb16.ext hq10.ext
        replace hE := hE.trans hq10.ext
        refine Wl.val rfl rfl rfl (Gives.not rfl rfl) ?_
        refine Wl.val rfl rfl rfl (Gives.pickF rfl rfl rfl rfl) ?_
        refine Wl.nil ?_
        refine Wx.thenN (hK23 _ _ ?_)
        refine Wc.condF rfl (by simp) ?_
        refine Wc.skip ?_
        refine Wx.blockN ?_
        refine Wx.thenN (hK20 _ _ ?_)
        refine Wc.keep [(1, _), (16, _), (20, _)] (.cons rfl (.cons rfl (.cons rfl (.nil)))) ?_
        refine Wc.region ?_
        refine Wl.val rfl rfl rfl (Gives.move rfl rfl) ?_
        refine Wl.val rfl rfl rfl (Gives.add rfl rfl rfl (by first | exact IntWalk.i64_in _ (by omega) | exact u64_in _ (by omega) | exact u32_in _ (by omega) | exact u8_in _ (by omega) | exact rfl)) ?_
        refine Wl.val rfl rfl rfl (Gives.assign rfl rfl) ?_
        refine Wl.nil ?_
        refine Wx.thenN ?_
        exact hKL1 (z + 1) _ _ (.cons (by first | exact rfl | exact look_int rfl (by omega) | exact look_slice rfl (by omega)) (.cons rfl (.cons rfl (.nil)))) ⟨by omega, by omega, hD, hb16, hE⟩ (by show (8 - (z + 1)).toNat < (8 - z).toNat; omega)
      · (first | replace h90 := of_decide_eq_false h90 | replace h90 := nd_false h90 | skip)
        refine Wc.exit ?_
        refine Wx.thenE ?_
        refine Wx.thenE ?_
        refine Wx.hit ?_
        refine Wx.thenN (hK16 _ _ ?_)
        refine Wc.seq (fun K24 hK24 => ?_)
        refine Wc.keep [(1, _), (16, _)] (.cons rfl (.cons rfl (.nil))) ?_
        refine Wc.region ?_
        refine Wl.val rfl rfl rfl (Gives.ldW rfl (by kernel_rfl) rfl hb16 (by kernel_rfl)) ?_
        refine Wl.val rfl rfl rfl (Gives.move rfl rfl) ?_
        refine Wl.call rfl rfl rfl rfl Tryd.func20 rfl (by kernel_rfl) rfl (recoverP _ (hT.ext hE) A4 6 c4 d4 hD (by omega) (fun l hl => by have := hL4 l hl; omega) base) ?_
        rintro x11 w212 ⟨S7, m7, k7', rfl, hO7, hx11⟩
        refine ⟨_, rfl, ?_⟩
        replace hD := hD.ext hx11
        replace hb16 := hb16.ext hx11
        replace hE := hE.trans hx11
        refine Wl.val rfl rfl rfl (Gives.move rfl rfl) ?_
        refine Wl.val rfl rfl rfl (Gives.extract rfl rfl rfl) ?_
        refine Wl.val rfl rfl rfl (Gives.extract rfl rfl rfl) ?_
        refine Wl.val rfl rfl rfl (Gives.extract rfl rfl rfl) ?_
        refine Wl.val rfl rfl rfl (Gives.assign rfl rfl) ?_
        refine Wl.val rfl rfl rfl (Gives.assign rfl rfl) ?_
        refine Wl.val rfl rfl rfl (Gives.assign rfl rfl) ?_
        refine Wl.nil ?_
        refine Wx.thenN (hK24 _ _ ?_)
        refine Wc.seq (fun K25 hK25 => ?_)
        refine Wc.keep [(1, _), (16, _), (29, _)] (.cons rfl (.cons rfl (.cons rfl (.nil)))) ?_
        refine Wc.region ?_
        refine Wl.val rfl rfl rfl (Gives.ldW rfl (by kernel_rfl) rfl hb16 (by kernel_rfl)) ?_
        refine Wl.val rfl rfl rfl (Gives.move rfl rfl) ?_
        refine Wl.call rfl rfl rfl rfl Tryd.func21 rfl (by kernel_rfl) rfl (recover15 _ A4 6 c4 d4 hD (by omega) (fun l hl => by have := hL4 l hl; omega) base) ?_
        rintro x12 w222 ⟨S8, m8, k8', rfl, hO8, hx12⟩
        refine ⟨_, rfl, ?_⟩
        replace hb16 := hb16.ext hx12
        replace hE := hE.trans hx12
        refine Wl.val rfl rfl rfl (Gives.move rfl rfl) ?_
        refine Wl.val rfl rfl rfl (Gives.extract rfl rfl rfl) ?_
        refine Wl.val rfl rfl rfl (Gives.extract rfl rfl rfl) ?_
        refine Wl.val rfl rfl rfl (Gives.extract rfl rfl rfl) ?_
        refine Wl.val rfl rfl rfl (Gives.assign rfl rfl) ?_
        refine Wl.val rfl rfl rfl (Gives.assign rfl rfl) ?_
        refine Wl.val rfl rfl rfl (Gives.assign rfl rfl) ?_
        refine Wl.nil ?_
        refine Wx.thenN (hK25 _ _ ?_)
        refine Wc.seq (fun K26 hK26 => ?_)
        refine Wc.keep [(29, _), (32, _)] (.cons rfl (.cons rfl (.nil))) ?_
        refine Wc.region ?_
        refine Wl.val rfl rfl rfl (Gives.move rfl rfl) ?_
        refine Wl.val rfl rfl rfl (Gives.move rfl rfl) ?_
        refine Wl.val rfl rfl rfl (Gives.eql rfl rfl rfl) ?_
        refine Wl.val rfl rfl rfl (Gives.assign rfl rfl) ?_
        refine Wl.nil ?_
        refine Wx.thenN (hK26 _ _ ?_)
        refine Wc.ret ?_
        refine Wx.ret [_] ⟨rfl, trivial⟩ ?_
        exact ⟨ret_bool (by simp), hE⟩
  · (first | replace h38 := of_decide_eq_true h38 | replace h38 := nd_true h38 | skip)
    refine Wl.pass rfl rfl rfl ?_
    refine Wl.pass rfl rfl rfl ?_
    refine Wl.pass rfl rfl rfl ?_
    refine Wl.val rfl rfl rfl (Gives.pickT rfl rfl rfl rfl) ?_
    refine Wl.nil ?_
    refine Wx.thenN (hK5 _ _ ?_)
    refine Wc.condT rfl rfl ?_
    refine Wc.seq (fun K27 hK27 => ?_)
    refine Wc.keep [] (.nil) ?_
    refine Wc.region ?_
    refine Wl.val rfl rfl rfl (Gives.assign rfl rfl) ?_
    refine Wl.nil ?_
    refine Wx.thenN (hK27 _ _ ?_)
    refine Wc.ret ?_
    refine Wx.thenR ?_
    refine Wx.ret [_] ⟨rfl, trivial⟩ ?_
    exact ⟨ret_bool (by simp), hE⟩
end Go.Proofs.YtbbeoojlgfegjaaDoor
