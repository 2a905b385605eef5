/- Chains decoded, by both. -/
import Derived.Test.YteppchoeiflnhaaDoorImgV
namespace Go.Proofs.YteppchoeiflnhaaDoor
set_option linter.all false
set_option maxRecDepth 20000
open Go.RowKit
theorem dI_ok {l : List UInt8} (h : decE l = 0) : imgB (decI l) = l ∧ imgE (decI l) = 0 := by
  unfold decE at h
  split at h
  · rename_i hk
    unfold decI
    rw [if_pos hk]
    refine ⟨enc_dec hk, ?_⟩
    unfold decOk at hk
    simp only [Bool.and_eq_true, decide_eq_true_eq] at hk
    exact hk.2
  · cases h
theorem dI_enc {x : Im} (h : imgE x = 0) : decE (imgB x) = 0 ∧ decI (imgB x) = x := by
  unfold decE decI
  rw [if_pos (dec_enc h).1, if_pos (dec_enc h).1]
  exact ⟨rfl, (dec_enc h).2⟩
theorem rdUint_nn (r : Rd) (k : Int) : 0 ≤ (rdUint r k).2 := by
  unfold rdUint
  repeat' split
  all_goals first | exact Int.le_refl _ | exact Int.natCast_nonneg _
structure Pd (b : List UInt8) (r : Rd) (acc : List Im) (n : Int) : Prop where
  fwd : ∀ l', chainE l' = 0 → chB l' = b → acc = l'.take acc.length ∧ n = (l'.length : Int) ∧ At r (chT (l'.drop acc.length))
  bwd : r.e = 0 → b = beS n 1 ++ (chT acc ++ rest r) ∧ 0 ≤ n ∧ n < 256
  ok : ∀ x ∈ acc, imgE x = 0
theorem Pd.start (b : List UInt8) : Pd b (rdUint ⟨b, 0, 0⟩ 1).1 [] (rdUint ⟨b, 0, 0⟩ 1).2 := by
  refine ⟨fun l' hl hb => ?_, fun he => ?_, by simp⟩
  · obtain ⟨⟨h1, h8⟩, _⟩ := chain_ok hl
    have hA : At ⟨b, 0, 0⟩ (beS ((l'.length : Nat) : Int) 1 ++ chT l') := ⟨rfl, by show b.drop 0 = _; rw [List.drop_zero, ← hb, chB_eq hl]⟩
    obtain ⟨r', e1, a1⟩ := rdUint_at l'.length 1 (by decide) (by decide) (by omega) (by omega) hA
    have e1' : rdUint ⟨b, 0, 0⟩ 1 = (r', (l'.length : Int)) := e1
    rw [e1']
    exact ⟨by simp, rfl, a1⟩
  · obtain ⟨_, v, q, hv, hr⟩ := rdUint_inv (s := 1) (by decide) (by decide) (show (rdUint ⟨b, 0, 0⟩ ((1 : Nat) : Int)).1.e = 0 from he)
    have q' : (rdUint ⟨b, 0, 0⟩ 1).2 = (v : Int) := q
    have hr' : b = beS ((v : Nat) : Int) 1 ++ rest (rdUint ⟨b, 0, 0⟩ 1).1 := hr
    rw [q']
    exact ⟨hr', by omega, by omega⟩
theorem chT_app (a b : List Im) : chT (a ++ b) = chT a ++ chT b := by unfold chT; rw [List.flatMap_append]
theorem chT_one (x : Im) : chT [x] = blobT (imgB x) := by unfold chT; simp
theorem chT_cons (x : Im) (r : List Im) : chT (x :: r) = blobT (imgB x) ++ chT r := rfl
theorem Pd.key {b : List UInt8} {r : Rd} {acc : List Im} {n : Int} (h : Pd b r acc n) (hlt : (acc.length : Int) < n) {most : Int} (hm : 200 ≤ most ∨ most = (b.length : Int)) {l' : List Im} (hl : chainE l' = 0) (hb : chB l' = b) :
    ∃ y, (rdBlob r most).2 = imgB y ∧ imgE y = 0 ∧ l'[acc.length]? = some y ∧ At (rdBlob r most).1 (chT (l'.drop (acc.length + 1))) := by
  obtain ⟨h1, h2, h3⟩ := h.fwd l' hl hb
  have hk : acc.length < l'.length := by omega
  have hy := getD_im hk
  generalize l'.getD acc.length noIm = y at hy
  have hye := (chain_ok hl).2.2.2 y (List.mem_of_getElem? hy)
  have hy85 := imgB_le y
  rw [drop_im hy, chT_cons] at h3
  have hlen : (imgB y).length ≤ b.length := by
    have e : chT l' = chT (l'.take acc.length) ++ chT (l'.drop acc.length) := by rw [← chT_app, List.take_append_drop]
    rw [← hb, chB_eq hl, e, drop_im hy, chT_cons, List.length_append, List.length_append, List.length_append, blobT_len]
    omega
  obtain ⟨r', e, a⟩ := rdBlob_at (imgB y) most (by omega) (by omega) h3
  rw [e]
  exact ⟨y, rfl, hye, hy, a⟩
theorem Pd.next {b : List UInt8} {r : Rd} {acc : List Im} {n : Int} (h : Pd b r acc n) (hlt : (acc.length : Int) < n) (most : Int) (hm : 200 ≤ most ∨ most = (b.length : Int)) (hd : decE (rdBlob r most).2 = 0) : Pd b (rdBlob r most).1 (acc ++ [decI (rdBlob r most).2]) n := by
  refine ⟨fun l' hl hb => ?_, fun he => ?_, fun x hx => ?_⟩
  · obtain ⟨y, h1, h2, h3, h4⟩ := h.key hlt hm hl hb
    obtain ⟨f1, f2, _⟩ := h.fwd l' hl hb
    rw [h1, (dI_enc h2).2, List.length_append, List.length_singleton]
    refine ⟨?_, f2, h4⟩
    conv => lhs; rw [f1]
    exact take_im h3
  · obtain ⟨e0, _, _, hr⟩ := rdBlob_inv he
    obtain ⟨hb, h0, h1⟩ := h.bwd e0
    refine ⟨?_, h0, h1⟩
    rw [chT_app, chT_one, (dI_ok hd).1, List.append_assoc, ← hr]
    exact hb
  · rcases List.mem_append.1 hx with hx | hx
    · exact h.ok x hx
    · rw [List.mem_singleton.1 hx]; exact (dI_ok hd).2
theorem Pd.bad {b : List UInt8} {r : Rd} {acc : List Im} {n : Int} (h : Pd b r acc n) (hlt : (acc.length : Int) < n) (most : Int) (hm : 200 ≤ most ∨ most = (b.length : Int)) (hd : decE (rdBlob r most).2 ≠ 0) : ∀ l', chainE l' = 0 → chB l' ≠ b := fun l' hl hb => by
  obtain ⟨y, h1, h2, _⟩ := h.key hlt hm hl hb
  rw [h1] at hd
  exact hd (dI_enc h2).1
theorem Pd.done {b : List UInt8} {r : Rd} {acc : List Im} {n : Int} (h : Pd b r acc n) (hex : r.e = 0 → (acc.length : Int) = n) (hend : rdEnd r = 0) (hc : chainE acc = 0) : chB acc = b := by
  obtain ⟨he, hr⟩ := end_zero hend
  obtain ⟨hb, _, _⟩ := h.bwd he
  rw [chB_eq hc, hb, hr, List.append_nil, hex he]
theorem Pd.fail {b : List UInt8} {r : Rd} {acc : List Im} {n : Int} (h : Pd b r acc n) (hex : r.e = 0 → (acc.length : Int) = n) (hne : ¬ (rdEnd r = 0 ∧ chainE acc = 0)) : ∀ l', chainE l' = 0 → chB l' ≠ b := fun l' hl hb => by
  obtain ⟨h1, h2, h3⟩ := h.fwd l' hl hb
  have h4 := hex h3.e
  have h5 : acc.length = l'.length := by omega
  rw [h5, List.take_length] at h1
  rw [h5, List.drop_length] at h3
  exact hne ⟨end_at h3, by rw [h1]; exact hl⟩
theorem Pd.long {b : List UInt8} {r : Rd} {acc : List Im} {n : Int} (h : Pd b r acc n) (hn : 8 < n) : ∀ l', chainE l' = 0 → chB l' ≠ b := fun l' hl hb => by
  obtain ⟨_, h2, _⟩ := h.fwd l' hl hb
  have := (chain_ok hl).1
  omega
def DCR (w : World) (b : List UInt8) (e : Ending) (w' : World) : Prop := ∃ S m k l z, e = .returned (.tuple #[.slice S m k, .int .i64 z]) ∧ SL Rp.img w' (fun _ => True) S m k l ∧ Ext w w' ∧ ((z = 0 ∧ chainE l = 0 ∧ chB l = b) ∨ (z = 30 ∧ l = [] ∧ ∀ l', chainE l' = 0 → chB l' ≠ b))
theorem DCR.no {w w' : World} {b : List UInt8} (h : ∀ l', chainE l' = 0 → chB l' ≠ b) (hE : Ext w w') : DCR w b (.returned (resV [.slice none 0 0, .int .i64 30])) w' := ⟨none, 0, 0, [], 30, rfl, SL.nil_ _ _ _, hE, .inr ⟨rfl, rfl, h⟩⟩
theorem DCR.yes {w w' : World} {b : List UInt8} {S : Option Addr} {m k : Nat} {l : List Im} (hs : SL Rp.img w' (fun _ => True) S m k l) (hc : chainE l = 0) (hb : chB l = b) (hE : Ext w w') : DCR w b (.returned (resV [.slice S m k, .int .i64 0])) w' := ⟨S, m, k, l, 0, rfl, hs, hE, .inl ⟨rfl, hc, hb⟩⟩
/-- two answers to the same bytes are alike -/
theorem dc_same {b : List UInt8} {l1 l2 : List Im} {z1 z2 : Int} (h1 : (z1 = 0 ∧ chainE l1 = 0 ∧ chB l1 = b) ∨ (z1 = 30 ∧ l1 = [] ∧ ∀ l', chainE l' = 0 → chB l' ≠ b)) (h2 : (z2 = 0 ∧ chainE l2 = 0 ∧ chB l2 = b) ∨ (z2 = 30 ∧ l2 = [] ∧ ∀ l', chainE l' = 0 → chB l' ≠ b)) : z1 = z2 ∧ l1 = l2 := by
  rcases h1 with ⟨a1, a2, a3⟩ | ⟨a1, a2, a3⟩ <;> rcases h2 with ⟨b1, b2, b3⟩ | ⟨b1, b2, b3⟩
  · exact ⟨by omega, chB_inj a2 b2 (a3.trans b3.symm)⟩
  · exact absurd a3 (b3 _ a2)
  · exact absurd b3 (a3 _ b2)
  · exact ⟨by omega, by rw [a2, b2]⟩
set_option maxRecDepth 20000 in
set_option maxHeartbeats 2000000 in
theorem decChainP {P : Nat → Prop} (w : World) (A : Option Addr) (n c : Nat) (b : List UInt8) (ha : BV w P A n c b) (hn : n ≤ 1000000) :
    Calls Tryd.prog 41 #[.slice A n c] w (DCR w b) := by
  have hl := ha.len
  have hn0 := rdUint_nn ⟨b, 0, 0⟩ 1
  have hrb := rdUint_b ⟨b, 0, 0⟩ 1
  have hP0 := Pd.start b
  refine calls_enter Tryd.func41 rfl Tryd.ntmps41 rfl ?_
  have hE : Ext w w := Ext.refl w
  refine Wc.seq (fun K1 hK1 => ?_)
  refine Wc.keep [(0, _)] (.cons rfl (.nil)) ?_
  refine Wc.region ?_
  refine Wl.val rfl rfl rfl (Gives.assign rfl rfl) ?_
  refine Wl.val rfl rfl rfl (Gives.assign rfl rfl) ?_
  refine Wl.nil ?_
  refine Wx.thenN (hK1 _ _ ?_)
  refine Wc.seq (fun K2 hK2 => ?_)
  refine Wc.keep [(0, _)] (.cons rfl (.nil)) ?_
  refine Wc.region ?_
  refine Wl.val rfl rfl rfl (Gives.move rfl rfl) ?_
  refine Wl.call rfl rfl rfl rfl Tryd.func53 rfl (by kernel_rfl) rfl ((newP_rd _ _ _ _ b (ha.ext hE) (by omega)).mono fun _ _ h => NewRd.x h) ?_
  rintro x1 w11 ⟨g, A', n', c', rfl, hg, hR, hx1⟩
  refine ⟨_, rfl, ?_⟩
  have hgg : w.heap.size ≤ g := Nat.le_trans hE.size hg
  generalize hN : w11.heap.size = N at *
  have hgN : g < N := hR.lt
  replace hE := hE.trans hx1
  refine Wl.val rfl rfl rfl (Gives.assign rfl rfl) ?_
  refine Wl.nil ?_
  refine Wx.thenN (hK2 _ _ ?_)
  refine Wc.seq (fun K3 hK3 => ?_)
  refine Wc.keep [(0, _), (4, _)] (.cons rfl (.cons rfl (.nil))) ?_
  refine Wc.region ?_
  refine Wl.val rfl rfl rfl (Gives.assign rfl rfl) ?_
  refine Wl.nil ?_
  refine Wx.thenN (hK3 _ _ ?_)
  refine Wc.seq (fun K4 hK4 => ?_)
  refine Wc.seq (fun K5 hK5 => ?_)
  refine Wc.keep [(0, _), (4, _), (5, _)] (.cons rfl (.cons rfl (.cons rfl (.nil)))) ?_
  refine Wc.region ?_
  refine Wl.val rfl rfl rfl (Gives.move rfl rfl) ?_
  refine Wl.call rfl rfl rfl rfl Tryd.func54 rfl (by kernel_rfl) rfl ((rUint_x _ g _ A' n' c' _ 1 hR).mono (R' := UintX 94 _ g N A' n' c' (rdUint ⟨b, 0, 0⟩ 1)) fun _ _ h => h) ?_
  rintro x2 w31 ⟨rfl, hR1, hF1⟩
  refine ⟨_, rfl, ?_⟩
  have hN31 := hF1.size
  generalize rdUint ⟨b, 0, 0⟩ 1 = q at *
  obtain ⟨r0, n0⟩ := q
  simp only at hR1 hn0 hrb hP0
  replace hE := Ext.over hE hF1 hgg
  refine Wl.val rfl rfl rfl (Gives.assign rfl rfl) ?_
  refine Wl.nil ?_
  refine Wx.thenN (hK5 _ _ ?_)
  refine Wc.block ?_
  refine Wc.keep [(0, _), (4, _), (5, _), (6, _)] (.cons rfl (.cons rfl (.cons rfl (.cons rfl (.nil))))) ?_
  refine Wc.loopC (ι := Rd × Int × (Option Addr × Nat × Nat) × List Im) [(0, _), (4, _)] (fun | (r, z, (S, m, k), acc) => [(6, .int .i64 z), (5, .slice S m k)]) (fun | (r, z, (S, m, k), acc), wr => Pd b r acc n0 ∧ z = n0 - (m : Int) ∧ 0 ≤ z ∧ r.b = b ∧ RDX 94 wr g N A' n' c' r ∧ ImO wr N S m k acc ∧ N ≤ wr.heap.size ∧ Ext w wr) (fun | (_, z, _) => z.toNat) ((r0, n0, (none, 0, 0), [])) (.cons (by first | exact rfl | exact look_int rfl (by omega) | exact look_slice rfl (by omega)) (.cons (by first | exact rfl | exact look_int rfl (by omega) | exact look_slice rfl (by omega)) (.cons rfl (.cons rfl (.nil))))) (⟨hP0, by simp, hn0, hrb, hR1, ImO.nil_ _ _, by omega, hE⟩) ?_
  intro ⟨r, z, ⟨S, m, k⟩, acc⟩ wr hJ KL1 hKL1
  clear hE hR1 hP0
  obtain ⟨hP, hz, hz0, hb, hR, hIO, hNw, hE⟩ := hJ
  have hacc := hIO.len
  refine Wc.seq (fun K6 hK6 => ?_)
  refine Wc.seq (fun K7 hK7 => ?_)
  refine Wc.keep [(0, _), (4, _), (5, _), (6, _)] (.cons rfl (.cons rfl (.cons rfl (.cons rfl (.nil))))) ?_
  refine Wc.region ?_
  refine Wl.val rfl rfl rfl (Gives.move rfl rfl) ?_
  refine Wl.val rfl rfl rfl (Gives.gtr rfl rfl rfl) ?_
  refine Wl.val rfl rfl rfl (Gives.move rfl rfl) ?_
  refine Wl.guard rfl rfl rfl (fun h15 => ?_) (fun h15 => ?_)
  · (first | replace h15 := of_decide_eq_true h15 | replace h15 := nd_true h15 | skip)
    refine Wl.val rfl rfl rfl (Gives.move rfl rfl) ?_
    refine Wl.call rfl rfl rfl rfl Tryd.func69 rfl (by kernel_rfl) rfl (rErr_x _ g N A' n' c' r hR) ?_
    rintro x3 w44 ⟨rfl, rfl⟩
    refine ⟨_, rfl, ?_⟩
    refine Wl.val rfl rfl rfl (Gives.eql rfl rfl rfl) ?_
    refine Wl.val rfl rfl rfl (Gives.pickT rfl rfl rfl rfl) ?_
    refine Wl.nil ?_
    refine Wx.thenN (hK7 _ _ ?_)
    refine Wc.cond _ rfl (fun h19 => ?_) (fun h19 => ?_)
    · (first | replace h19 := of_decide_eq_true h19 | replace h19 := nd_true h19 | skip)
      refine Wc.skip ?_
      refine Wx.thenN (hK6 _ _ ?_)
      refine Wc.seq (fun K8 hK8 => ?_)
      refine Wc.block ?_
      refine Wc.seq (fun K9 hK9 => ?_)
      refine Wc.keep [(0, _), (4, _), (5, _), (6, _)] (.cons rfl (.cons rfl (.cons rfl (.cons rfl (.nil))))) ?_
      have hre : r.e = 0 := by first | exact h19 | simpa using h19
      have hn256 := (hP.bwd hre).2.2
      have hbl := rdBlob_le r (n : Int)
      have hbb := rdBlob_b r (n : Int)
      rw [hb] at hbl
      refine Wc.region ?_
      refine Wl.val rfl rfl rfl (Gives.move rfl rfl) ?_
      refine Wl.val rfl rfl rfl (Gives.move rfl rfl) ?_
      refine Wl.val rfl rfl rfl (Gives.lenS rfl Tryd.underlying22 rfl) ?_
      refine Wl.call rfl rfl rfl rfl Tryd.func55 rfl (by kernel_rfl) rfl (rBlob_x _ g _ A' n' c' r (n : Int) hR) ?_
      rintro x4 w63 ⟨S3, m3, k3, rfl, hO3, hR3, hF3⟩
      refine ⟨_, rfl, ?_⟩
      have hm3 := hO3.len
      have hN63 := hF3.size
      replace hIO := hIO.fr hF3 (fun q hq => by omega)
      have hrl := hIO.lt
      replace hE := Ext.over hE hF3 hgg
      refine Wl.call rfl rfl rfl rfl Tryd.func26 rfl (by kernel_rfl) rfl (decP _ S3 m3 k3 _ (hO3.bv (P := fun _ => True) fun _ _ => trivial) (by omega)) ?_
      rintro x5 w64 ⟨S4, m4, k4, rfl, hO4, hx64⟩
      refine ⟨_, rfl, ?_⟩
      replace hIO := hIO.ext hx64
      replace hR3 := hR3.ext hx64
      have hP1 : BV w64 (fun q => w63.heap.size ≤ q) S4 m4 k4 (decI (rdBlob r (n : Int)).2).pay := hO4.bv fun _ h => h
      have hN64 := hx64.size
      replace hE := hE.trans hx64
      refine Wl.val rfl rfl rfl (Gives.move rfl rfl) ?_
      refine Wl.val rfl rfl rfl (Gives.extract rfl rfl rfl) ?_
      refine Wl.val rfl rfl rfl (Gives.extract rfl rfl rfl) ?_
      refine Wl.does rfl rfl rfl (Does.alB (.agg #[(.int .i64 0), (.string ByteArray.empty), (.int .i64 0), (.slice none 0 0)]) rfl (by kernel_rfl) rfl) ?_
      rintro _ w6_8 ⟨b7, rfl, hs7, hb7, hx6_8⟩
      have hg7 : w.heap.size ≤ b7 := Nat.le_trans hE.size hs7
      replace hE := hE.trans hx6_8
      refine Wl.acts rfl rfl (Does.stL 4 rfl rfl rfl hb7 (by kernel_rfl) rfl rfl rfl) ?_
      rintro _ w6_9 ⟨hbn, hF6_9⟩
      replace hE := Ext.over hE hF6_9 hg7
      replace hb7 := hbn
      clear hbn
      have hx7 := Ext.over hx6_8 hF6_9 hs7
      replace hIO := hIO.ext hx7
      replace hP1 := hP1.ext hx7
      replace hR3 := hR3.ext hx7
      have hz7 := hx7.size
      refine Wl.val rfl rfl rfl (Gives.assign rfl rfl) ?_
      refine Wl.nil ?_
      refine Wx.thenN (hK9 _ _ ?_)
      refine Wc.seq (fun K10 hK10 => ?_)
      refine Wc.seq (fun K11 hK11 => ?_)
      refine Wc.keep [(0, _), (4, _), (5, _), (6, _), (7, _), (8, _)] (.cons rfl (.cons rfl (.cons rfl (.cons rfl (.cons rfl (.cons rfl (.nil))))))) ?_
      refine Wc.region ?_
      refine Wl.val rfl rfl rfl (Gives.move rfl rfl) ?_
      refine Wl.val rfl rfl rfl (Gives.neq rfl rfl rfl) ?_
      refine Wl.nil ?_
      refine Wx.thenN (hK11 _ _ ?_)
      refine Wc.cond _ rfl (fun h31 => ?_) (fun h31 => ?_)
      · (first | replace h31 := of_decide_eq_true h31 | replace h31 := nd_true h31 | skip)
        refine Wc.seq (fun K12 hK12 => ?_)
        refine Wc.keep [] (.nil) ?_
        refine Wc.region ?_
        refine Wl.val rfl rfl rfl (Gives.assign rfl rfl) ?_
        refine Wl.val rfl rfl rfl (Gives.assign rfl rfl) ?_
        refine Wl.nil ?_
        refine Wx.thenN (hK12 _ _ ?_)
        refine Wc.ret ?_
        refine Wx.thenR ?_
        refine Wx.blockR ?_
        refine Wx.thenR ?_
        refine Wx.thenR ?_
        refine Wx.blockR ?_
        refine Wx.thenR ?_
        refine Wx.ret [_, _] ⟨rfl, ⟨rfl, trivial⟩⟩ ?_
        first | exact DCR.no (hP.bad (by omega) _ (.inr (by omega)) h31) hE | exact DCR.yes (hIO.sl fun _ _ => trivial) h43 (hP.done hex h39 h43) hE | exact DCR.no (hP.fail hex (fun hh => by first | exact h39 hh.1 | exact h43 hh.2)) hE
      · (first | replace h31 := of_decide_eq_false h31 | replace h31 := nd_false h31 | skip)
        refine Wc.skip ?_
        refine Wx.thenN (hK10 _ _ ?_)
        refine Wc.keep [(0, _), (4, _), (5, _), (6, _), (7, _)] (.cons rfl (.cons rfl (.cons rfl (.cons rfl (.cons rfl (.nil)))))) ?_
        refine Wc.region ?_
        refine Wl.val rfl rfl rfl (Gives.move rfl rfl) ?_
        refine Wl.val rfl rfl rfl (Gives.ldW rfl (by kernel_rfl) rfl hb7 (by kernel_rfl)) ?_
        refine Wl.does rfl rfl rfl (Does.lit1 4 rfl Tryd.underlying52 infoI2 rfl rfl rfl) ?_
        rintro _ w92 ⟨g92, rfl, hs92, hk92, hx92⟩
        replace hIO := hIO.ext hx92
        replace hP1 := hP1.ext hx92
        replace hR3 := hR3.ext hx92
        have hz92 := hx92.size
        replace hb7 := hb7.ext hx92
        replace hE := hE.trans hx92
        have hln : BV w92 (NOwn w92 (fun k => N ≤ k) (.slice S m k)) S4 m4 k4 (decI (rdBlob r (n : Int)).2).pay := hP1.bd.mono fun q hq => ⟨by omega, hq.2, fun he => by have := hrl q he; omega⟩
        refine Wl.does rfl rfl rfl (Does.appIO rfl rfl rfl hIO hk92 hln (by omega) (by omega)) ?_
        rintro _ w93 ⟨B2, sc2, rfl, hIO2, hB93⟩
        have hR4 := hR3.fr (below_fr hB93) (fun q hq => hq)
        have hz93 := hB93.size
        replace hE := Ext.step hE hB93 (by omega)
        refine Wl.val rfl rfl rfl (Gives.assign rfl rfl) ?_
        refine Wl.nil ?_
        refine Wx.blockN ?_
        refine Wx.thenN (hK8 _ _ ?_)
        refine Wc.keep [(0, _), (4, _), (5, _), (6, _)] (.cons rfl (.cons rfl (.cons rfl (.cons rfl (.nil))))) ?_
        refine Wc.region ?_
        refine Wl.val rfl rfl rfl (Gives.move rfl rfl) ?_
        refine Wl.val rfl rfl rfl (Gives.sub rfl rfl rfl (by first | exact IntWalk.i64_in _ (by omega) | exact u64_in _ (by omega) | exact u32_in _ (by omega) | exact u8_in _ (by omega) | exact rfl)) ?_
        refine Wl.val rfl rfl rfl (Gives.assign rfl rfl) ?_
        refine Wl.nil ?_
        refine Wx.thenN ?_
        have hde : decE (rdBlob r (n : Int)).2 = 0 := h31
        exact hKL1 ((rdBlob r (n : Int)).1, z - 1, (B2, m + 1, sc2), acc ++ [decI (rdBlob r (n : Int)).2]) _ _ (.cons (by first | exact rfl | exact look_int rfl (by omega) | exact look_slice rfl (by omega)) (.cons (by first | exact rfl | exact look_int rfl (by omega) | exact look_slice rfl (by omega)) (.cons rfl (.cons rfl (.nil))))) ⟨hP.next (by omega) _ (.inr (by omega)) hde, by omega, by omega, by rw [hbb, hb], hR4, hIO2, by omega, hE⟩ (by show (z - 1).toNat < z.toNat; omega)
    · (first | replace h19 := of_decide_eq_false h19 | replace h19 := nd_false h19 | skip)
      refine Wc.exit ?_
      refine Wx.thenE ?_
      refine Wx.thenE ?_
      refine Wx.hit ?_
      refine Wx.thenN (hK4 _ _ ?_)
      refine Wc.seq (fun K13 hK13 => ?_)
      refine Wc.seq (fun K14 hK14 => ?_)
      refine Wc.keep [(4, _), (5, _)] (.cons rfl (.cons rfl (.nil))) ?_
      have hex : r.e = 0 → (acc.length : Int) = n0 := fun he => by first | omega | (exfalso; exact h19 he)
      refine Wc.region ?_
      refine Wl.val rfl rfl rfl (Gives.move rfl rfl) ?_
      refine Wl.call rfl rfl rfl rfl Tryd.func56 rfl (by kernel_rfl) rfl (rEnd_x _ g _ A' n' c' _ hR) ?_
      rintro x6 w101 ⟨rfl, hq101⟩
      refine ⟨_, rfl, ?_⟩
      replace hIO := hIO.ext hq101.ext
      replace hE := hE.trans hq101.ext
      refine Wl.val rfl rfl rfl (Gives.neq rfl rfl rfl) ?_
      refine Wl.val rfl rfl rfl (Gives.move rfl rfl) ?_
      refine Wl.guard rfl rfl rfl (fun h39 => ?_) (fun h39 => ?_)
      · (first | replace h39 := of_decide_eq_false h39 | replace h39 := nd_false h39 | skip)
        refine Wl.val rfl rfl rfl (Gives.move rfl rfl) ?_
        refine Wl.call rfl rfl rfl rfl Tryd.func37 rfl (by kernel_rfl) rfl (chainP _ S m k acc (hIO.sl (P := fun _ => True) fun _ _ => trivial)) ?_
        rintro x7 w105 ⟨rfl, hx105⟩
        refine ⟨_, rfl, ?_⟩
        replace hIO := hIO.ext hx105
        replace hE := hE.trans hx105
        refine Wl.val rfl rfl rfl (Gives.neq rfl rfl rfl) ?_
        refine Wl.val rfl rfl rfl (Gives.pickF rfl rfl rfl rfl) ?_
        refine Wl.nil ?_
        refine Wx.thenN (hK14 _ _ ?_)
        refine Wc.cond _ rfl (fun h43 => ?_) (fun h43 => ?_)
        · (first | replace h43 := of_decide_eq_true h43 | replace h43 := nd_true h43 | skip)
          refine Wc.seq (fun K15 hK15 => ?_)
          refine Wc.keep [] (.nil) ?_
          refine Wc.region ?_
          refine Wl.val rfl rfl rfl (Gives.assign rfl rfl) ?_
          refine Wl.val rfl rfl rfl (Gives.assign rfl rfl) ?_
          refine Wl.nil ?_
          refine Wx.thenN (hK15 _ _ ?_)
          refine Wc.ret ?_
          refine Wx.thenR ?_
          refine Wx.ret [_, _] ⟨rfl, ⟨rfl, trivial⟩⟩ ?_
          first | exact DCR.no (hP.bad (by omega) _ (.inr (by omega)) h31) hE | exact DCR.yes (hIO.sl fun _ _ => trivial) h43 (hP.done hex h39 h43) hE | exact DCR.no (hP.fail hex (fun hh => by first | exact h39 hh.1 | exact h43 hh.2)) hE
        · (first | replace h43 := of_decide_eq_false h43 | replace h43 := nd_false h43 | skip)
          refine Wc.skip ?_
          refine Wx.thenN (hK13 _ _ ?_)
          refine Wc.seq (fun K16 hK16 => ?_)
          refine Wc.keep [(5, _)] (.cons rfl (.nil)) ?_
          refine Wc.region ?_
          refine Wl.val rfl rfl rfl (Gives.move rfl rfl) ?_
          refine Wl.val rfl rfl rfl (Gives.assign rfl rfl) ?_
          refine Wl.val rfl rfl rfl (Gives.assign rfl rfl) ?_
          refine Wl.nil ?_
          refine Wx.thenN (hK16 _ _ ?_)
          refine Wc.ret ?_
          refine Wx.ret [_, _] ⟨rfl, ⟨rfl, trivial⟩⟩ ?_
          first | exact DCR.no (hP.bad (by omega) _ (.inr (by omega)) h31) hE | exact DCR.yes (hIO.sl fun _ _ => trivial) h43 (hP.done hex h39 h43) hE | exact DCR.no (hP.fail hex (fun hh => by first | exact h39 hh.1 | exact h43 hh.2)) hE
      · (first | replace h39 := of_decide_eq_true h39 | replace h39 := nd_true h39 | skip)
        refine Wl.pass rfl rfl rfl ?_
        refine Wl.pass rfl rfl rfl ?_
        refine Wl.pass rfl rfl rfl ?_
        refine Wl.val rfl rfl rfl (Gives.pickT rfl rfl rfl rfl) ?_
        refine Wl.nil ?_
        refine Wx.thenN (hK14 _ _ ?_)
        refine Wc.condT rfl rfl ?_
        refine Wc.seq (fun K17 hK17 => ?_)
        refine Wc.keep [] (.nil) ?_
        refine Wc.region ?_
        refine Wl.val rfl rfl rfl (Gives.assign rfl rfl) ?_
        refine Wl.val rfl rfl rfl (Gives.assign rfl rfl) ?_
        refine Wl.nil ?_
        refine Wx.thenN (hK17 _ _ ?_)
        refine Wc.ret ?_
        refine Wx.thenR ?_
        refine Wx.ret [_, _] ⟨rfl, ⟨rfl, trivial⟩⟩ ?_
        first | exact DCR.no (hP.bad (by omega) _ (.inr (by omega)) h31) hE | exact DCR.yes (hIO.sl fun _ _ => trivial) h43 (hP.done hex h39 h43) hE | exact DCR.no (hP.fail hex (fun hh => by first | exact h39 hh.1 | exact h43 hh.2)) hE
  · (first | replace h15 := of_decide_eq_false h15 | replace h15 := nd_false h15 | skip)
    refine Wl.pass rfl rfl rfl ?_
    refine Wl.pass rfl rfl rfl ?_
    refine Wl.pass rfl rfl rfl ?_
    refine Wl.val rfl rfl rfl (Gives.pickF rfl rfl rfl rfl) ?_
    refine Wl.nil ?_
    refine Wx.thenN (hK7 _ _ ?_)
    refine Wc.condF rfl rfl ?_
    refine Wc.exit ?_
    refine Wx.thenE ?_
    refine Wx.thenE ?_
    refine Wx.hit ?_
    refine Wx.thenN (hK4 _ _ ?_)
    refine Wc.seq (fun K18 hK18 => ?_)
    refine Wc.seq (fun K19 hK19 => ?_)
    refine Wc.keep [(4, _), (5, _)] (.cons rfl (.cons rfl (.nil))) ?_
    have hex : r.e = 0 → (acc.length : Int) = n0 := fun he => by first | omega | (exfalso; exact h19 he)
    refine Wc.region ?_
    refine Wl.val rfl rfl rfl (Gives.move rfl rfl) ?_
    refine Wl.call rfl rfl rfl rfl Tryd.func56 rfl (by kernel_rfl) rfl (rEnd_x _ g _ A' n' c' _ hR) ?_
    rintro x6 w101 ⟨rfl, hq101⟩
    refine ⟨_, rfl, ?_⟩
    replace hIO := hIO.ext hq101.ext
    replace hE := hE.trans hq101.ext
    refine Wl.val rfl rfl rfl (Gives.neq rfl rfl rfl) ?_
    refine Wl.val rfl rfl rfl (Gives.move rfl rfl) ?_
    refine Wl.guard rfl rfl rfl (fun h39 => ?_) (fun h39 => ?_)
    · (first | replace h39 := of_decide_eq_false h39 | replace h39 := nd_false h39 | skip)
      refine Wl.val rfl rfl rfl (Gives.move rfl rfl) ?_
      refine Wl.call rfl rfl rfl rfl Tryd.func37 rfl (by kernel_rfl) rfl (chainP _ S m k acc (hIO.sl (P := fun _ => True) fun _ _ => trivial)) ?_
      rintro x7 w105 ⟨rfl, hx105⟩
      refine ⟨_, rfl, ?_⟩
      replace hIO := hIO.ext hx105
      replace hE := hE.trans hx105
      refine Wl.val rfl rfl rfl (Gives.neq rfl rfl rfl) ?_
      refine Wl.val rfl rfl rfl (Gives.pickF rfl rfl rfl rfl) ?_
      refine Wl.nil ?_
      refine Wx.thenN (hK19 _ _ ?_)
      refine Wc.cond _ rfl (fun h43 => ?_) (fun h43 => ?_)
      · (first | replace h43 := of_decide_eq_true h43 | replace h43 := nd_true h43 | skip)
        refine Wc.seq (fun K20 hK20 => ?_)
        refine Wc.keep [] (.nil) ?_
        refine Wc.region ?_
        refine Wl.val rfl rfl rfl (Gives.assign rfl rfl) ?_
        refine Wl.val rfl rfl rfl (Gives.assign rfl rfl) ?_
        refine Wl.nil ?_
        refine Wx.thenN (hK20 _ _ ?_)
        refine Wc.ret ?_
        refine Wx.thenR ?_
        refine Wx.ret [_, _] ⟨rfl, ⟨rfl, trivial⟩⟩ ?_
        first | exact DCR.no (hP.bad (by omega) _ (.inr (by omega)) h31) hE | exact DCR.yes (hIO.sl fun _ _ => trivial) h43 (hP.done hex h39 h43) hE | exact DCR.no (hP.fail hex (fun hh => by first | exact h39 hh.1 | exact h43 hh.2)) hE
      · (first | replace h43 := of_decide_eq_false h43 | replace h43 := nd_false h43 | skip)
        refine Wc.skip ?_
        refine Wx.thenN (hK18 _ _ ?_)
        refine Wc.seq (fun K21 hK21 => ?_)
        refine Wc.keep [(5, _)] (.cons rfl (.nil)) ?_
        refine Wc.region ?_
        refine Wl.val rfl rfl rfl (Gives.move rfl rfl) ?_
        refine Wl.val rfl rfl rfl (Gives.assign rfl rfl) ?_
        refine Wl.val rfl rfl rfl (Gives.assign rfl rfl) ?_
        refine Wl.nil ?_
        refine Wx.thenN (hK21 _ _ ?_)
        refine Wc.ret ?_
        refine Wx.ret [_, _] ⟨rfl, ⟨rfl, trivial⟩⟩ ?_
        first | exact DCR.no (hP.bad (by omega) _ (.inr (by omega)) h31) hE | exact DCR.yes (hIO.sl fun _ _ => trivial) h43 (hP.done hex h39 h43) hE | exact DCR.no (hP.fail hex (fun hh => by first | exact h39 hh.1 | exact h43 hh.2)) hE
    · (first | replace h39 := of_decide_eq_true h39 | replace h39 := nd_true h39 | skip)
      refine Wl.pass rfl rfl rfl ?_
      refine Wl.pass rfl rfl rfl ?_
      refine Wl.pass rfl rfl rfl ?_
      refine Wl.val rfl rfl rfl (Gives.pickT rfl rfl rfl rfl) ?_
      refine Wl.nil ?_
      refine Wx.thenN (hK19 _ _ ?_)
      refine Wc.condT rfl rfl ?_
      refine Wc.seq (fun K22 hK22 => ?_)
      refine Wc.keep [] (.nil) ?_
      refine Wc.region ?_
      refine Wl.val rfl rfl rfl (Gives.assign rfl rfl) ?_
      refine Wl.val rfl rfl rfl (Gives.assign rfl rfl) ?_
      refine Wl.nil ?_
      refine Wx.thenN (hK22 _ _ ?_)
      refine Wc.ret ?_
      refine Wx.thenR ?_
      refine Wx.ret [_, _] ⟨rfl, ⟨rfl, trivial⟩⟩ ?_
      first | exact DCR.no (hP.bad (by omega) _ (.inr (by omega)) h31) hE | exact DCR.yes (hIO.sl fun _ _ => trivial) h43 (hP.done hex h39 h43) hE | exact DCR.no (hP.fail hex (fun hh => by first | exact h39 hh.1 | exact h43 hh.2)) hE
set_option maxRecDepth 20000 in
set_option maxHeartbeats 2000000 in
theorem decChainR {P : Nat → Prop} (w : World) (A : Option Addr) (n c : Nat) (b : List UInt8) (ha : BV w P A n c b) (hn : n ≤ 1000000) :
    Calls Tryd.prog 43 #[.slice A n c] w (DCR w b) := by
  have hl := ha.len
  have hn0 := rdUint_nn ⟨b, 0, 0⟩ 1
  have hrb := rdUint_b ⟨b, 0, 0⟩ 1
  have hP0 := Pd.start b
  refine calls_enter Tryd.func43 rfl Tryd.ntmps43 rfl ?_
  have hE : Ext w w := Ext.refl w
  refine Wc.seq (fun K1 hK1 => ?_)
  refine Wc.keep [(0, _)] (.cons rfl (.nil)) ?_
  refine Wc.region ?_
  refine Wl.val rfl rfl rfl (Gives.assign rfl rfl) ?_
  refine Wl.val rfl rfl rfl (Gives.assign rfl rfl) ?_
  refine Wl.nil ?_
  refine Wx.thenN (hK1 _ _ ?_)
  refine Wc.seq (fun K2 hK2 => ?_)
  refine Wc.keep [(0, _)] (.cons rfl (.nil)) ?_
  refine Wc.region ?_
  refine Wl.val rfl rfl rfl (Gives.move rfl rfl) ?_
  refine Wl.call rfl rfl rfl rfl Tryd.func59 rfl (by kernel_rfl) rfl ((newR_rd _ _ _ _ b (ha.ext hE) (by omega)).mono fun _ _ h => NewRd.x h) ?_
  rintro x1 w11 ⟨g, A', n', c', rfl, hg, hR, hx1⟩
  refine ⟨_, rfl, ?_⟩
  have hgg : w.heap.size ≤ g := Nat.le_trans hE.size hg
  generalize hN : w11.heap.size = N at *
  have hgN : g < N := hR.lt
  replace hE := hE.trans hx1
  refine Wl.val rfl rfl rfl (Gives.assign rfl rfl) ?_
  refine Wl.nil ?_
  refine Wx.thenN (hK2 _ _ ?_)
  refine Wc.seq (fun K3 hK3 => ?_)
  refine Wc.keep [(4, _)] (.cons rfl (.nil)) ?_
  refine Wc.region ?_
  refine Wl.val rfl rfl rfl (Gives.move rfl rfl) ?_
  refine Wl.call rfl rfl rfl rfl Tryd.func60 rfl (by kernel_rfl) rfl ((sUint_x _ g _ A' n' c' _ 1 hR).mono (R' := UintX 100 _ g N A' n' c' (rdUint ⟨b, 0, 0⟩ 1)) fun _ _ h => h) ?_
  rintro x2 w31 ⟨rfl, hR1, hF1⟩
  refine ⟨_, rfl, ?_⟩
  have hN31 := hF1.size
  generalize rdUint ⟨b, 0, 0⟩ 1 = q at *
  obtain ⟨r0, n0⟩ := q
  simp only at hR1 hn0 hrb hP0
  replace hE := Ext.over hE hF1 hgg
  refine Wl.val rfl rfl rfl (Gives.assign rfl rfl) ?_
  refine Wl.nil ?_
  refine Wx.thenN (hK3 _ _ ?_)
  refine Wc.seq (fun K4 hK4 => ?_)
  refine Wc.keep [(4, _), (5, _)] (.cons rfl (.cons rfl (.nil))) ?_
  refine Wc.region ?_
  refine Wl.val rfl rfl rfl (Gives.assign rfl rfl) ?_
  refine Wl.nil ?_
  refine Wx.thenN (hK4 _ _ ?_)
  refine Wc.seq (fun K5 hK5 => ?_)
  refine Wc.seq (fun K6 hK6 => ?_)
  refine Wc.keep [(4, _), (5, _), (6, _)] (.cons rfl (.cons rfl (.cons rfl (.nil)))) ?_
  refine Wc.region ?_
  refine Wl.val rfl rfl rfl (Gives.assign rfl rfl) ?_
  refine Wl.nil ?_
  refine Wx.thenN (hK6 _ _ ?_)
  refine Wc.block ?_
  refine Wc.keep [(4, _), (5, _), (6, _), (7, _)] (.cons rfl (.cons rfl (.cons rfl (.cons rfl (.nil))))) ?_
  refine Wc.loopC (ι := Rd × (Option Addr × Nat × Nat) × List Im) [(4, _), (5, _)] (fun | (r, (S, m, k), acc) => [(7, .int .i64 (m : Int)), (6, .slice S m k)]) (fun | (r, (S, m, k), acc), wr => Pd b r acc n0 ∧ (m : Int) ≤ n0 ∧ m ≤ 9 ∧ r.b = b ∧ RDX 100 wr g N A' n' c' r ∧ ImO wr N S m k acc ∧ N ≤ wr.heap.size ∧ Ext w wr) (fun | (_, (_, m, _), _) => 9 - m) ((r0, (none, 0, 0), [])) (.cons (by first | exact rfl | exact look_int rfl (by omega) | exact look_slice rfl (by omega)) (.cons (by first | exact rfl | exact look_int rfl (by omega) | exact look_slice rfl (by omega)) (.cons rfl (.cons rfl (.nil))))) (⟨hP0, hn0, by omega, hrb, hR1, ImO.nil_ _ _, by omega, hE⟩) ?_
  intro ⟨r, ⟨S, m, k⟩, acc⟩ wr hJ KL1 hKL1
  clear hE hR1 hP0
  obtain ⟨hP, hz, hz0, hb, hR, hIO, hNw, hE⟩ := hJ
  have hacc := hIO.len
  refine Wc.seq (fun K7 hK7 => ?_)
  refine Wc.seq (fun K8 hK8 => ?_)
  refine Wc.keep [(4, _), (5, _), (6, _), (7, _)] (.cons rfl (.cons rfl (.cons rfl (.cons rfl (.nil))))) ?_
  refine Wc.region ?_
  refine Wl.val rfl rfl rfl (Gives.move rfl rfl) ?_
  refine Wl.val rfl rfl rfl (Gives.move rfl rfl) ?_
  refine Wl.val rfl rfl rfl (Gives.lss rfl rfl rfl) ?_
  refine Wl.val rfl rfl rfl (Gives.move rfl rfl) ?_
  refine Wl.guard rfl rfl rfl (fun h17 => ?_) (fun h17 => ?_)
  · (first | replace h17 := of_decide_eq_true h17 | replace h17 := nd_true h17 | skip)
    refine Wl.val rfl rfl rfl (Gives.move rfl rfl) ?_
    refine Wl.val rfl rfl rfl (Gives.leq rfl rfl rfl) ?_
    refine Wl.val rfl rfl rfl (Gives.pickT rfl rfl rfl rfl) ?_
    refine Wl.nil ?_
    refine Wx.thenN (hK8 _ _ ?_)
    refine Wc.cond _ rfl (fun h20 => ?_) (fun h20 => ?_)
    · (first | replace h20 := of_decide_eq_true h20 | replace h20 := nd_true h20 | skip)
      refine Wc.skip ?_
      refine Wx.thenN (hK7 _ _ ?_)
      refine Wc.seq (fun K9 hK9 => ?_)
      refine Wc.block ?_
      refine Wc.seq (fun K10 hK10 => ?_)
      refine Wc.keep [(4, _), (5, _), (6, _), (7, _)] (.cons rfl (.cons rfl (.cons rfl (.cons rfl (.nil))))) ?_
      have hbl := rdBlob_le r 200
      have hbb := rdBlob_b r 200
      rw [hb] at hbl
      refine Wc.region ?_
      refine Wl.val rfl rfl rfl (Gives.move rfl rfl) ?_
      refine Wl.call rfl rfl rfl rfl Tryd.func61 rfl (by kernel_rfl) rfl (sBlob_x _ g _ A' n' c' r 200 hR) ?_
      rintro x4 w63 ⟨S3, m3, k3, rfl, hO3, hR3, hF3⟩
      refine ⟨_, rfl, ?_⟩
      have hm3 := hO3.len
      have hN63 := hF3.size
      replace hIO := hIO.fr hF3 (fun q hq => by omega)
      have hrl := hIO.lt
      replace hE := Ext.over hE hF3 hgg
      refine Wl.call rfl rfl rfl rfl Tryd.func30 rfl (by kernel_rfl) rfl (decR _ S3 m3 k3 _ (hO3.bv (P := fun _ => True) fun _ _ => trivial) (by omega)) ?_
      rintro x5 w64 ⟨S4, m4, k4, rfl, hO4, hx64⟩
      refine ⟨_, rfl, ?_⟩
      replace hIO := hIO.ext hx64
      replace hR3 := hR3.ext hx64
      have hP1 : BV w64 (fun q => w63.heap.size ≤ q) S4 m4 k4 (decI (rdBlob r 200).2).pay := hO4.bv fun _ h => h
      have hN64 := hx64.size
      replace hE := hE.trans hx64
      refine Wl.val rfl rfl rfl (Gives.move rfl rfl) ?_
      refine Wl.val rfl rfl rfl (Gives.extract rfl rfl rfl) ?_
      refine Wl.val rfl rfl rfl (Gives.extract rfl rfl rfl) ?_
      refine Wl.does rfl rfl rfl (Does.alB (.agg #[(.int .i64 0), (.string ByteArray.empty), (.int .i64 0), (.slice none 0 0)]) rfl (by kernel_rfl) rfl) ?_
      rintro _ w7_6 ⟨b8, rfl, hs8, hb8, hx7_6⟩
      have hg8 : w.heap.size ≤ b8 := Nat.le_trans hE.size hs8
      replace hE := hE.trans hx7_6
      refine Wl.acts rfl rfl (Does.stL 4 rfl rfl rfl hb8 (by kernel_rfl) rfl rfl rfl) ?_
      rintro _ w7_7 ⟨hbn, hF7_7⟩
      replace hE := Ext.over hE hF7_7 hg8
      replace hb8 := hbn
      clear hbn
      have hx7 := Ext.over hx7_6 hF7_7 hs8
      replace hIO := hIO.ext hx7
      replace hP1 := hP1.ext hx7
      replace hR3 := hR3.ext hx7
      have hz7 := hx7.size
      refine Wl.val rfl rfl rfl (Gives.assign rfl rfl) ?_
      refine Wl.nil ?_
      refine Wx.thenN (hK10 _ _ ?_)
      refine Wc.seq (fun K11 hK11 => ?_)
      refine Wc.seq (fun K12 hK12 => ?_)
      refine Wc.keep [(4, _), (5, _), (6, _), (7, _), (8, _), (9, _)] (.cons rfl (.cons rfl (.cons rfl (.cons rfl (.cons rfl (.cons rfl (.nil))))))) ?_
      refine Wc.region ?_
      refine Wl.val rfl rfl rfl (Gives.move rfl rfl) ?_
      refine Wl.val rfl rfl rfl (Gives.neq rfl rfl rfl) ?_
      refine Wl.nil ?_
      refine Wx.thenN (hK12 _ _ ?_)
      refine Wc.cond _ rfl (fun h31 => ?_) (fun h31 => ?_)
      · (first | replace h31 := of_decide_eq_true h31 | replace h31 := nd_true h31 | skip)
        refine Wc.seq (fun K13 hK13 => ?_)
        refine Wc.keep [] (.nil) ?_
        refine Wc.region ?_
        refine Wl.val rfl rfl rfl (Gives.assign rfl rfl) ?_
        refine Wl.val rfl rfl rfl (Gives.assign rfl rfl) ?_
        refine Wl.nil ?_
        refine Wx.thenN (hK13 _ _ ?_)
        refine Wc.ret ?_
        refine Wx.thenR ?_
        refine Wx.blockR ?_
        refine Wx.thenR ?_
        refine Wx.thenR ?_
        refine Wx.blockR ?_
        refine Wx.thenR ?_
        refine Wx.ret [_, _] ⟨rfl, ⟨rfl, trivial⟩⟩ ?_
        first | exact DCR.no (hP.bad (by omega) _ (.inl (by omega)) h31) hE | exact DCR.no (hP.long (by omega)) hE | exact DCR.yes (hIO.sl fun _ _ => trivial) h46 (hP.done (fun _ => by omega) h42 h46) hE | exact DCR.no (hP.fail (fun _ => by omega) (fun hh => by first | exact h42 hh.1 | exact h46 hh.2)) hE
      · (first | replace h31 := of_decide_eq_false h31 | replace h31 := nd_false h31 | skip)
        refine Wc.skip ?_
        refine Wx.thenN (hK11 _ _ ?_)
        refine Wc.keep [(4, _), (5, _), (6, _), (7, _), (8, _)] (.cons rfl (.cons rfl (.cons rfl (.cons rfl (.cons rfl (.nil)))))) ?_
        refine Wc.region ?_
        refine Wl.val rfl rfl rfl (Gives.move rfl rfl) ?_
        refine Wl.val rfl rfl rfl (Gives.ldW rfl (by kernel_rfl) rfl hb8 (by kernel_rfl)) ?_
        refine Wl.does rfl rfl rfl (Does.lit1 4 rfl Tryd.underlying52 infoI2 rfl rfl rfl) ?_
        rintro _ w92 ⟨g92, rfl, hs92, hk92, hx92⟩
        replace hIO := hIO.ext hx92
        replace hP1 := hP1.ext hx92
        replace hR3 := hR3.ext hx92
        have hz92 := hx92.size
        replace hb8 := hb8.ext hx92
        replace hE := hE.trans hx92
        have hln : BV w92 (NOwn w92 (fun k => N ≤ k) (.slice S m k)) S4 m4 k4 (decI (rdBlob r 200).2).pay := hP1.bd.mono fun q hq => ⟨by omega, hq.2, fun he => by have := hrl q he; omega⟩
        refine Wl.does rfl rfl rfl (Does.appIO rfl rfl rfl hIO hk92 hln (by omega) (by omega)) ?_
        rintro _ w93 ⟨B2, sc2, rfl, hIO2, hB93⟩
        have hR4 := hR3.fr (below_fr hB93) (fun q hq => hq)
        have hz93 := hB93.size
        replace hE := Ext.step hE hB93 (by omega)
        refine Wl.val rfl rfl rfl (Gives.assign rfl rfl) ?_
        refine Wl.nil ?_
        refine Wx.blockN ?_
        refine Wx.thenN (hK9 _ _ ?_)
        refine Wc.keep [(4, _), (5, _), (6, _), (7, _)] (.cons rfl (.cons rfl (.cons rfl (.cons rfl (.nil))))) ?_
        refine Wc.region ?_
        refine Wl.val rfl rfl rfl (Gives.move rfl rfl) ?_
        refine Wl.val rfl rfl rfl (Gives.add rfl rfl rfl (by first | exact IntWalk.i64_in _ (by omega) | exact u64_in _ (by omega) | exact u32_in _ (by omega) | exact u8_in _ (by omega) | exact rfl)) ?_
        refine Wl.val rfl rfl rfl (Gives.assign rfl rfl) ?_
        refine Wl.nil ?_
        refine Wx.thenN ?_
        have hde : decE (rdBlob r 200).2 = 0 := h31
        exact hKL1 ((rdBlob r 200).1, (B2, m + 1, sc2), acc ++ [decI (rdBlob r 200).2]) _ _ (.cons (by first | exact rfl | exact look_int rfl (by omega) | exact look_slice rfl (by omega)) (.cons (by first | exact rfl | exact look_int rfl (by omega) | exact look_slice rfl (by omega)) (.cons rfl (.cons rfl (.nil))))) ⟨hP.next (by omega) _ (.inl (by omega)) hde, by omega, by omega, by rw [hbb, hb], hR4, hIO2, by omega, hE⟩ (by show 9 - (m + 1) < 9 - m; omega)
    · (first | replace h20 := of_decide_eq_false h20 | replace h20 := nd_false h20 | skip)
      refine Wc.exit ?_
      refine Wx.thenE ?_
      refine Wx.thenE ?_
      refine Wx.hit ?_
      refine Wx.thenN (hK5 _ _ ?_)
      refine Wc.seq (fun K14 hK14 => ?_)
      refine Wc.seq (fun K15 hK15 => ?_)
      refine Wc.keep [(4, _), (5, _), (6, _)] (.cons rfl (.cons rfl (.cons rfl (.nil)))) ?_
      have hmn : (m : Int) = n0 ∨ 8 < n0 := by omega
      refine Wc.region ?_
      refine Wl.val rfl rfl rfl (Gives.move rfl rfl) ?_
      refine Wl.val rfl rfl rfl (Gives.gtr rfl rfl rfl) ?_
      refine Wl.val rfl rfl rfl (Gives.move rfl rfl) ?_
      refine Wl.guard rfl rfl rfl (fun h37 => ?_) (fun h37 => ?_)
      · (first | replace h37 := of_decide_eq_false h37 | replace h37 := nd_false h37 | skip)
        refine Wl.val rfl rfl rfl (Gives.move rfl rfl) ?_
        refine Wl.call rfl rfl rfl rfl Tryd.func62 rfl (by kernel_rfl) rfl (sEnd_x _ g _ A' n' c' _ hR) ?_
        rintro x6 w101 ⟨rfl, hq101⟩
        refine ⟨_, rfl, ?_⟩
        replace hIO := hIO.ext hq101.ext
        replace hE := hE.trans hq101.ext
        refine Wl.val rfl rfl rfl (Gives.neq rfl rfl rfl) ?_
        refine Wl.val rfl rfl rfl (Gives.pickF rfl rfl rfl rfl) ?_
        refine Wl.val rfl rfl rfl (Gives.move rfl rfl) ?_
        refine Wl.guard rfl rfl rfl (fun h42 => ?_) (fun h42 => ?_)
        · (first | replace h42 := of_decide_eq_false h42 | replace h42 := nd_false h42 | skip)
          refine Wl.val rfl rfl rfl (Gives.move rfl rfl) ?_
          refine Wl.call rfl rfl rfl rfl Tryd.func38 rfl (by kernel_rfl) rfl (chainR _ S m k acc (hIO.sl (P := fun _ => True) fun _ _ => trivial)) ?_
          rintro x7 w105 ⟨rfl, hx105⟩
          refine ⟨_, rfl, ?_⟩
          replace hIO := hIO.ext hx105
          replace hE := hE.trans hx105
          refine Wl.val rfl rfl rfl (Gives.neq rfl rfl rfl) ?_
          refine Wl.val rfl rfl rfl (Gives.pickF rfl rfl rfl rfl) ?_
          refine Wl.nil ?_
          refine Wx.thenN (hK15 _ _ ?_)
          refine Wc.cond _ rfl (fun h46 => ?_) (fun h46 => ?_)
          · (first | replace h46 := of_decide_eq_true h46 | replace h46 := nd_true h46 | skip)
            refine Wc.seq (fun K16 hK16 => ?_)
            refine Wc.keep [] (.nil) ?_
            refine Wc.region ?_
            refine Wl.val rfl rfl rfl (Gives.assign rfl rfl) ?_
            refine Wl.val rfl rfl rfl (Gives.assign rfl rfl) ?_
            refine Wl.nil ?_
            refine Wx.thenN (hK16 _ _ ?_)
            refine Wc.ret ?_
            refine Wx.thenR ?_
            refine Wx.ret [_, _] ⟨rfl, ⟨rfl, trivial⟩⟩ ?_
            first | exact DCR.no (hP.bad (by omega) _ (.inl (by omega)) h31) hE | exact DCR.no (hP.long (by omega)) hE | exact DCR.yes (hIO.sl fun _ _ => trivial) h46 (hP.done (fun _ => by omega) h42 h46) hE | exact DCR.no (hP.fail (fun _ => by omega) (fun hh => by first | exact h42 hh.1 | exact h46 hh.2)) hE
          · (first | replace h46 := of_decide_eq_false h46 | replace h46 := nd_false h46 | skip)
            refine Wc.skip ?_
            refine Wx.thenN (hK14 _ _ ?_)
            refine Wc.seq (fun K17 hK17 => ?_)
            refine Wc.keep [(6, _)] (.cons rfl (.nil)) ?_
            refine Wc.region ?_
            refine Wl.val rfl rfl rfl (Gives.move rfl rfl) ?_
            refine Wl.val rfl rfl rfl (Gives.assign rfl rfl) ?_
            refine Wl.val rfl rfl rfl (Gives.assign rfl rfl) ?_
            refine Wl.nil ?_
            refine Wx.thenN (hK17 _ _ ?_)
            refine Wc.ret ?_
            refine Wx.ret [_, _] ⟨rfl, ⟨rfl, trivial⟩⟩ ?_
            first | exact DCR.no (hP.bad (by omega) _ (.inl (by omega)) h31) hE | exact DCR.no (hP.long (by omega)) hE | exact DCR.yes (hIO.sl fun _ _ => trivial) h46 (hP.done (fun _ => by omega) h42 h46) hE | exact DCR.no (hP.fail (fun _ => by omega) (fun hh => by first | exact h42 hh.1 | exact h46 hh.2)) hE
        · (first | replace h42 := of_decide_eq_true h42 | replace h42 := nd_true h42 | skip)
          refine Wl.pass rfl rfl rfl ?_
          refine Wl.pass rfl rfl rfl ?_
          refine Wl.pass rfl rfl rfl ?_
          refine Wl.val rfl rfl rfl (Gives.pickT rfl rfl rfl rfl) ?_
          refine Wl.nil ?_
          refine Wx.thenN (hK15 _ _ ?_)
          refine Wc.condT rfl rfl ?_
          refine Wc.seq (fun K18 hK18 => ?_)
          refine Wc.keep [] (.nil) ?_
          refine Wc.region ?_
          refine Wl.val rfl rfl rfl (Gives.assign rfl rfl) ?_
          refine Wl.val rfl rfl rfl (Gives.assign rfl rfl) ?_
          refine Wl.nil ?_
          refine Wx.thenN (hK18 _ _ ?_)
          refine Wc.ret ?_
          refine Wx.thenR ?_
          refine Wx.ret [_, _] ⟨rfl, ⟨rfl, trivial⟩⟩ ?_
          first | exact DCR.no (hP.bad (by omega) _ (.inl (by omega)) h31) hE | exact DCR.no (hP.long (by omega)) hE | exact DCR.yes (hIO.sl fun _ _ => trivial) h46 (hP.done (fun _ => by omega) h42 h46) hE | exact DCR.no (hP.fail (fun _ => by omega) (fun hh => by first | exact h42 hh.1 | exact h46 hh.2)) hE
      · (first | replace h37 := of_decide_eq_true h37 | replace h37 := nd_true h37 | skip)
        refine Wl.pass rfl rfl rfl ?_
        refine Wl.pass rfl rfl rfl ?_
        refine Wl.pass rfl rfl rfl ?_
        refine Wl.val rfl rfl rfl (Gives.pickT rfl rfl rfl rfl) ?_
        refine Wl.val rfl rfl rfl (Gives.move rfl rfl) ?_
        refine Wl.guardF rfl rfl rfl rfl ?_
        refine Wl.pass rfl rfl rfl ?_
        refine Wl.pass rfl rfl rfl ?_
        refine Wl.pass rfl rfl rfl ?_
        refine Wl.val rfl rfl rfl (Gives.pickT rfl rfl rfl rfl) ?_
        refine Wl.nil ?_
        refine Wx.thenN (hK15 _ _ ?_)
        refine Wc.condT rfl rfl ?_
        refine Wc.seq (fun K19 hK19 => ?_)
        refine Wc.keep [] (.nil) ?_
        refine Wc.region ?_
        refine Wl.val rfl rfl rfl (Gives.assign rfl rfl) ?_
        refine Wl.val rfl rfl rfl (Gives.assign rfl rfl) ?_
        refine Wl.nil ?_
        refine Wx.thenN (hK19 _ _ ?_)
        refine Wc.ret ?_
        refine Wx.thenR ?_
        refine Wx.ret [_, _] ⟨rfl, ⟨rfl, trivial⟩⟩ ?_
        first | exact DCR.no (hP.bad (by omega) _ (.inl (by omega)) h31) hE | exact DCR.no (hP.long (by omega)) hE | exact DCR.yes (hIO.sl fun _ _ => trivial) h46 (hP.done (fun _ => by omega) h42 h46) hE | exact DCR.no (hP.fail (fun _ => by omega) (fun hh => by first | exact h42 hh.1 | exact h46 hh.2)) hE
  · (first | replace h17 := of_decide_eq_false h17 | replace h17 := nd_false h17 | skip)
    refine Wl.pass rfl rfl rfl ?_
    refine Wl.pass rfl rfl rfl ?_
    refine Wl.val rfl rfl rfl (Gives.pickF rfl rfl rfl rfl) ?_
    refine Wl.nil ?_
    refine Wx.thenN (hK8 _ _ ?_)
    refine Wc.condF rfl rfl ?_
    refine Wc.exit ?_
    refine Wx.thenE ?_
    refine Wx.thenE ?_
    refine Wx.hit ?_
    refine Wx.thenN (hK5 _ _ ?_)
    refine Wc.seq (fun K20 hK20 => ?_)
    refine Wc.seq (fun K21 hK21 => ?_)
    refine Wc.keep [(4, _), (5, _), (6, _)] (.cons rfl (.cons rfl (.cons rfl (.nil)))) ?_
    have hmn : (m : Int) = n0 ∨ 8 < n0 := by omega
    refine Wc.region ?_
    refine Wl.val rfl rfl rfl (Gives.move rfl rfl) ?_
    refine Wl.val rfl rfl rfl (Gives.gtr rfl rfl rfl) ?_
    refine Wl.val rfl rfl rfl (Gives.move rfl rfl) ?_
    refine Wl.guard rfl rfl rfl (fun h37 => ?_) (fun h37 => ?_)
    · (first | replace h37 := of_decide_eq_false h37 | replace h37 := nd_false h37 | skip)
      refine Wl.val rfl rfl rfl (Gives.move rfl rfl) ?_
      refine Wl.call rfl rfl rfl rfl Tryd.func62 rfl (by kernel_rfl) rfl (sEnd_x _ g _ A' n' c' _ hR) ?_
      rintro x6 w101 ⟨rfl, hq101⟩
      refine ⟨_, rfl, ?_⟩
      replace hIO := hIO.ext hq101.ext
      replace hE := hE.trans hq101.ext
      refine Wl.val rfl rfl rfl (Gives.neq rfl rfl rfl) ?_
      refine Wl.val rfl rfl rfl (Gives.pickF rfl rfl rfl rfl) ?_
      refine Wl.val rfl rfl rfl (Gives.move rfl rfl) ?_
      refine Wl.guard rfl rfl rfl (fun h42 => ?_) (fun h42 => ?_)
      · (first | replace h42 := of_decide_eq_false h42 | replace h42 := nd_false h42 | skip)
        refine Wl.val rfl rfl rfl (Gives.move rfl rfl) ?_
        refine Wl.call rfl rfl rfl rfl Tryd.func38 rfl (by kernel_rfl) rfl (chainR _ S m k acc (hIO.sl (P := fun _ => True) fun _ _ => trivial)) ?_
        rintro x7 w105 ⟨rfl, hx105⟩
        refine ⟨_, rfl, ?_⟩
        replace hIO := hIO.ext hx105
        replace hE := hE.trans hx105
        refine Wl.val rfl rfl rfl (Gives.neq rfl rfl rfl) ?_
        refine Wl.val rfl rfl rfl (Gives.pickF rfl rfl rfl rfl) ?_
        refine Wl.nil ?_
        refine Wx.thenN (hK21 _ _ ?_)
        refine Wc.cond _ rfl (fun h46 => ?_) (fun h46 => ?_)
        · (first | replace h46 := of_decide_eq_true h46 | replace h46 := nd_true h46 | skip)
          refine Wc.seq (fun K22 hK22 => ?_)
          refine Wc.keep [] (.nil) ?_
          refine Wc.region ?_
          refine Wl.val rfl rfl rfl (Gives.assign rfl rfl) ?_
          refine Wl.val rfl rfl rfl (Gives.assign rfl rfl) ?_
          refine Wl.nil ?_
          refine Wx.thenN (hK22 _ _ ?_)
          refine Wc.ret ?_
          refine Wx.thenR ?_
          refine Wx.ret [_, _] ⟨rfl, ⟨rfl, trivial⟩⟩ ?_
          first | exact DCR.no (hP.bad (by omega) _ (.inl (by omega)) h31) hE | exact DCR.no (hP.long (by omega)) hE | exact DCR.yes (hIO.sl fun _ _ => trivial) h46 (hP.done (fun _ => by omega) h42 h46) hE | exact DCR.no (hP.fail (fun _ => by omega) (fun hh => by first | exact h42 hh.1 | exact h46 hh.2)) hE
        · (first | replace h46 := of_decide_eq_false h46 | replace h46 := nd_false h46 | skip)
          refine Wc.skip ?_
          refine Wx.thenN (hK20 _ _ ?_)
          refine Wc.seq (fun K23 hK23 => ?_)
          refine Wc.keep [(6, _)] (.cons rfl (.nil)) ?_
          refine Wc.region ?_
          refine Wl.val rfl rfl rfl (Gives.move rfl rfl) ?_
          refine Wl.val rfl rfl rfl (Gives.assign rfl rfl) ?_
          refine Wl.val rfl rfl rfl (Gives.assign rfl rfl) ?_
          refine Wl.nil ?_
          refine Wx.thenN (hK23 _ _ ?_)
          refine Wc.ret ?_
          refine Wx.ret [_, _] ⟨rfl, ⟨rfl, trivial⟩⟩ ?_
          first | exact DCR.no (hP.bad (by omega) _ (.inl (by omega)) h31) hE | exact DCR.no (hP.long (by omega)) hE | exact DCR.yes (hIO.sl fun _ _ => trivial) h46 (hP.done (fun _ => by omega) h42 h46) hE | exact DCR.no (hP.fail (fun _ => by omega) (fun hh => by first | exact h42 hh.1 | exact h46 hh.2)) hE
      · (first | replace h42 := of_decide_eq_true h42 | replace h42 := nd_true h42 | skip)
        refine Wl.pass rfl rfl rfl ?_
        refine Wl.pass rfl rfl rfl ?_
        refine Wl.pass rfl rfl rfl ?_
        refine Wl.val rfl rfl rfl (Gives.pickT rfl rfl rfl rfl) ?_
        refine Wl.nil ?_
        refine Wx.thenN (hK21 _ _ ?_)
        refine Wc.condT rfl rfl ?_
        refine Wc.seq (fun K24 hK24 => ?_)
        refine Wc.keep [] (.nil) ?_
        refine Wc.region ?_
        refine Wl.val rfl rfl rfl (Gives.assign rfl rfl) ?_
        refine Wl.val rfl rfl rfl (Gives.assign rfl rfl) ?_
        refine Wl.nil ?_
        refine Wx.thenN (hK24 _ _ ?_)
        refine Wc.ret ?_
        refine Wx.thenR ?_
        refine Wx.ret [_, _] ⟨rfl, ⟨rfl, trivial⟩⟩ ?_
        first | exact DCR.no (hP.bad (by omega) _ (.inl (by omega)) h31) hE | exact DCR.no (hP.long (by omega)) hE | exact DCR.yes (hIO.sl fun _ _ => trivial) h46 (hP.done (fun _ => by omega) h42 h46) hE | exact DCR.no (hP.fail (fun _ => by omega) (fun hh => by first | exact h42 hh.1 | exact h46 hh.2)) hE
    · (first | replace h37 := of_decide_eq_true h37 | replace h37 := nd_true h37 | skip)
      refine Wl.pass rfl rfl rfl ?_
      refine Wl.pass rfl rfl rfl ?_
      refine Wl.pass rfl rfl rfl ?_
      refine Wl.val rfl rfl rfl (Gives.pickT rfl rfl rfl rfl) ?_
      refine Wl.val rfl rfl rfl (Gives.move rfl rfl) ?_
      refine Wl.guardF rfl rfl rfl rfl ?_
      refine Wl.pass rfl rfl rfl ?_
      refine Wl.pass rfl rfl rfl ?_
      refine Wl.pass rfl rfl rfl ?_
      refine Wl.val rfl rfl rfl (Gives.pickT rfl rfl rfl rfl) ?_
      refine Wl.nil ?_
      refine Wx.thenN (hK21 _ _ ?_)
      refine Wc.condT rfl rfl ?_
      refine Wc.seq (fun K25 hK25 => ?_)
      refine Wc.keep [] (.nil) ?_
      refine Wc.region ?_
      refine Wl.val rfl rfl rfl (Gives.assign rfl rfl) ?_
      refine Wl.val rfl rfl rfl (Gives.assign rfl rfl) ?_
      refine Wl.nil ?_
      refine Wx.thenN (hK25 _ _ ?_)
      refine Wc.ret ?_
      refine Wx.thenR ?_
      refine Wx.ret [_, _] ⟨rfl, ⟨rfl, trivial⟩⟩ ?_
      first | exact DCR.no (hP.bad (by omega) _ (.inl (by omega)) h31) hE | exact DCR.no (hP.long (by omega)) hE | exact DCR.yes (hIO.sl fun _ _ => trivial) h46 (hP.done (fun _ => by omega) h42 h46) hE | exact DCR.no (hP.fail (fun _ => by omega) (fun hh => by first | exact h42 hh.1 | exact h46 hh.2)) hE
end Go.Proofs.YteppchoeiflnhaaDoor
