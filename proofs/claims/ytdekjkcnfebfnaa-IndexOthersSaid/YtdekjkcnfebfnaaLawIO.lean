/- IndexOthers: the walk. -/
import Derived.Test.YtdekjkcnfebfnaaIdxA
import Derived.Test.YtdekjkcnfebfnaaIdxN2
namespace Go.Proofs.Ytdekjkcnfebfnaa
set_option linter.all false
open Go.RowKit
/-- What stands after both writes. -/
def othD (first data : List UInt8) (k : Nat) : List UInt8 := spliceB (spliceB (List.replicate 60 0) 0 first) k data
def othI (n : Nat) (auth pol : List UInt8) (d : List UInt8) (wr : Bool) : Ix := ⟨n, 1, 127, 60, pol, auth, wr, d⟩
theorem oth_new {n : Nat} (hn : n < 256) {an : Nat} (ha : an ≤ 32) {auth pol : List UInt8} (hal : auth.length = an) (hpl : pol.length = 32) : newE n 1 127 60 an 32 = 0 ∧ newI n 1 127 60 auth pol = othI n auth pol (List.replicate 60 0) false := by
  have hE : newE n 1 127 60 an 32 = 0 := newE_0 (badArg_ok (by omega) (by omega) (by decide) (.inr rfl)) (by omega) (by decide)
  exact ⟨hE, newI_0 hal hpl hE⟩
theorem oth_write {n : Nat} {auth pol d l : List UInt8} {wr : Bool} {k m : Nat} (hd : d.length = 60) (hl : l.length = m) (hk : k + m ≤ 60) : writeE' (othI n auth pol d wr) k m = 0 ∧ writeI' (othI n auth pol d wr) k l = othI n auth pol (spliceB d k l) true := by
  have hE : writeE' (othI n auth pol d wr) k m = 0 := by
    unfold writeE' othI
    rw [if_neg (by simp)]
    simp only [hd]
    rw [if_pos (by unfold insideS; simp; omega)]
  exact ⟨hE, by rw [writeI_0 hl hE]; simp [othI]⟩
theorem oth_read {n : Nat} {auth pol d : List UInt8} (hd : d.length = 60) : readE' (othI n auth pol d true) 0 60 = 0 ∧ readB' (othI n auth pol d true) 0 60 = d := by
  have hE : readE' (othI n auth pol d true) 0 60 = 0 := by
    unfold readE' othI
    rw [if_neg (by simp)]
    simp only [hd]
    decide
  refine ⟨hE, by rw [readB_0 hE]; simp only [othI]; rw [show (0 : Int).toNat = 0 from rfl, show (60 : Int).toNat = 60 from rfl, List.drop_zero, List.take_of_length_le (by omega)]⟩
theorem othD_len {first data : List UInt8} {k : Nat} (h1 : first.length ≤ 30) (h2 : k + data.length ≤ 60) : (othD first data k).length = 60 := by
  unfold othD
  rw [spliceB_len, spliceB_len] <;> (try rw [spliceB_len]) <;> simp <;> omega
theorem spliceB_at (l cs : List UInt8) (k i : Nat) (h : k + cs.length ≤ l.length) : (spliceB l k cs)[i]? = if k ≤ i ∧ i < k + cs.length then cs[i - k]? else l[i]? := by
  unfold spliceB
  rw [List.getElem?_append]
  by_cases h1 : i < (l.take k).length
  · rw [if_pos h1]
    rw [List.length_take] at h1
    rw [if_neg (by omega), List.getElem?_take, if_pos (by omega)]
  · rw [if_neg h1, List.getElem?_append]
    rw [List.length_take] at h1
    have hk : min k l.length = k := by omega
    rw [List.length_take, hk]
    by_cases h2 : i - k < cs.length
    · rw [if_pos h2, if_pos (by omega)]
    · rw [if_neg h2, if_neg (by omega), List.getElem?_drop]
      congr 1; omega
theorem othD_at {first data : List UInt8} {k i : Nat} (h1 : first.length ≤ 30) (h2 : k + data.length ≤ 60) (hi : i < 60) :
    (othD first data k)[i]? = if k ≤ i ∧ i < k + data.length then data[i - k]? else if i < first.length then first[i]? else some 0 := by
  unfold othD
  have hl : (spliceB (List.replicate 60 (0 : UInt8)) 0 first).length = 60 := by rw [spliceB_len _ _ _ (by simp; omega)]; simp
  rw [spliceB_at _ _ _ _ (by rw [hl]; exact h2), spliceB_at _ _ _ _ (by simp; omega)]
  by_cases h : k ≤ i ∧ i < k + data.length
  · rw [if_pos h, if_pos h]
  · rw [if_neg h, if_neg h]
    by_cases h3 : i < first.length
    · rw [if_pos (by omega), if_pos h3]; simp
    · rw [if_neg (by omega), if_neg h3, List.getElem?_replicate, if_pos hi]
set_option maxRecDepth 40000 in
set_option maxHeartbeats 8000000 in
theorem indexOthers_walk {P1 P2 P3 P4 : Nat → Prop} (w : World) (nn : UInt8) (A : Option Addr) (an ac : Nat) (auth : List UInt8) (ha : BV w P1 A an ac auth) (B : Option Addr) (pn pc : Nat) (pol : List UInt8) (hp : BV w P2 B pn pc pol)
    (F : Option Addr) (fn fc : Nat) (first : List UInt8) (hf : BV w P3 F fn fc first) (D : Option Addr) (m mc : Nat) (data : List UInt8) (hd : BV w P4 D m mc data) (oo : UInt8) :
    Calls Try.prog 6 #[.int .u8 (nn.toNat : Int), .slice A an ac, .slice B pn pc, .slice F fn fc, .slice D m mc, .int .u8 (oo.toNat : Int)] w fun e w' => e = .returned (.bool true) ∧ Ext w w' := by
  by_cases h1 : (32 : Int) < an
  · go_enter Try.func6, Try.ntmps6
    go_wp2_with (go_at_call 9; go_loud (refine (awake_calls w).mono ?_; rintro e w1 ⟨rfl, hE1⟩))
    go_ret
    exact ⟨rfl, hE1⟩
  by_cases h2 : (30 : Int) < fn
  · go_enter Try.func6, Try.ntmps6
    go_wp2_with (go_at_call 9; go_loud (refine (awake_calls w).mono ?_; rintro e w1 ⟨rfl, hE1⟩))
    go_ret
    exact ⟨rfl, hE1⟩
  by_cases h3 : (30 : Int) < m
  · go_enter Try.func6, Try.ntmps6
    go_wp2_with (go_at_call 9; go_loud (refine (awake_calls w).mono ?_; rintro e w1 ⟨rfl, hE1⟩))
    go_ret
    exact ⟨rfl, hE1⟩
  have hn := nn.toNat_lt
  generalize nn.toNat = n at *
  have ho := oo.toNat_lt
  generalize oo.toNat = o at *
  have HAL := Lib.hid ha.len
  have HFL := Lib.hid hf.len
  have HDL := Lib.hid hd.len
  go_enter Try.func6, Try.ntmps6
  go_upto_region 5 with (go_at_call 9; go_loud (refine (awake_calls w).mono ?_; rintro e w1 ⟨rfl, hE1⟩))
  go_wp2_with (go_at_call 11; go_loud (refine (seed_calls _ B pn pc pol (by refine BV.ext (by assumption) ?_; (with_reducible repeat (first | exact Ext.refl _ | refine Ext.alloc ?_ _ | refine Ext.drewN ?_ _ | refine Ext.trans ?_ (by assumption))))).mono ?_; rintro e w2 ⟨g2, rfl, hg2, hM2, hE2⟩))
  have hN := oth_new (n := n) (by omega) (an := an) (by omega) HAL.out (seedS_len pol)
  have HN := Lib.hid hN
  clear hN
  go_loud (refine (newP_calls w2 (n : Int) 1 127 60 A an ac auth (by refine BV.ext (by assumption) ?_; (with_reducible repeat (first | exact Ext.refl _ | refine Ext.alloc ?_ _ | refine Ext.drewN ?_ _ | refine Ext.trans ?_ (by assumption)))) (some ⟨g2, 0, none⟩) 32 32 (seedS pol) (hM2.bv (P := fun _ => True) trivial (seedS_len _) (Nat.le_refl _) (by omega))).mono ?_)
  rintro e w3 ⟨x3, e3, p3A, p3n, p3c, a3A, a3n, a3c, d3A, d3n, d3c, rfl, H3, hI3, hE3⟩
  obtain ⟨rfl, rfl⟩ : x3 = othI n auth (seedS pol) (List.replicate 60 0) false ∧ e3 = 0 := ⟨H3.out.1.trans HN.out.2, H3.out.2.trans HN.out.1⟩
  obtain rfl : 60 = d3n := hI3.2.2.len
  clear H3 HN
  go_upto_region 6 with fail
  refine wp_forget (fun w9 => Blk w9 w3.heap.size 28 #[.int .i64 (n : Nat), .int .i64 1, .int .i64 127, .int .i64 60, .slice p3A p3n p3c, .slice a3A a3n a3c, .bool false, .slice d3A 60 d3c] ∧ Ext w3 w9) ⟨Blk.new _ _ _, (by with_reducible repeat (first | exact Ext.refl _ | refine Ext.alloc ?_ _ | refine Ext.drewN ?_ _ | refine Ext.trans ?_ (by assumption)))⟩ ?_
  rintro w9 ⟨hk9, hE9⟩
  go_wp2_with ((with_reducible (show wpList _ _ _ (⟨_, Op.load _ _, _, _, _, _⟩ :: _) _ _)); refine wpList_ldB rfl _ _ rfl _ rfl (by refine Blk.ext (by assumption) ?_; (with_reducible repeat (first | exact Ext.refl _ | refine Ext.alloc ?_ _ | refine Ext.drewN ?_ _ | refine Ext.trans ?_ (by assumption)))) (by kernel_rfl) (by kernel_rfl) ?_)
  have hW := Lib.hid (oth_write (n := n) (auth := auth) (pol := seedS pol) (wr := false) (k := 0) (d := List.replicate 60 0) (by simp) HFL.out (by omega))
  go_loud (refine (writeP_calls w9 (othI n auth (seedS pol) (List.replicate 60 0) false) p3A p3n p3c a3A a3n a3c d3A 60 d3c (hI3.ext (by with_reducible repeat (first | exact Ext.refl _ | refine Ext.alloc ?_ _ | refine Ext.drewN ?_ _ | refine Ext.trans ?_ (by assumption)))) (by omega) 0 F fn fc first (by refine BV.ext (by assumption) ?_; (with_reducible repeat (first | exact Ext.refl _ | refine Ext.alloc ?_ _ | refine Ext.drewN ?_ _ | refine Ext.trans ?_ (by assumption)))) (by omega)).mono ?_)
  rintro e w4 ⟨x4, e4, p4A, p4n, p4c, a4A, a4n, a4c, d4A, d4n, d4c, rfl, H4, hI4, hE4⟩
  obtain ⟨rfl, rfl⟩ : x4 = othI n auth (seedS pol) (spliceB (List.replicate 60 0) 0 first) true ∧ e4 = 0 := ⟨H4.out.1.trans hW.out.2, H4.out.2.trans hW.out.1⟩
  have hl4 : (spliceB (List.replicate 60 0) 0 first).length = 60 := by rw [spliceB_len _ _ _ (by simp [HFL.out]; omega)]; simp
  obtain rfl : 60 = d4n := by have := hI4.2.2.len; rw [← this]; exact hl4.symm
  clear H4 hW
  go_upto_region 7 with fail
  refine wp_forget (fun w9' => Blk w9' w4.heap.size 28 #[.int .i64 (n : Nat), .int .i64 1, .int .i64 127, .int .i64 60, .slice p4A p4n p4c, .slice a4A a4n a4c, .bool true, .slice d4A 60 d4c] ∧ Ext w4 w9') ⟨Blk.new _ _ _, (by with_reducible repeat (first | exact Ext.refl _ | refine Ext.alloc ?_ _ | refine Ext.drewN ?_ _ | refine Ext.trans ?_ (by assumption)))⟩ ?_
  rintro w5 ⟨hk5, hE5⟩
  have hK : (o : Int) % 31 = ((o % 31 : Nat) : Int) := by omega
  have hk30 : o % 31 ≤ 30 := by omega
  go_upto_region 8 with fail
  simp only [hK]
  clear hK
  generalize o % 31 = k at *
  clear ho
  go_wp2_with ((with_reducible (show wpList _ _ _ (⟨_, Op.load _ _, _, _, _, _⟩ :: _) _ _)); refine wpList_ldB rfl _ _ rfl _ rfl (by refine Blk.ext (by assumption) ?_; (with_reducible repeat (first | exact Ext.refl _ | refine Ext.alloc ?_ _ | refine Ext.drewN ?_ _ | refine Ext.trans ?_ (by assumption)))) (by kernel_rfl) (by kernel_rfl) ?_)
  have hW := Lib.hid (oth_write (n := n) (auth := auth) (pol := seedS pol) (wr := true) (k := k) hl4 HDL.out (by omega))
  go_loud (refine (writeP_calls w5 (othI n auth (seedS pol) (spliceB (List.replicate 60 0) 0 first) true) p4A p4n p4c a4A a4n a4c d4A 60 d4c (hI4.ext (by with_reducible repeat (first | exact Ext.refl _ | refine Ext.alloc ?_ _ | refine Ext.drewN ?_ _ | refine Ext.trans ?_ (by assumption)))) (by omega) (k : Int) D m mc data (by refine BV.ext (by assumption) ?_; (with_reducible repeat (first | exact Ext.refl _ | refine Ext.alloc ?_ _ | refine Ext.drewN ?_ _ | refine Ext.trans ?_ (by assumption)))) (by omega)).mono ?_)
  rintro e w6 ⟨x6, e6, p6A, p6n, p6c, a6A, a6n, a6c, d6A, d6n, d6c, rfl, H6, hI6, hE6⟩
  obtain ⟨rfl, rfl⟩ : x6 = othI n auth (seedS pol) (othD first data k) true ∧ e6 = 0 := ⟨H6.out.1.trans hW.out.2, H6.out.2.trans hW.out.1⟩
  have hl6 : (othD first data k).length = 60 := othD_len (by have := HFL.out; omega) (by have := HDL.out; omega)
  obtain rfl : 60 = d6n := by have := hI6.2.2.len; rw [← this]; exact hl6.symm
  obtain rfl : 32 = p6n := by have := hI6.1.len; rw [← this]; exact (seedS_len pol).symm
  obtain rfl : an = a6n := by have := hI6.2.1.len; rw [← this]; exact HAL.out.symm
  clear H6 hW hl4
  go_upto_region 9 with fail
  refine wp_forget (fun w9' => Blk w9' w6.heap.size 28 #[.int .i64 (n : Nat), .int .i64 1, .int .i64 127, .int .i64 60, .slice p6A 32 p6c, .slice a6A an a6c, .bool true, .slice d6A 60 d6c] ∧ Ext w6 w9') ⟨Blk.new _ _ _, (by with_reducible repeat (first | exact Ext.refl _ | refine Ext.alloc ?_ _ | refine Ext.drewN ?_ _ | refine Ext.trans ?_ (by assumption)))⟩ ?_
  rintro w7 ⟨hk7, hE7⟩
  go_wp2_with ((with_reducible (show wpList _ _ _ (⟨_, Op.load _ _, _, _, _, _⟩ :: _) _ _)); refine wpList_ldB rfl _ _ rfl _ rfl (by refine Blk.ext (by assumption) ?_; (with_reducible repeat (first | exact Ext.refl _ | refine Ext.alloc ?_ _ | refine Ext.drewN ?_ _ | refine Ext.trans ?_ (by assumption)))) (by kernel_rfl) (by kernel_rfl) ?_)
  have hR := Lib.hid (oth_read (n := n) (auth := auth) (pol := seedS pol) hl6)
  go_loud (refine (readP_calls w7 (othI n auth (seedS pol) (othD first data k) true) p6A 32 p6c a6A an a6c d6A 60 d6c (hI6.ext (by with_reducible repeat (first | exact Ext.refl _ | refine Ext.alloc ?_ _ | refine Ext.drewN ?_ _ | refine Ext.trans ?_ (by assumption)))) (by omega) 0 60).mono ?_)
  rintro e w8 ⟨S8, n8, k8, l8, e8, rfl, H8, hO8, hE8⟩
  obtain ⟨rfl, rfl⟩ : l8 = othD first data k ∧ e8 = 0 := ⟨H8.out.1.trans hR.out.2, H8.out.2.trans hR.out.1⟩
  obtain rfl : 60 = n8 := by have := hO8.len; rw [← this]; exact hl6.symm
  clear H8 hR
  go_upto_region 10 with fail
  refine wp_region_planG Ext (.read 0 (.read 1 (.read 2 (.read 3 (.read 4 (.read 5 (.read 6 (.read 7 (.read 8 (.read 9 (.read 10 (.read 11 (.read 12 (.read 13 (.read 14 (.read 15 (.read 16 (.read 17 (.read 18 (.read 19 (.read 20 (.read 21 (.read 22 (.read 23 (.read 24 (.read 25 (.read 26 (.read 27 (.read 28 (.read 29 (.read 30 (.read 31 (.read 32 (.read 33 (.read 34 (.call true 35 (.read 36 (.read 37 (.read 38 (.read 39 (.read 40 (.read 41 (.call false 42 .tail .none))))))) .none)))))))))))))))))))))))))))))))))))) 43 (by kernel_rfl) (by kernel_rfl) (by kernel_rfl) Ext.refl (fun _ _ _ => Ext.trans) Ext (Ext.drew (Ext.refl _)) (fun wR hR => ?_)
  apply run_read rfl
  · intro w1 hS
    go_wp2
    exact rv_done rfl rfl
  try simp only [Act.put, List.setIfInBounds_toArray, List.set]
  apply run_read rfl
  · intro w1 hS
    go_wp2
    exact rv_done rfl rfl
  try simp only [Act.put, List.setIfInBounds_toArray, List.set]
  apply run_read rfl
  · intro w1 hS
    go_wp2
    exact rv_done rfl rfl
  try simp only [Act.put, List.setIfInBounds_toArray, List.set]
  apply run_read rfl
  · intro w1 hS
    go_wp2
    exact rv_done rfl rfl
  try simp only [Act.put, List.setIfInBounds_toArray, List.set]
  apply run_read rfl
  · intro w1 hS
    go_wp2
    exact rv_done rfl rfl
  try simp only [Act.put, List.setIfInBounds_toArray, List.set]
  apply run_read rfl
  · intro w1 hS
    go_wp2
    exact rv_done rfl rfl
  try simp only [Act.put, List.setIfInBounds_toArray, List.set]
  apply run_read rfl
  · intro w1 hS
    go_wp2
    exact rv_done rfl rfl
  try simp only [Act.put, List.setIfInBounds_toArray, List.set]
  apply run_read rfl
  · intro w1 hS
    go_wp2
    exact rv_done rfl rfl
  try simp only [Act.put, List.setIfInBounds_toArray, List.set]
  apply run_read rfl
  · intro w1 hS
    go_wp2
    exact rv_done rfl rfl
  try simp only [Act.put, List.setIfInBounds_toArray, List.set]
  apply run_read rfl
  · intro w1 hS
    go_wp2
    exact rv_done rfl rfl
  try simp only [Act.put, List.setIfInBounds_toArray, List.set]
  apply run_read rfl
  · intro w1 hS
    go_wp2
    exact rv_done rfl rfl
  try simp only [Act.put, List.setIfInBounds_toArray, List.set]
  apply run_read rfl
  · intro w1 hS
    go_wp2
    exact rv_done rfl rfl
  try simp only [Act.put, List.setIfInBounds_toArray, List.set]
  apply run_read rfl
  · intro w1 hS
    go_wp2
    exact rv_done rfl rfl
  try simp only [Act.put, List.setIfInBounds_toArray, List.set]
  apply run_read rfl
  · intro w1 hS
    go_wp2
    exact rv_done rfl rfl
  try simp only [Act.put, List.setIfInBounds_toArray, List.set]
  apply run_read rfl
  · intro w1 hS
    go_wp2
    exact rv_done rfl rfl
  try simp only [Act.put, List.setIfInBounds_toArray, List.set]
  apply run_read rfl
  · intro w1 hS
    go_wp2
    exact rv_done rfl rfl
  try simp only [Act.put, List.setIfInBounds_toArray, List.set]
  apply run_read rfl
  · intro w1 hS
    go_wp2_with (first | ((with_reducible (show wpList _ _ _ (⟨_, Op.load _ _, _, _, _, _⟩ :: _) _ _)); refine wpList_ldC rfl _ _ rfl _ rfl _ (by refine Eq.trans (Blk.cell (Blk.ext (by assumption) (by (with_reducible repeat (first | exact Ext.refl _ | refine Ext.alloc ?_ _ | refine Ext.drewN ?_ _ | refine Ext.trans ?_ (by assumption))))) _) ?_; rfl) (by kernel_rfl) ?_) | ((with_reducible (show wpList _ _ _ (⟨_, Op.load _ _, _, _, _, _⟩ :: _) _ _)); refine wpList_ldB rfl _ _ rfl _ rfl (by refine Blk.ext (by assumption) ?_; (with_reducible repeat (first | exact Ext.refl _ | refine Ext.alloc ?_ _ | refine Ext.drewN ?_ _ | refine Ext.trans ?_ (by assumption)))) (by kernel_rfl) (by kernel_rfl) ?_))
    exact rv_done rfl rfl
  try simp only [Act.put, List.setIfInBounds_toArray, List.set]
  apply run_read rfl
  · intro w1 hS
    go_wp2
    exact rv_done rfl rfl
  try simp only [Act.put, List.setIfInBounds_toArray, List.set]
  apply run_read rfl
  · intro w1 hS
    go_wp2
    exact rv_done rfl rfl
  try simp only [Act.put, List.setIfInBounds_toArray, List.set]
  apply run_read rfl
  · intro w1 hS
    go_wp2
    exact rv_done rfl rfl
  try simp only [Act.put, List.setIfInBounds_toArray, List.set]
  apply run_read rfl
  · intro w1 hS
    go_wp2
    exact rv_done rfl rfl
  try simp only [Act.put, List.setIfInBounds_toArray, List.set]
  apply run_read rfl
  · intro w1 hS
    go_wp2
    exact rv_done rfl rfl
  try simp only [Act.put, List.setIfInBounds_toArray, List.set]
  apply run_read rfl
  · intro w1 hS
    go_wp2
    exact rv_done rfl rfl
  try simp only [Act.put, List.setIfInBounds_toArray, List.set]
  apply run_read rfl
  · intro w1 hS
    go_wp2_with (first | ((with_reducible (show wpList _ _ _ (⟨_, Op.load _ _, _, _, _, _⟩ :: _) _ _)); refine wpList_ldC rfl _ _ rfl _ rfl _ (by refine Eq.trans (Blk.cell (Blk.ext (by assumption) (by (with_reducible repeat (first | exact Ext.refl _ | refine Ext.alloc ?_ _ | refine Ext.drewN ?_ _ | refine Ext.trans ?_ (by assumption))))) _) ?_; rfl) (by kernel_rfl) ?_) | ((with_reducible (show wpList _ _ _ (⟨_, Op.load _ _, _, _, _, _⟩ :: _) _ _)); refine wpList_ldB rfl _ _ rfl _ rfl (by refine Blk.ext (by assumption) ?_; (with_reducible repeat (first | exact Ext.refl _ | refine Ext.alloc ?_ _ | refine Ext.drewN ?_ _ | refine Ext.trans ?_ (by assumption)))) (by kernel_rfl) (by kernel_rfl) ?_))
    exact rv_done rfl rfl
  try simp only [Act.put, List.setIfInBounds_toArray, List.set]
  apply run_read rfl
  · intro w1 hS
    go_wp2
    exact rv_done rfl rfl
  try simp only [Act.put, List.setIfInBounds_toArray, List.set]
  apply run_read rfl
  · intro w1 hS
    go_wp2
    exact rv_done rfl rfl
  try simp only [Act.put, List.setIfInBounds_toArray, List.set]
  apply run_read rfl
  · intro w1 hS
    go_wp2
    exact rv_done rfl rfl
  try simp only [Act.put, List.setIfInBounds_toArray, List.set]
  apply run_read rfl
  · intro w1 hS
    go_wp2
    exact rv_done rfl rfl
  try simp only [Act.put, List.setIfInBounds_toArray, List.set]
  apply run_read rfl
  · intro w1 hS
    go_wp2_with (first | ((with_reducible (show wpList _ _ _ (⟨_, Op.load _ _, _, _, _, _⟩ :: _) _ _)); refine wpList_ldC rfl _ _ rfl _ rfl _ (by refine Eq.trans (Blk.cell (Blk.ext (by assumption) (by (with_reducible repeat (first | exact Ext.refl _ | refine Ext.alloc ?_ _ | refine Ext.drewN ?_ _ | refine Ext.trans ?_ (by assumption))))) _) ?_; rfl) (by kernel_rfl) ?_) | ((with_reducible (show wpList _ _ _ (⟨_, Op.load _ _, _, _, _, _⟩ :: _) _ _)); refine wpList_ldB rfl _ _ rfl _ rfl (by refine Blk.ext (by assumption) ?_; (with_reducible repeat (first | exact Ext.refl _ | refine Ext.alloc ?_ _ | refine Ext.drewN ?_ _ | refine Ext.trans ?_ (by assumption)))) (by kernel_rfl) (by kernel_rfl) ?_))
    exact rv_done rfl rfl
  try simp only [Act.put, List.setIfInBounds_toArray, List.set]
  apply run_read rfl
  · intro w1 hS
    go_wp2
    exact rv_done rfl rfl
  try simp only [Act.put, List.setIfInBounds_toArray, List.set]
  apply run_read rfl
  · intro w1 hS
    go_wp2
    exact rv_done rfl rfl
  try simp only [Act.put, List.setIfInBounds_toArray, List.set]
  apply run_read rfl
  · intro w1 hS
    go_wp2
    exact rv_done rfl rfl
  try simp only [Act.put, List.setIfInBounds_toArray, List.set]
  apply run_read rfl
  · intro w1 hS
    go_wp2
    exact rv_done rfl rfl
  try simp only [Act.put, List.setIfInBounds_toArray, List.set]
  apply run_read rfl
  · intro w1 hS
    go_wp2_with (first | ((with_reducible (show wpList _ _ _ (⟨_, Op.load _ _, _, _, _, _⟩ :: _) _ _)); refine wpList_ldC rfl _ _ rfl _ rfl _ (by refine Eq.trans (Blk.cell (Blk.ext (by assumption) (by (with_reducible repeat (first | exact Ext.refl _ | refine Ext.alloc ?_ _ | refine Ext.drewN ?_ _ | refine Ext.trans ?_ (by assumption))))) _) ?_; rfl) (by kernel_rfl) ?_) | ((with_reducible (show wpList _ _ _ (⟨_, Op.load _ _, _, _, _, _⟩ :: _) _ _)); refine wpList_ldB rfl _ _ rfl _ rfl (by refine Blk.ext (by assumption) ?_; (with_reducible repeat (first | exact Ext.refl _ | refine Ext.alloc ?_ _ | refine Ext.drewN ?_ _ | refine Ext.trans ?_ (by assumption)))) (by kernel_rfl) (by kernel_rfl) ?_))
    exact rv_done rfl rfl
  try simp only [Act.put, List.setIfInBounds_toArray, List.set]
  apply run_read rfl
  · intro w1 hS
    go_wp2
    exact rv_done rfl rfl
  try simp only [Act.put, List.setIfInBounds_toArray, List.set]
  refine run_free rfl ?_ run_none
  go_wp2_with (first | (go_at_call 11; go_loud (refine (seed_calls _ B pn pc pol (by refine BV.ext (by assumption) ?_; (with_reducible repeat (first | exact Ext.refl _ | refine Ext.alloc ?_ _ | refine Ext.drewN ?_ _ | refine Ext.trans ?_ (by assumption))))).mono ?_; rintro e w10 ⟨g10, rfl, hg10, hM10, hE10⟩)) | (go_at_call 20; go_loud (refine (sameB _ _ _ _ _ _ _ auth auth rfl (BV.ext hI6.2.1 (by with_reducible repeat (first | exact Ext.refl _ | refine Ext.alloc ?_ _ | refine Ext.drewN ?_ _ | refine Ext.trans ?_ (by assumption)))) (by refine BV.ext (by assumption) ?_; (with_reducible repeat (first | exact Ext.refl _ | refine Ext.alloc ?_ _ | refine Ext.drewN ?_ _ | refine Ext.trans ?_ (by assumption))))).mono ?_; rintro e w11 ⟨rfl, q11, rfl⟩)))
  refine nx_done rfl trivial ?_
  try simp only [Act.put, List.setIfInBounds_toArray, List.set]
  apply run_read rfl
  · intro w1 hS
    go_wp2
    exact rv_done rfl rfl
  try simp only [Act.put, List.setIfInBounds_toArray, List.set]
  apply run_read rfl
  · intro w1 hS
    go_wp2
    exact rv_done rfl rfl
  try simp only [Act.put, List.setIfInBounds_toArray, List.set]
  apply run_read rfl
  · intro w1 hS
    go_wp2
    exact rv_done rfl rfl
  try simp only [Act.put, List.setIfInBounds_toArray, List.set]
  apply run_read rfl
  · intro w1 hS
    go_wp2
    exact rv_done rfl rfl
  try simp only [Act.put, List.setIfInBounds_toArray, List.set]
  apply run_read rfl
  · intro w1 hS
    go_wp2_with (first | ((with_reducible (show wpList _ _ _ (⟨_, Op.load _ _, _, _, _, _⟩ :: _) _ _)); refine wpList_ldC rfl _ _ rfl _ rfl _ (by refine Eq.trans (Blk.cell (Blk.ext (by assumption) (by (with_reducible repeat (first | exact Ext.refl _ | refine Ext.alloc ?_ _ | refine Ext.drewN ?_ _ | refine Ext.trans ?_ (by assumption))))) _) ?_; rfl) (by kernel_rfl) ?_) | ((with_reducible (show wpList _ _ _ (⟨_, Op.load _ _, _, _, _, _⟩ :: _) _ _)); refine wpList_ldB rfl _ _ rfl _ rfl (by refine Blk.ext (by assumption) ?_; (with_reducible repeat (first | exact Ext.refl _ | refine Ext.alloc ?_ _ | refine Ext.drewN ?_ _ | refine Ext.trans ?_ (by assumption)))) (by kernel_rfl) (by kernel_rfl) ?_))
    exact rv_done rfl rfl
  try simp only [Act.put, List.setIfInBounds_toArray, List.set]
  apply run_read rfl
  · intro w1 hS
    go_wp2
    exact rv_done rfl rfl
  try simp only [Act.put, List.setIfInBounds_toArray, List.set]
  refine run_call1 rfl ?_ run_none
  go_wp2_with (first | (go_at_call 11; go_loud (refine (seed_calls _ B pn pc pol (by refine BV.ext (by assumption) ?_; (with_reducible repeat (first | exact Ext.refl _ | refine Ext.alloc ?_ _ | refine Ext.drewN ?_ _ | refine Ext.trans ?_ (by assumption))))).mono ?_; rintro e w10 ⟨g10, rfl, hg10, hM10, hE10⟩)) | (go_at_call 20; go_loud (refine (sameB _ _ _ _ _ _ _ auth auth rfl (BV.ext hI6.2.1 (by with_reducible repeat (first | exact Ext.refl _ | refine Ext.alloc ?_ _ | refine Ext.drewN ?_ _ | refine Ext.trans ?_ (by assumption)))) (by refine BV.ext (by assumption) ?_; (with_reducible repeat (first | exact Ext.refl _ | refine Ext.alloc ?_ _ | refine Ext.drewN ?_ _ | refine Ext.trans ?_ (by assumption))))).mono ?_; rintro e w11 ⟨rfl, q11, rfl⟩)))
  refine nx_done rfl (by with_reducible repeat (first | exact Ext.refl _ | refine Ext.alloc ?_ _ | refine Ext.drewN ?_ _ | refine Ext.trans ?_ (by assumption))) ?_
  try simp only [Act.put, List.setIfInBounds_toArray, List.set]
  refine run_tail rfl ?_
  have hL0 := Lib.hid (show (m : Int) ≤ 30 by omega)
  go_wp2_with (go_at_call 20; go_loud (refine (sameB _ _ _ _ _ _ _ (seedS pol) (seedS pol) rfl (BV.ext hI6.1 (by with_reducible repeat (first | exact Ext.refl _ | refine Ext.alloc ?_ _ | refine Ext.drewN ?_ _ | refine Ext.trans ?_ (by assumption)))) (BV.ext (hM10.bv (P := fun _ => True) trivial (seedS_len _) (Nat.le_refl _) (by omega)) (by with_reducible repeat (first | exact Ext.refl _ | refine Ext.alloc ?_ _ | refine Ext.drewN ?_ _ | refine Ext.trans ?_ (by assumption))))).mono ?_; rintro e w12 ⟨rfl, q12, rfl⟩))
  have hEa : Ext w (w10.drewN q12) := (by with_reducible repeat (first | exact Ext.refl _ | refine Ext.alloc ?_ _ | refine Ext.drewN ?_ _ | refine Ext.trans ?_ (by assumption)))
  have hbv : BV (w10.drewN q12) (fun _ => True) S8 60 k8 (othD first data k) := BV.ext (OB.bv (P := fun _ => True) hO8 (fun _ _ => trivial)) (by with_reducible repeat (first | exact Ext.refl _ | refine Ext.alloc ?_ _ | refine Ext.drewN ?_ _ | refine Ext.trans ?_ (by assumption)))
  refine wp_forget (fun wz => Ext w wz ∧ BV wz (fun _ => True) S8 60 k8 (othD first data k)) ⟨hEa, hbv⟩ ?_
  clear hEa hbv
  rintro wz ⟨hEz, hbz⟩
  clear hE1 hE2 hE3 hE4 hE5 hE6 hE7 hE8 hE9 hE10 hk9 hk5 hk7 hI3 hI4 hI6 hM2 hM10 hO8 hl6
  go_loopw [22] (fun i wr => ∃ j : Nat, j ≤ 60 ∧ i = .int .i64 j ∧ wz = wr) (fun i _ => (60 : Nat) - (intOf i).toNat)
  case atStart => exact ⟨0, by omega, rfl, rfl⟩
  case round =>
    obtain ⟨j, hj, rfl, rfl⟩ := hrel
    by_cases hlt : j < 60
    · obtain ⟨b8, o8, x8, rfl, hx8, hb8, hc8⟩ := hbz.get hlt
      have hat := othD_at (first := first) (data := data) (k := k) (i := j) (by have := HFL.out; omega) (by have := HDL.out; have := hL0.out; omega) hlt
      rw [hx8] at hat
      by_cases hin : k ≤ j ∧ j < k + m
      · rw [if_pos (by rw [HDL.out]; exact hin)] at hat
        obtain ⟨hin1, hin2⟩ := hin
        obtain ⟨bd, od, xd, rfl, hxd, hbd, hcd⟩ := (hd.ext hEz).get (show j - k < m by omega)
        rw [hxd] at hat
        obtain rfl : x8 = xd := Option.some.inj hat
        clear hat hx8 hxd
        by_cases hjf : j < fn
        · obtain ⟨bf, of_, xf, rfl, hxf, hbf, hcf⟩ := (hf.ext hEz).get hjf
          clear hxf
          go_wp2
          go_roundw
          case rel => exact ⟨j + 1, by omega, by go_num, by first | exact trivial | rfl⟩
          case measure => simp [intOf]; omega
        · go_wp2
          go_roundw
          case rel => exact ⟨j + 1, by omega, by go_num, by first | exact trivial | rfl⟩
          case measure => simp [intOf]; omega
      · rw [if_neg (by rw [HDL.out]; exact hin)] at hat
        have hnin : k ≤ j → k + m ≤ j := by omega
        by_cases hjf : j < fn
        · obtain ⟨bf, of_, xf, rfl, hxf, hbf, hcf⟩ := (hf.ext hEz).get hjf
          rw [if_pos (by rw [HFL.out]; exact hjf), hxf] at hat
          obtain rfl : x8 = xf := Option.some.inj hat
          clear hat hx8 hxf
          by_cases hkj : k ≤ j
          · have hkj2 : k + m ≤ j := by omega
            have hdd : decide ((j : Int) < (k : Int) + m) = false := by simp; omega
            go_wp2
            go_roundw
            case rel => exact ⟨j + 1, by omega, by go_num, by first | exact trivial | rfl⟩
            case measure => simp [intOf]; omega
          · have hdd : decide ((k : Int) ≤ j) = false := by simp; omega
            go_wp2
            go_roundw
            case rel => exact ⟨j + 1, by omega, by go_num, by first | exact trivial | rfl⟩
            case measure => simp [intOf]; omega
        · rw [if_neg (by rw [HFL.out]; exact hjf)] at hat
          obtain rfl : x8 = 0 := Option.some.inj hat
          clear hat hx8
          have hc0 : wz.cell? ⟨b8, o8 + j, none⟩ = some (.int .u8 0) := hc8
          clear hc8
          by_cases hkj : k ≤ j
          · have hkj2 : k + m ≤ j := by omega
            have hdd : decide ((j : Int) < (k : Int) + m) = false := by simp; omega
            go_wp2
            go_roundw
            case rel => exact ⟨j + 1, by omega, by go_num, by first | exact trivial | rfl⟩
            case measure => simp [intOf]; omega
          · have hdd : decide ((k : Int) ≤ j) = false := by simp; omega
            go_wp2
            go_roundw
            case rel => exact ⟨j + 1, by omega, by go_num, by first | exact trivial | rfl⟩
            case measure => simp [intOf]; omega
    · go_wp2
      go_ret
      exact ⟨rfl, hEz⟩
end Go.Proofs.Ytdekjkcnfebfnaa
