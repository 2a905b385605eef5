/- The reference's SHA-256: rotr, word, constants. -/
import Derived.Test.YtnbgieccindpnaaDoorHashS
import Derived.Test.YtnbgieccindpnaaDoorLib5
import Derived.Test.YtnbgieccindpnaaDoorRef1
namespace Go.Proofs.YtnbgieccindpnaaDoor
set_option linter.all false
set_option maxRecDepth 20000
open Go.RowKit
theorem shl_u32' (a : UInt32) (n : Nat) (h : n < 32) : (a.toNat : Int) * 2 ^ n % 4294967296 = ((a <<< UInt32.ofNat n).toNat : Int) := by rw [← w32, shl_u32 a n h]
theorem rr_eq (x : UInt32) (n : Nat) (h1 : 1 ≤ n) (h2 : n ≤ 31) : bits BinOp.or IntKind.u32 ((x.toNat : Int) / 2 ^ n) ((x.toNat : Int) * 2 ^ (32 - n) % 4294967296) = ((rr x n).toNat : Int) := by
  rw [shr_u32 x n (by omega), shl_u32' x (32 - n) (by omega), (bits_u32 _ _).1]; rfl
theorem rotr_calls (w : World) (x : UInt32) (n : Nat) (h1 : 1 ≤ n) (h2 : n ≤ 31) :
    Calls Tryd.prog 102 #[.int .u32 (x.toNat : Int), .int .u64 (n : Int)] w fun e w' => e = .returned (.int .u32 ((rr x n).toNat : Int)) ∧ w = w' := by
  have hx := u32_lt x
  go_enter Tryd.func102, Tryd.ntmps102
  go_wp2
  go_ret
  exact ⟨by rw [← rr_eq x n h1 h2]; rfl, rfl⟩
theorem byte_u32 (a : UInt8) : (a.toNat : Int) = (a.toUInt32.toNat : Int) := by simp
theorem sh_byte (a : UInt8) (n : Nat) (h : n < 32) : (a.toNat : Int) * 2 ^ n % 4294967296 = ((a.toUInt32 <<< UInt32.ofNat n).toNat : Int) := by rw [byte_u32, shl_u32' _ n h]
theorem word_eq (x0 x1 x2 x3 : UInt8) : bits BinOp.or IntKind.u32 (bits BinOp.or IntKind.u32 (bits BinOp.or IntKind.u32 ((x0.toNat : Int) % 4294967296 * 16777216 % 4294967296) ((x1.toNat : Int) % 4294967296 * 65536 % 4294967296)) ((x2.toNat : Int) % 4294967296 * 256 % 4294967296)) ((x3.toNat : Int) % 4294967296) = ((word4 x0 x1 x2 x3).toNat : Int) := by
  have h : ∀ x : UInt8, (x.toNat : Int) % 4294967296 = (x.toNat : Int) := fun x => by have := x.toNat_lt; omega
  rw [h, h, h, h]
  have e0 := sh_byte x0 24 (by omega)
  have e1 := sh_byte x1 16 (by omega)
  have e2 := sh_byte x2 8 (by omega)
  have p24 : (2 : Int) ^ 24 = 16777216 := by decide
  have p16 : (2 : Int) ^ 16 = 65536 := by decide
  have p8 : (2 : Int) ^ 8 = 256 := by decide
  rw [p24] at e0; rw [p16] at e1; rw [p8] at e2
  rw [e0, e1, e2, byte_u32 x3, (bits_u32 _ _).1, (bits_u32 _ _).1, (bits_u32 _ _).1]
  rfl
def u32s (l : List UInt32) : List Value := l.map fun x => .int .u32 (x.toNat : Int)
theorem u32s_all (l : List UInt32) : (u32s l).toArray.all (·.oneCell') = true := by simp [u32s, Value.oneCell']
theorem u32s_length (l : List UInt32) : (u32s l).length = l.length := by simp [u32s]
theorem u32s_one (l : List UInt32) : ∀ u ∈ u32s l, u.oneCell' = true := by intro u hu; obtain ⟨_, _, rfl⟩ := List.mem_map.1 hu; rfl
set_option maxHeartbeats 1000000 in
theorem word_calls {P : Nat → Prop} (w : World) (A : Option Addr) (n c : Nat) (l : List UInt8) (ha : BV w P A n c l) (t : Nat) (ht : 4 * t + 3 < n) :
    Calls Tryd.prog 98 #[.slice A n c, .int .i64 t] w fun e w' => e = .returned (.int .u32 ((wordS l t).toNat : Int)) ∧ Quiet w w' := by
  have hle := ha.le
  have HL := Lib.hid ha.len
  obtain ⟨b, off, rfl, hl0, hc0⟩ := ha.at_ (show 4 * t < n by omega)
  obtain ⟨b1, off1, hb1, hl1, hc1⟩ := ha.at_ (show 4 * t + 1 < n by omega)
  injection hb1 with hb1; injection hb1 with hb1 hb2; subst hb1; subst hb2
  obtain ⟨b1, off1, hb1, hl2, hc2⟩ := ha.at_ (show 4 * t + 2 < n by omega)
  injection hb1 with hb1; injection hb1 with hb1 hb2; subst hb1; subst hb2
  obtain ⟨b1, off1, hb1, hl3, hc3⟩ := ha.at_ (show 4 * t + 3 < n by omega)
  injection hb1 with hb1; injection hb1 with hb1 hb2; subst hb1; subst hb2
  have hw : wordS l t = word4 l[4 * t] l[4 * t + 1] l[4 * t + 2] l[4 * t + 3] := by
    unfold wordS gb
    simp [hl0, hl1, hl2, hl3]
  have HW := Lib.hid hw
  clear hw ha
  generalize l[4 * t] = x0 at *
  generalize l[4 * t + 1] = x1 at *
  generalize l[4 * t + 2] = x2 at *
  generalize l[4 * t + 3] = x3 at *
  have s0 : IntKind.i64.wrap (4 * (t : Int)) = 4 * (t : Int) := IntWalk.i64_in _ (by omega)
  have s1 : IntKind.i64.wrap (4 * (t : Int) + 1) = 4 * (t : Int) + 1 := IntWalk.i64_in _ (by omega)
  have s2 : IntKind.i64.wrap (4 * (t : Int) + 2) = 4 * (t : Int) + 2 := IntWalk.i64_in _ (by omega)
  have s3 : IntKind.i64.wrap (4 * (t : Int) + 3) = 4 * (t : Int) + 3 := IntWalk.i64_in _ (by omega)
  have p0 : 0 ≤ 4 * (t : Int) := by omega
  have p1 : 0 ≤ 4 * (t : Int) + 1 := by omega
  have p2 : 0 ≤ 4 * (t : Int) + 2 := by omega
  have p3 : 0 ≤ 4 * (t : Int) + 3 := by omega
  have n0 : (4 * (t : Int)).toNat = 4 * t := by omega
  have n1 : (4 * (t : Int) + 1).toNat = 4 * t + 1 := by omega
  have n2 : (4 * (t : Int) + 2).toNat = 4 * t + 2 := by omega
  have n3 : (4 * (t : Int) + 3).toNat = 4 * t + 3 := by omega
  have l0 : 4 * (t : Int) < n := by omega
  have l1 : 4 * (t : Int) + 1 < n := by omega
  have l2 : 4 * (t : Int) + 2 < n := by omega
  have l3 : 4 * (t : Int) + 3 < n := by omega
  go_enter Tryd.func98, Tryd.ntmps98
  go_wp2_with fail
  go_quiet (fail)
  clear s0 s1 s2 s3
  go_wp2
  go_ret
  exact ⟨by rw [HW.out, ← word_eq]; rfl, ⟨_, rfl⟩⟩
set_option maxRecDepth 100000 in
set_option maxHeartbeats 1000000 in
theorem constants_calls (w : World) : Calls Tryd.prog 101 #[] w fun e w' => e = .returned (.agg (u32s consts).toArray) ∧ Ext w w' := by
  go_enter Tryd.func101, Tryd.ntmps101
  go_upto_region 1 with fail
  refine wp_forget (fun w1 => (∃ cs, cs.size = 64 ∧ Blk w1 w.heap.size 121 cs) ∧ Ext w w1) ⟨⟨_, by rfl, Blk.new _ _ _⟩, (by with_reducible repeat (first | exact Ext.refl _ | refine Ext.alloc ?_ _ | refine Ext.drewN ?_ _ | refine Ext.trans ?_ (by assumption)))⟩ ?_
  rintro w1 ⟨⟨cs, hcs, hk1⟩, hE1⟩
  go_wp2_with ((with_reducible (show wpList _ _ _ (⟨_, Op.store _ _ _, _, _, _, _⟩ :: _) _ _)); go_loud (refine wpList_stB rfl _ _ _ rfl (u32s consts).toArray rfl rfl hk1 (by kernel_rfl) hcs (u32s_all _) ?_; intro w2 hk2 hF2))
  refine bodyPost_ret (results_cell_row Tryd.results101 _ _ w.heap.size _ _ (0, 0) _ rfl hk2 Tryd.underlying121 rfl (by kernel_rfl)) rfl ?_
  exact ⟨rfl, Ext.over hE1 hF2 (Nat.le_refl _)⟩
end Go.Proofs.YtnbgieccindpnaaDoor
