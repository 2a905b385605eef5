/- The reference's SHA-256: rotr, word, constants. -/
import Derived.Test.YtnbgieccindpnaaDoorHashS
import Derived.Test.YtnbgieccindpnaaDoorLib5
import Derived.Test.YtnbgieccindpnaaDoorRef1
namespace Go.Proofs.YtnbgieccindpnaaDoor
set_option linter.all false
set_option maxRecDepth 20000
open Go.RowKit
theorem shl_u32' (a : UInt32) (n : Nat) (h : n < 32) : (a.toNat : Int) * 2 ^ n % 4294967296 = ((a <<< UInt32.ofNat n).toNat : Int) := by rw [← w32, shl_u32 a n h]
theorem rr_eq (x : UInt32) (n : Nat) (h1 : 1 ≤ n) (h2 : n ≤ 31) : bits BinOp.or IntKind.u32 ((x.toNat : Int) / 2 ^ n) ((x.toNat : Int) * 2 ^ (32 - n) % 4294967296) = ((rr x n).toNat : Int) := by
  rw [shr_u32 x n (by omega), shl_u32' x (32 - n) (by omega), (bits_u32 _ _).1]; rfl
theorem rotr_calls (w : World) (x : UInt32) (n : Nat) (h1 : 1 ≤ n) (h2 : n ≤ 31) :
    Calls Tryd.prog 102 #[.int .u32 (x.toNat : Int), .int .u64 (n : Int)] w fun e w' => e = .returned (.int .u32 ((rr x n).toNat : Int)) ∧ w = w' := by
  have hx := u32_lt x
  go_enter Tryd.func102, Tryd.ntmps102
  go_wp2
  go_ret
  exact ⟨by rw [← rr_eq x n h1 h2]; rfl, rfl⟩
def u32s (l : List UInt32) : List Value := l.map fun x => .int .u32 (x.toNat : Int)
theorem u32s_all (l : List UInt32) : (u32s l).toArray.all (·.oneCell') = true := by simp [u32s, Value.oneCell']
theorem u32s_one (l : List UInt32) : ∀ u ∈ u32s l, u.oneCell' = true := by intro u hu; obtain ⟨_, _, rfl⟩ := List.mem_map.1 hu; rfl
set_option maxRecDepth 100000 in
set_option maxHeartbeats 1000000 in
theorem constants_calls (w : World) : Calls Tryd.prog 101 #[] w fun e w' => e = .returned (.agg (u32s consts).toArray) ∧ Ext w w' := by
  go_enter Tryd.func101, Tryd.ntmps101
  go_upto_region 1 with fail
  refine wp_forget (fun w1 => (∃ cs, cs.size = 64 ∧ Blk w1 w.heap.size 121 cs) ∧ Ext w w1) ⟨⟨_, by rfl, Blk.new _ _ _⟩, (by with_reducible repeat (first | exact Ext.refl _ | refine Ext.alloc ?_ _ | refine Ext.drewN ?_ _ | refine Ext.trans ?_ (by assumption)))⟩ ?_
  rintro w1 ⟨⟨cs, hcs, hk1⟩, hE1⟩
  go_wp2_with ((with_reducible (show wpList _ _ _ (⟨_, Op.store _ _ _, _, _, _, _⟩ :: _) _ _)); go_loud (refine wpList_stB rfl _ _ _ rfl (u32s consts).toArray rfl rfl hk1 (by kernel_rfl) hcs (u32s_all _) ?_; intro w2 hk2 hF2))
  refine bodyPost_ret (results_cell_row Tryd.results101 _ _ w.heap.size _ _ (0, 0) _ rfl hk2 Tryd.underlying121 rfl (by kernel_rfl)) rfl ?_
  exact ⟨rfl, Ext.over hE1 hF2 (Nat.le_refl _)⟩
end Go.Proofs.YtnbgieccindpnaaDoor
