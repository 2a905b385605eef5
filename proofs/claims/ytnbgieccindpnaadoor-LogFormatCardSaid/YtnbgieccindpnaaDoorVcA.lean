/- Facts of this program for the walk over slots kept in a list. -/
import Derived.Test.YtnbgieccindpnaaDoorVc3
import Derived.Test.YtnbgieccindpnaaDoorRef1
namespace Go.Proofs.YtnbgieccindpnaaDoor
set_option linter.all false
set_option maxRecDepth 20000
open Go.RowKit
theorem infoB2 : (Tryd.prog.info? 5).map (fun i => (i.zero, i.size)) = some (some (.int .u8 0), 1) := by kernel_rfl
theorem mb1 {w : World} {g : Nat} {t : TypeId} {z : Int} (x : UInt8) (h : Blk w g t [Value.int .u8 z].toArray) (hz : z = (x.toNat : Int)) : MB w g t [x] := by subst hz; exact h
theorem wrap8 (z : Int) : IntKind.u8.wrap z = z % 256 := by simp [IntKind.wrap, IntKind.bits, IntKind.signed]
end Go.Proofs.YtnbgieccindpnaaDoor
