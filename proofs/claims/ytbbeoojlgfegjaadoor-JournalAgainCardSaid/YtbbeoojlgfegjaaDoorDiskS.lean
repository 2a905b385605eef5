/- What the disk computes, in plain words: no program. -/
import Derived.Test.YtbbeoojlgfegjaaDoorLib
namespace Go.Proofs.YtbbeoojlgfegjaaDoor
set_option linter.all false
/-- A disk. -/
structure Dk where
  areas : List (List UInt8)
  wr : Int
  ct : Int
  tn : Int
  off : Bool
def write1S (t : Bool) (k : Nat) (l r : List UInt8) : List UInt8 := r.take k ++ if t = true ∧ k < l.length then l.drop k else []
def append1S (k : Nat) (l r : List UInt8) : List UInt8 := l ++ r.take k
/-- How many bytes an interrupted write brings. -/
def tornS (tn : Int) (n : Nat) : Nat := min tn.toNat n
def cutsS (d : Dk) : Bool := decide (d.wr + 1 = d.ct)
/-- How many bytes of so many are written. -/
def bringS (d : Dk) (n : Nat) : Nat := if cutsS d = true then tornS d.tn n else n
def putE (d : Dk) (area : Int) (n : Nat) : Int :=
  if d.off = true then 29 else if ¬ (0 ≤ area ∧ area < d.areas.length) then 1 else if 65536 < n then 4 else if cutsS d = true then 29 else 0
def putS (f : List UInt8 → Nat → List UInt8) (d : Dk) (area : Int) (n : Nat) : Dk :=
  if d.off = true then d else if ¬ (0 ≤ area ∧ area < d.areas.length) then d else if 65536 < n then d
  else { d with areas := d.areas.set area.toNat (f (d.areas.getD area.toNat []) (bringS d n)), wr := d.wr + 1, off := cutsS d }
def writeS (d : Dk) (area : Int) (x : List UInt8) : Dk := putS (fun old k => write1S (!d.off && cutsS d) k old x) d area x.length
def appendS (d : Dk) (area : Int) (x : List UInt8) : Dk := putS (fun old k => append1S k old x) d area x.length
def readE (d : Dk) (area : Int) : Int := if d.off = true then 29 else if ¬ (0 ≤ area ∧ area < d.areas.length) then 1 else 0
def readS (d : Dk) (area : Int) : List UInt8 := if d.off = true then [] else if ¬ (0 ≤ area ∧ area < d.areas.length) then [] else d.areas.getD area.toNat []
def newS (n : Int) : Dk := ⟨List.replicate (min n.toNat 64) [], 0, 0, 0, false⟩
def cutDS (d : Dk) (at' tn : Int) : Dk := { d with ct := at', tn := tn }
def stopS (d : Dk) : Dk := { d with off := true }
def restartS (d : Dk) : Dk := ⟨d.areas, 0, 0, 0, false⟩
/-- The equality that the statements ask. -/
def sameS (a b : Dk) : Bool := decide (a.areas = b.areas) && (a.wr == b.wr) && (a.ct == b.ct) && (a.tn == b.tn) && (a.off == b.off)
theorem putE_in {d : Dk} {area n : Nat} (h : d.off = false) (h1 : area < d.areas.length) (hb : n ≤ 65536) : putE d (area : Nat) n = if cutsS d = true then 29 else 0 := by
  unfold putE
  rw [if_neg (by simp [h]), if_neg (by omega), if_neg (by omega)]
theorem putS_in {f : List UInt8 → Nat → List UInt8} {d : Dk} {area n : Nat} (h : d.off = false) (h1 : area < d.areas.length) (hb : n ≤ 65536) :
    putS f d (area : Nat) n = { d with areas := d.areas.set area (f d.areas[area] (bringS d n)), wr := d.wr + 1, off := cutsS d } := by
  unfold putS
  rw [if_neg (by simp [h]), if_neg (by omega), if_neg (by omega)]
  simp [List.getD, h1]
end Go.Proofs.YtbbeoojlgfegjaaDoor
