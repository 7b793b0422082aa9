/- Proved here: the law's own example 'lives' answers true, by running the abstract machine; no condition. -/
import Derived.Test.YtnlccebemhloeaaGreatRun1
set_option linter.all false
namespace Go.Proofs.YtnlccebemhloeaaGreat
open Go Go.Ab

noncomputable def sum1 (i : Nat) : Option (List AV → AHeap → Option (AV × AHeap)) :=
  cond (Nat.beq i 166) (some (tabSum false tabLn)) (cond (Nat.beq i 120) (some (tabSum true tabHash2)) (cond (Nat.beq i 164) (some (tabSum true tabHash3)) none))
noncomputable def C1 : Ctx := { C0 with sum := sum1 }
def tabLives : List (List AV × AV) := [([], .bool true)]
theorem rowsLives : tabLives.all (rowOk (callT2 C1 1000 100 .no (.func (.func 14) [] [])) false) = true := by kernel_rfl
end Go.Proofs.YtnlccebemhloeaaGreat
