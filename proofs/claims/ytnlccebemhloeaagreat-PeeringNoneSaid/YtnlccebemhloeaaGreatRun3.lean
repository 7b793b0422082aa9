/- Proved here: the abstract machine's run of the law PeeringNone answers true, whatever the argument's cells hold; no condition. -/
import Derived.Test.YtnlccebemhloeaaGreatRun2
import Derived.Test.YtnlccebemhloeaaGreatAbF
set_option linter.all false
namespace Go.Proofs.YtnlccebemhloeaaGreat
open Go Go.Ab

noncomputable def C2 : Ctx := { C0 with sum := fun i => cond (Nat.beq i 14) (some (tabSum false tabLives)) (sum1 i) }

def shape : List Bool := List.replicate 31 false ++ true :: List.replicate 22 false

theorem ran : (fun b => isTrue (callT2 C2 1000 100 .no (.func (.func 3) [] []) [.agg (fillB shape [b])] H0)) = fun _ => true := by kernel_rfl
end Go.Proofs.YtnlccebemhloeaaGreat
