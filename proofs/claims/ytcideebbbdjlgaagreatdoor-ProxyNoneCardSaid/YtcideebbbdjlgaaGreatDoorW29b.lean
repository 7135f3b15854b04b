/-
  A step of the proof of this seat's statement. No condition.
-/
import Derived.Test.YtcideebbbdjlgaaGreatDoorW29
namespace Go.Proofs.YtcideebbbdjlgaaGreatDoor
open Go Go.Rk
set_option maxRecDepth 1000000
set_option linter.unusedVariables false
def l15 : List (List AV × AV) := [([], .bool true)]
abbrev kn15 : Known := (5, l15) :: kn14
theorem good15 (M : Int) : @goodK Tryz.prog (fnsO Tryz.prog (knownOrc kn14) 1000) (tb M) 5 l15 = true := by kernel_rfl
theorem orc15 (M : Int) : @OrcOK Tryz.prog (tb M) (knownOrc kn15) := @orcOK_cons (tb M) _ _ _ 1000 _ (orc14 M) (tabOK M) (by kernel_rfl) (good15 M)
end Go.Proofs.YtcideebbbdjlgaaGreatDoor
