/-
  A step of the proof of this seat's statement. No condition.
-/
import Derived.Test.YtpiklaibcliniaaGreatDoorW18
namespace Go.Proofs.YtpiklaibcliniaaGreatDoor
open Go Go.Rk
set_option maxRecDepth 1000000
def lLAST : List (List AV × AV) := [([], .bool true)]
abbrev knLAST : Known := (4, lLAST) :: kn8
theorem goodLAST (M : Int) : @goodK Tryz.prog (fnsO Tryz.prog (knownOrc kn8) 1000) (tb M) 4 lLAST = true := by kernel_rfl
theorem orcLAST (M : Int) : @OrcOK Tryz.prog (tb M) (knownOrc knLAST) := @orcOK_cons (tb M) _ _ _ 1000 _ (orc8 M) (tabOK M) (by kernel_rfl) (goodLAST M)
end Go.Proofs.YtpiklaibcliniaaGreatDoor
