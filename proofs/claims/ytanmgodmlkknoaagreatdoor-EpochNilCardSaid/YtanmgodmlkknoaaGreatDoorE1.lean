/-
  A step of the proof of this seat's statement. No condition.
-/
import Derived.Test.YtanmgodmlkknoaaGreatDoorRows
import Derived.KernelRfl
import Derived.Test.YtanmgodmlkknoaaGreatDoorD
namespace Go.Proofs.YtanmgodmlkknoaaGreatDoor
open Go Go.Rk
set_option maxRecDepth 1000000
noncomputable def bd : Code := (Tryz.f3.body).getD .skip
theorem body3 : Tryz.f3.body = some bd := by kernel_rfl
theorem s0 : bd = .seq (cL bd) (cR bd) := by kernel_rfl
theorem s1 : cR bd = .seq (cL (cR bd)) (cR (cR bd)) := by kernel_rfl
theorem s2 : cL (cR bd) = .seq (cL (cL (cR bd))) (cR (cL (cR bd))) := by kernel_rfl
theorem s3 : cR (cL (cR bd)) = .cond (.tmp 17) (cL (cR (cL (cR bd)))) (cR (cR (cL (cR bd)))) := by kernel_rfl
theorem run (s : List UInt8) (n : Int) : ((fns Tryz.prog (999 + 1)).call 3 [.str s, .int .u64 n] none (hp0 Tryz.prog)).isTrue = true := by
  rw [fns_call, callC_eq Tryz.func3 body3 (by kernel_rfl) (by kernel_rfl) (by kernel_rfl), s0, seq_go (by kernel_rfl), s1, seq_any, s2, seq_go (by kernel_rfl), s3, cond_go (t := Nat.blt 4096 s.length) (by kernel_rfl)]
  cases Nat.blt 4096 s.length
  · kernel_rfl
  · kernel_rfl
end Go.Proofs.YtanmgodmlkknoaaGreatDoor
