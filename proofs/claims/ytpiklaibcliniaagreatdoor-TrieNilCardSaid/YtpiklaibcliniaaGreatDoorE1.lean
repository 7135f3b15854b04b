/-
  A step of the proof of this seat's statement. No condition.
-/
import Derived.Test.YtpiklaibcliniaaGreatDoorW18b
namespace Go.Proofs.YtpiklaibcliniaaGreatDoor
open Go Go.Rk
set_option maxRecDepth 1000000
noncomputable def bd : Code := (Tryz.f3.body).getD .skip
theorem body3 : Tryz.f3.body = some bd := by kernel_rfl
theorem s0 : bd = .seq (cL bd) (cR bd) := by kernel_rfl
theorem s1 : cR bd = .seq (cL (cR bd)) (cR (cR bd)) := by kernel_rfl
theorem s2 : cL (cR bd) = .seq (cL (cL (cR bd))) (cR (cL (cR bd))) := by kernel_rfl
theorem s3 : cR (cL (cR bd)) = .cond (.tmp 13) (cL (cR (cL (cR bd)))) (cR (cR (cL (cR bd)))) := by kernel_rfl
theorem run (s : List UInt8) (k f a0 a1 a2 a3 a4 a5 a6 a7 p : Int) : ((fnsO Tryz.prog (knownOrc knLAST) (999 + 1)).call 3 [.agg [.int .u8 k, .str s, .int .u32 f, .int .u16 a0, .int .u16 a1, .int .u16 a2, .int .u16 a3, .int .u16 a4, .int .u16 a5, .int .u16 a6, .int .u16 a7, .int .u16 p]] none (@hpT Tryz.prog (tb 0))).isTrue = true := by
  rw [fnsO_call (by kernel_rfl), callC_eq Tryz.func3 body3 (by kernel_rfl) (by kernel_rfl) (by kernel_rfl), s0, seq_go (by kernel_rfl), s1, seq_any, s2, seq_go (by kernel_rfl), s3, cond_go (t := Nat.blt 4096 s.length) (by kernel_rfl)]
  cases Nat.blt 4096 s.length
  · kernel_rfl
  · kernel_rfl
end Go.Proofs.YtpiklaibcliniaaGreatDoor
