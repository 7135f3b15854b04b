/-
  A step of the proof of this seat's statement. No condition.
-/
import Derived.Test.YtcideebbbdjlgaaGreatDoorW29b
namespace Go.Proofs.YtcideebbbdjlgaaGreatDoor
open Go Go.Rk
set_option maxRecDepth 1000000
noncomputable def bd : Code := (Tryz.f3.body).getD .skip
theorem body3 : Tryz.f3.body = some bd := by kernel_rfl
theorem s0 : bd = .seq (cL bd) (cR bd) := by kernel_rfl
theorem s1 : cR bd = .seq (cL (cR bd)) (cR (cR bd)) := by kernel_rfl
theorem s2 : cL (cR bd) = .seq (cL (cL (cR bd))) (cR (cL (cR bd))) := by kernel_rfl
theorem s3 : cR (cL (cR bd)) = .cond (.tmp 21) (cL (cR (cL (cR bd)))) (cR (cR (cL (cR bd)))) := by kernel_rfl
theorem run (M dd c k n tm a b : Int) (s r : List UInt8) (th : Bool) : ((fnsO Tryz.prog (knownOrc kn15) (999 + 1)).call 3 [.agg [.int .i64 dd, .int .u32 c, .int .i64 k, .str s, .bool th, .int .u64 n, .int .u8 tm, .int .i64 a, .int .i64 b], .str r] none (@hpT Tryz.prog (tb M))).isTrue = true := by
  rw [fnsO_call (by kernel_rfl), callC_eq Tryz.func3 body3 (by kernel_rfl) (by kernel_rfl) (by kernel_rfl), s0, seq_go (by kernel_rfl), s1, seq_any, s2, seq_go (by kernel_rfl), s3, cond_go (t := ltI 16384 (wrapF .i64 (Int.add (Int.ofNat r.length) (Int.ofNat s.length)))) (by kernel_rfl)]
  cases ltI 16384 (wrapF .i64 (Int.add (Int.ofNat r.length) (Int.ofNat s.length)))
  · cases k with
    | negSucc m => kernel_rfl
    | ofNat m =>
      cases m with
      | zero => kernel_rfl
      | succ m =>
        cases m with
        | zero => kernel_rfl
        | succ m =>
          cases m with
          | zero => kernel_rfl
          | succ m =>
            cases m with
            | zero => kernel_rfl
            | succ m =>
              cases m with
              | zero => kernel_rfl
              | succ m => kernel_rfl
  · kernel_rfl
end Go.Proofs.YtcideebbbdjlgaaGreatDoor
