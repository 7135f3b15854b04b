/-
  A step of the proof of this seat's statement. No condition.
-/
import Derived.Test.YtlfmdnpcjgdbkaaGreatDoorW27
namespace Go.Proofs.YtlfmdnpcjgdbkaaGreatDoor
open Go Go.Rk
set_option maxRecDepth 1000000
noncomputable def bd : Code := (Tryz.f3.body).getD .skip
theorem body3 : Tryz.f3.body = some bd := by kernel_rfl
theorem s0 : bd = .seq (cL bd) (cR bd) := by kernel_rfl
theorem s1 : cR bd = .seq (cL (cR bd)) (cR (cR bd)) := by kernel_rfl
theorem s2 : cL (cR bd) = .seq (cL (cL (cR bd))) (cR (cL (cR bd))) := by kernel_rfl
theorem s3 : cR (cL (cR bd)) = .cond (.tmp 6) (cL (cR (cL (cR bd)))) (cR (cR (cL (cR bd)))) := by kernel_rfl
theorem run (M n : Int) (s : List UInt8) (st : Int) (th : Bool) : ((fnsO Tryz.prog (knownOrc kn10) (999 + 1)).call 3 [.agg [.int .i64 n, .str s, .int .u16 st, .bool th]] none (@hpT Tryz.prog (tb M))).isTrue = true := by
  rw [fnsO_call (by kernel_rfl), callC_eq Tryz.func3 body3 (by kernel_rfl) (by kernel_rfl) (by kernel_rfl), s0, seq_go (by kernel_rfl), s1, seq_any, s2, seq_go (by kernel_rfl), s3, cond_go (t := ltI 16384 (wrapF .i64 (Int.add 0 (Int.ofNat s.length)))) (by kernel_rfl)]
  cases ltI 16384 (wrapF .i64 (Int.add 0 (Int.ofNat s.length)))
  · cases n with
    | negSucc m => kernel_rfl
    | ofNat m =>
      cases m with
      | zero => kernel_rfl
      | succ m =>
        cases m with
        | zero => kernel_rfl
        | succ m =>
          cases m with
          | zero => kernel_rfl
          | succ m =>
            cases m with
            | zero => kernel_rfl
            | succ m =>
              cases m with
              | zero => kernel_rfl
              | succ m =>
                cases m with
                | zero => kernel_rfl
                | succ m =>
                  kernel_rfl
  · kernel_rfl
end Go.Proofs.YtlfmdnpcjgdbkaaGreatDoor
