/-
  A step of the proof of this seat's statement. No condition.
-/
import Derived.Test.YtjjjhkdpnpjnhaaGreatDoorSB
namespace Go.Proofs.YtjjjhkdpnpjnhaaGreatDoor
open Go Go.Rk
set_option maxRecDepth 1000000
set_option linter.unusedVariables false
set_option linter.unusedSimpArgs false
set_option linter.constructorNameAsVariable false
set_option linter.unusedSectionVars false
variable [MaxL]
theorem bST_nef (c1 : List AV) (t1 f1 : Nat) (c2 : List AV) (t2 f2 : Nat) (o1 l1 k1 o2 l2 k2 i j : Nat) (a : UInt8) (s : List UInt8) (hb1 : ∀ n, belowVs n c1 = true) (hb2 : ∀ n, belowVs n c2 = true) (hi : i ≤ 1000) (hj : j ≤ 60) (h1 : i < l1) (x1 : c1[o1 + i * 1]? = some (.str (a :: s))) (h2 : i < l2) (x2 : c1[o2 + i * 1]? = some (.str [])) : Trip P 115 (lp cF3 2) (EM (uS o1 l1 k1) (uS o2 l2 k2) i) (HT c1 t1 f1 c2 t2 f2 j false) d0 (.nrm (EM (uS o1 l1 k1) (uS o2 l2 k2) (i + 1)) (HT c1 t1 f1 c2 t2 f2 (j + 1) false) d0) :=
  trip_shedW hF (by rfl) [(62, .e (.bool true)), (74, .e (.bool true)), (79, .u .undef), (80, .u (.str (a :: s))), (84, .u .undef), (85, .u (.str (a :: s))), (1000000, .e .undef), (86, .e (.bool true)), (93, .e (.bool true)), (98, .u .undef), (99, .u (.str [])), (103, .u .undef), (104, .u (.str [])), (1000000, .e .undef), (70, .e (i64 (i + 1)))] 157 KT7 [0, 1, 8, 9] [(12, [3]), (156, (List.range 12).map (fun q => 12 * (j + 1) + q))] (ofK (b := AV.bool (ltI (Int.ofNat i) (Int.ofNat l1)) = AV.bool true ∧ AV.bool (ltI (Int.ofNat i) (Int.ofNat l1)) = AV.bool true ∧ i < l1 ∧ (0 = 0 ∧ c1[o1 + i * 1]? = some (.str (a :: s))) ∧ i < l1 ∧ (0 = 0 ∧ c1[o1 + i * 1]? = some (.str (a :: s))) ∧ ((0 = 0 ∧ c1[o1 + i * 1]? = some (.str (a :: s)) ∧ beqV (.str (a :: s)) (.str (a :: s)) = true) ∧ True) ∧ AV.bool (beqB (a :: s) (a :: s)) = AV.bool true ∧ AV.bool (ltI (Int.ofNat i) (Int.ofNat l2)) = AV.bool true ∧ i < l2 ∧ (0 = 0 ∧ c1[o2 + i * 1]? = some (.str [])) ∧ i < l2 ∧ (0 = 0 ∧ c1[o2 + i * 1]? = some (.str [])) ∧ ((0 = 0 ∧ c1[o2 + i * 1]? = some (.str []) ∧ beqV (.str []) (.str []) = true) ∧ True) ∧ AV.int IntKind.i64 (wrapF IntKind.i64 (Int.ofNat (i + 1))) = i64 (i + 1) ∧ (true = true ∧ true = true ∧ true = true ∧ true = true ∧ true = true ∧ belowVs 157 c1 = true ∧ belowVs 157 c2 = true ∧ true = true ∧ true = true ∧ True) ∧ XR.nrm (EM (uS o1 l1 k1) (uS o2 l2 k2) (i + 1)) (HT c1 t1 f1 c2 t2 f2 (j + 1) false) d0 = XR.nrm (EM (uS o1 l1 k1) (uS o2 l2 k2) (i + 1)) (HT c1 t1 f1 c2 t2 f2 (j + 1) false) d0) (by
    match j, hj with
    | 0, _ => show _ = _; kernel_rfl
    | 1, _ => show _ = _; kernel_rfl
    | 2, _ => show _ = _; kernel_rfl
    | 3, _ => show _ = _; kernel_rfl
    | 4, _ => show _ = _; kernel_rfl
    | 5, _ => show _ = _; kernel_rfl
    | 6, _ => show _ = _; kernel_rfl
    | 7, _ => show _ = _; kernel_rfl
    | 8, _ => show _ = _; kernel_rfl
    | 9, _ => show _ = _; kernel_rfl
    | 10, _ => show _ = _; kernel_rfl
    | 11, _ => show _ = _; kernel_rfl
    | 12, _ => show _ = _; kernel_rfl
    | 13, _ => show _ = _; kernel_rfl
    | 14, _ => show _ = _; kernel_rfl
    | 15, _ => show _ = _; kernel_rfl
    | 16, _ => show _ = _; kernel_rfl
    | 17, _ => show _ = _; kernel_rfl
    | 18, _ => show _ = _; kernel_rfl
    | 19, _ => show _ = _; kernel_rfl
    | 20, _ => show _ = _; kernel_rfl
    | 21, _ => show _ = _; kernel_rfl
    | 22, _ => show _ = _; kernel_rfl
    | 23, _ => show _ = _; kernel_rfl
    | 24, _ => show _ = _; kernel_rfl
    | 25, _ => show _ = _; kernel_rfl
    | 26, _ => show _ = _; kernel_rfl
    | 27, _ => show _ = _; kernel_rfl
    | 28, _ => show _ = _; kernel_rfl
    | 29, _ => show _ = _; kernel_rfl
    | 30, _ => show _ = _; kernel_rfl
    | 31, _ => show _ = _; kernel_rfl
    | 32, _ => show _ = _; kernel_rfl
    | 33, _ => show _ = _; kernel_rfl
    | 34, _ => show _ = _; kernel_rfl
    | 35, _ => show _ = _; kernel_rfl
    | 36, _ => show _ = _; kernel_rfl
    | 37, _ => show _ = _; kernel_rfl
    | 38, _ => show _ = _; kernel_rfl
    | 39, _ => show _ = _; kernel_rfl
    | 40, _ => show _ = _; kernel_rfl
    | 41, _ => show _ = _; kernel_rfl
    | 42, _ => show _ = _; kernel_rfl
    | 43, _ => show _ = _; kernel_rfl
    | 44, _ => show _ = _; kernel_rfl
    | 45, _ => show _ = _; kernel_rfl
    | 46, _ => show _ = _; kernel_rfl
    | 47, _ => show _ = _; kernel_rfl
    | 48, _ => show _ = _; kernel_rfl
    | 49, _ => show _ = _; kernel_rfl
    | 50, _ => show _ = _; kernel_rfl
    | 51, _ => show _ = _; kernel_rfl
    | 52, _ => show _ = _; kernel_rfl
    | 53, _ => show _ = _; kernel_rfl
    | 54, _ => show _ = _; kernel_rfl
    | 55, _ => show _ = _; kernel_rfl
    | 56, _ => show _ = _; kernel_rfl
    | 57, _ => show _ = _; kernel_rfl
    | 58, _ => show _ = _; kernel_rfl
    | 59, _ => show _ = _; kernel_rfl
    | 60, _ => show _ = _; kernel_rfl
    | q + 61, h => exact absurd h (by omega)) (by
    repeat' (with_reducible refine And.intro ?_ ?_)
    all_goals first | with_reducible rfl | exact True.intro | assumption | exact hb1 _ | exact hb2 _ | exact rep_below _ | exact x1 | exact x2 | exact beqB_self _ | exact beqV_str _ | exact below8 | exact below_app (by assumption) rfl | exact below_app below8 rfl | rw [ltT (by omega)] | rw [ltF (by omega)] | rw [wrapI64 (by omega)] | omega))
end Go.Proofs.YtjjjhkdpnpjnhaaGreatDoor

