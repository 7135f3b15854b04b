/-
  A step of the proof of this seat's statement. No condition.
-/
import Derived.Test.YtjjjhkdpnpjnhaaGreatDoorWA
import Derived.Test.YtjjjhkdpnpjnhaaGreatDoorH
import Derived.Test.YtjjjhkdpnpjnhaaGreatDoorG
namespace Go.Proofs.YtjjjhkdpnpjnhaaGreatDoor
open Go Go.Rk
set_option maxRecDepth 1000000
set_option linter.unusedVariables false
set_option linter.unusedSimpArgs false
set_option linter.constructorNameAsVariable false
set_option linter.unusedSectionVars false
/-- the library's MaxLen, whatever it is -/
class MaxL where
  M : Int
instance (priority := 3000) tbM [MaxL] : TabC := tb MaxL.M
theorem hFW [MaxL] : FOK P FW := hFWM MaxL.M
/-- what is wanted, as it lies in memory -/
def actH (k : Nat) : List AV := [.int .u8 (Int.ofNat k), .int .u8 (Int.ofNat 0), .str [], .int .u32 (Int.ofNat 0), .int .u16 (Int.ofNat 0), .int .u16 (Int.ofNat 0), .int .u16 (Int.ofNat 0), .int .u16 (Int.ofNat 0), .int .u16 (Int.ofNat 0), .int .u16 (Int.ofNat 0), .int .u16 (Int.ofNat 0), .int .u16 (Int.ofNat 0), .int .u16 (Int.ofNat 0), .str []]
def isAct (k : Nat) : List AV → Option (List UInt8)
  | [a0, a1, a2, a3, a4, a5, a6, a7, a8, a9, a10, a11, a12, a13, .str s] => bif beqVs [a0, a1, a2, a3, a4, a5, a6, a7, a8, a9, a10, a11, a12, a13] (actH k) then some s else none
  | _ => none
theorem isAct_eq [TabC] {k : Nat} {cs : List AV} {s : List UInt8} (h : isAct k cs = some s) : cs = actH k ++ [.str s] := by
  unfold isAct at h
  split at h
  · rename_i a0 a1 a2 a3 a4 a5 a6 a7 a8 a9 a10 a11 a12 a13 s'
    cases hb : beqVs [a0, a1, a2, a3, a4, a5, a6, a7, a8, a9, a10, a11, a12, a13] (actH k) with
    | false => rw [hb] at h; cases h
    | true =>
      rw [hb] at h
      injection h with h
      subst h
      have := beqVs_eq hb
      rw [← this]; rfl
  · cases h
def orcO (b : Nat) (k : Nat) (x : UInt8) (s : List UInt8) (h : Heap) : Option (AV × Heap) := match h.t.get b with
  | some (.cells cs 42 0 0 false) => (match isAct k cs with
    | some s' => bif (Nat.beq k 3 || Nat.beq k 4) && Nat.ble 9 b then some (.bool (beqB s' (x :: s)), h) else none
    | none => none)
  | _ => none
def orcA : OrcH := fun f args h => match knownOrc kn11 f args with
  | some v => some (v, h)
  | none => (match f, args with
    | 10, [.slice b 0 0 1 1 15 false, .int .u8 (.ofNat k), .str (x :: s)] => orcO b k x s h
    | _, _ => none)
noncomputable abbrev F : Fns := fnsH P orcA 1000
abbrev i64 (n : Nat) : AV := .int .i64 (Int.ofNat n)
abbrev by8 (n : Nat) : AV := .int .u8 (Int.ofNat n)
abbrev tabs [MaxL] : List (Nat × AObj) := [tMx MaxL.M, tPw]
abbrev kF3 : Nat := 3
noncomputable abbrev cF3 : Func := Tryz.f3
theorem dF3 : Tryz.prog.funcs[kF3]? = some cF3 := Tryz.func3
abbrev KA : Keep := [(9, some []), (10, some []), (0, some []), (2, some [])]
/-- the arguments' blocks -/
abbrev obA [MaxL] (c1 : List AV) (t1 f1 : Nat) (c2 : List AV) (t2 f2 : Nat) : List (Nat × AObj) := (9, .cells c1 t1 0 f1 false) :: (10, .cells c2 t2 0 f2 false) :: tabs
noncomputable abbrev HA [MaxL] (c1 : List AV) (t1 f1 : Nat) (c2 : List AV) (t2 f2 : Nat) : Heap := heapOf 11 (obA c1 t1 f1 c2 t2 f2)
abbrev kF10 : Nat := 10
noncomputable abbrev cF10 : Func := Tryz.f10
theorem dF10 : Tryz.prog.funcs[kF10]? = some cF10 := Tryz.func10
noncomputable def B0 : Code := bodyOf cF3
noncomputable def B1 : Code := cR B0
noncomputable def B2 : Code := cR B1
noncomputable def B3 : Code := cR B2
noncomputable def B4 : Code := cR B3
noncomputable def B5 : Code := cR B4
noncomputable def B6 : Code := cR B5
noncomputable def B7 : Code := cR B6
noncomputable def B8 : Code := cR B7
noncomputable def B9 : Code := cR B8
noncomputable def B10 : Code := cR B9
noncomputable def B11 : Code := cR B10
section
variable [MaxL]
theorem tabOKM : TabOK P := tabOK MaxL.M
theorem orc_T {orc : Orc} (ho : OrcOK P orc) {f : Nat} {args : List AV} {v : AV} (he : orc f args = some v) (h : Heap) : CallT P f args h (.ret v h none) := by
  have hf := fnsO_all ho 1
  have := (FOK.mk hf.1 hf.2.1 hf.2.2 : FOK P (fnsO P orc 1)).callT (f := f) (args := args) (h := h)
  have e : (fnsO P orc 1).call f args none h = .ret v h none := by
    show callO P orc _ f args none h = _
    unfold callO
    rw [he]
  rwa [e] at this
end
end Go.Proofs.YtjjjhkdpnpjnhaaGreatDoor

namespace Go.Proofs.YtjjjhkdpnpjnhaaGreatDoor
open Go Go.Rk
set_option maxRecDepth 1000000
set_option linter.unusedVariables false
set_option linter.unusedSimpArgs false
set_option linter.constructorNameAsVariable false
set_option linter.unusedSectionVars false
variable [MaxL]
theorem only3 (s s' : List UInt8) (y : UInt8) : CallT P kF10 [.slice 9 0 0 1 1 15 false, .int .u8 (Int.ofNat 3), .str (y :: s')] (hpOne P (actH 3 ++ [.str s]) 42 0) (.ret (.bool (beqB s (y :: s'))) (hpOne P (actH 3 ++ [.str s]) 42 0) none) :=
  callT_hC hFW [] dF10 (c := bodyOf cF10) (by kernel_rfl) (by kernel_rfl) (by kernel_rfl) (by kernel_rfl) (ofK (b :=  (CR.ret (.bool (beqB s (y :: s'))) (hpOne P (actH 3 ++ [.str s]) 42 0) none) = (CR.ret (.bool (beqB s (y :: s'))) (hpOne P (actH 3 ++ [.str s]) 42 0) none)) (by kernel_rfl) (by
    repeat' (with_reducible refine And.intro ?_ ?_)
    all_goals first | with_reducible rfl | exact True.intro | assumption | exact below8 | exact below_app (by assumption) rfl | exact below_app below8 rfl | rw [ltT (by omega)] | rw [ltF (by omega)] | rw [wrapI64 (by omega)] | omega))
theorem only4 (s s' : List UInt8) (y : UInt8) : CallT P kF10 [.slice 9 0 0 1 1 15 false, .int .u8 (Int.ofNat 4), .str (y :: s')] (hpOne P (actH 4 ++ [.str s]) 42 0) (.ret (.bool (beqB s (y :: s'))) (hpOne P (actH 4 ++ [.str s]) 42 0) none) :=
  callT_hC hFW [] dF10 (c := bodyOf cF10) (by kernel_rfl) (by kernel_rfl) (by kernel_rfl) (by kernel_rfl) (ofK (b :=  (CR.ret (.bool (beqB s (y :: s'))) (hpOne P (actH 4 ++ [.str s]) 42 0) none) = (CR.ret (.bool (beqB s (y :: s'))) (hpOne P (actH 4 ++ [.str s]) 42 0) none)) (by kernel_rfl) (by
    repeat' (with_reducible refine And.intro ?_ ?_)
    all_goals first | with_reducible rfl | exact True.intro | assumption | exact below8 | exact below_app (by assumption) rfl | exact below_app below8 rfl | rw [ltT (by omega)] | rw [ltF (by omega)] | rw [wrapI64 (by omega)] | omega))
theorem only_T {k : Nat} (hk : (Nat.beq k 3 || Nat.beq k 4) = true) {b : Nat} (hb : 9 ≤ b) (s s' : List UInt8) (x : UInt8) (h : Heap) (hg : h.t.get b = some (.cells (actH k ++ [.str s]) 42 0 0 false)) :
    CallT P 10 [.slice b 0 0 1 1 15 false, .int .u8 (Int.ofNat k), .str (x :: s')] h (.ret (.bool (beqB s (x :: s'))) h none) := by
  have hk : k = 3 ∨ k = 4 := by
    rw [Bool.or_eq_true] at hk
    exact hk.imp Nat.eq_of_beq_eq_true Nat.eq_of_beq_eq_true
  have hG : P.globals.size ≤ b := Nat.le_trans (Nat.le_of_ble_eq_true (show Nat.ble P.globals.size 9 = true by kernel_rfl)) hb
  rcases hk with rfl | rfl
  · exact callT_read tabOKM (only3 s s' x) (by simp [onlyVs, onlyV]) rfl rfl h hG hg
  · exact callT_read tabOKM (only4 s s' x) (by simp [onlyVs, onlyV]) rfl rfl h hG hg
theorem orcA_ok : OrcHOK P orcA := by
  intro f args h v h' ho
  unfold orcA at ho
  split at ho
  · rename_i u hu
    injection ho with ho
    injection ho with h1 h2
    subst h1 h2
    exact orc_T (orc11 MaxL.M) hu h
  · split at ho
    · rename_i b k x s hkn
      unfold orcO at ho
      split at ho
      · rename_i cs hg
        split at ho
        · rename_i s' hs
          rw [isAct_eq hs] at hg
          cases hc : (Nat.beq k 3 || Nat.beq k 4) with
          | false => rw [hc] at ho; cases ho
          | true =>
            cases hb : Nat.ble 9 b with
            | false => rw [hc, hb] at ho; cases ho
            | true =>
              rw [hc, hb] at ho
              injection ho with ho
              injection ho with h1 h2
              subst h1 h2
              exact only_T hc (Nat.le_of_ble_eq_true hb) s' s x h hg
        · cases ho
      · cases ho
    · cases ho
theorem hF : FOK P F := fnsH_ok orcA_ok 1000
end Go.Proofs.YtjjjhkdpnpjnhaaGreatDoor


namespace Go.Proofs.YtjjjhkdpnpjnhaaGreatDoor
open Go Go.Rk
set_option maxRecDepth 1000000
set_option linter.unusedVariables false
set_option linter.unusedSimpArgs false
set_option linter.constructorNameAsVariable false
set_option linter.unusedSectionVars false
variable [MaxL]
/-! sums of lengths -/
abbrev uS (o l k : Nat) : AV := .slice 9 0 o l k 1 false
abbrev vS (o l k : Nat) : AV := .slice 10 0 o l k 1 false
abbrev E1 (u v : AV) (n : Int) (i : Nat) : T := envOf [(0, u), (1, v), (5, .int .i64 n), (6, i64 i)]
abbrev E2 (u v : AV) (n : Int) (i : Nat) : T := envOf [(0, u), (1, v), (5, .int .i64 n), (7, i64 i)]
theorem sum1 (c1 : List AV) (t1 f1 : Nat) (c2 : List AV) (t2 f2 : Nat) (w : AV) (o l k i : Nat) (n : Int) (y : List UInt8) (hw : belowV 11 w = true) (hb1 : ∀ n, belowVs n c1 = true) (hb2 : ∀ n, belowVs n c2 = true) (hi : i < l) (hl : l < 9223372036854775808) (hx : c1[o + i * 1]? = some (.str y)) : Trip P 115 (lp cF3 0) (E1 (uS o l k) w n i) (HA c1 t1 f1 c2 t2 f2) d0 (.nrm (E1 (uS o l k) w (wrapF .i64 (Int.add n (Int.ofNat y.length))) (i + 1)) (HA c1 t1 f1 c2 t2 f2) d0) :=
  trip_shed hF (by rfl) [(13, .e (.bool true)), (19, .u .undef), (20, .u (.str y)), (15, .e (i64 (i + 1)))] 11 KA [0, 1, 5, 6] (ofK (b := AV.bool (ltI (Int.ofNat i) (Int.ofNat l)) = AV.bool true ∧ i < l ∧ (0 = 0 ∧ c1[o + i * 1]? = some (AV.str y)) ∧ AV.int IntKind.i64 (wrapF IntKind.i64 (Int.ofNat (i + 1))) = AV.int IntKind.i64 (Int.ofNat (i + 1)) ∧ ((true && (true && (belowV 11 (Prod.snd (1, w)) && true && true) && true) && true && true && true) = true ∧ belowVs 11 c1 = true ∧ belowVs 11 c2 = true ∧ true = true ∧ true = true ∧ True) ∧ XR.nrm (envOf [(0, AV.slice 9 0 o l k 1 false), (1, Prod.snd (1, w)), (5, AV.int IntKind.i64 (wrapF IntKind.i64 (Int.add n (Int.ofNat (List.length y))))), (6, AV.int IntKind.i64 (Int.ofNat (i + 1)))]) (heapOf 11 ((9, AObj.cells c1 t1 0 f1 false) :: (10, AObj.cells c2 t2 0 f2 false) :: tabs)) (Ds.mk [] none none) = XR.nrm (envOf [(0, AV.slice 9 0 o l k 1 false), (1, Prod.snd (1, w)), (5, AV.int IntKind.i64 (wrapF IntKind.i64 (Int.add n (Int.ofNat (List.length y))))), (6, AV.int IntKind.i64 (Int.ofNat (i + 1)))]) (heapOf 11 ((9, AObj.cells c1 t1 0 f1 false) :: (10, AObj.cells c2 t2 0 f2 false) :: tabs)) (Ds.mk [] none none)) (by kernel_rfl) (by
    repeat' (with_reducible refine And.intro ?_ ?_)
    all_goals first | with_reducible rfl | exact True.intro | assumption | exact hx | exact hb1 _ | exact hb2 _ | (simp [hw]; done) | exact below8 | exact below_app (by assumption) rfl | exact below_app below8 rfl | rw [ltT (by omega)] | rw [ltF (by omega)] | rw [wrapI64 (by omega)] | omega))
theorem sum1e (c1 : List AV) (t1 f1 : Nat) (c2 : List AV) (t2 f2 : Nat) (w : AV) (o l k : Nat) (n : Int) (hw : belowV 11 w = true) (hb1 : ∀ n, belowVs n c1 = true) (hb2 : ∀ n, belowVs n c2 = true) : Trip P 115 (lp cF3 0) (E1 (uS o l k) w n l) (HA c1 t1 f1 c2 t2 f2) d0 (.exit 0 (E1 (uS o l k) w n l) (HA c1 t1 f1 c2 t2 f2) d0) :=
  trip_shed hF (by rfl) [(13, .e (.bool false))] 11 KA [0, 1, 5, 6] (ofK (b := AV.bool (ltI (Int.ofNat l) (Int.ofNat l)) = AV.bool false ∧ ((true && (true && (belowV 11 (Prod.snd (1, w)) && true && true) && true) && true && true && true) = true ∧ belowVs 11 c1 = true ∧ belowVs 11 c2 = true ∧ true = true ∧ true = true ∧ True) ∧ XR.exit 0 (envOf [(0, AV.slice 9 0 o l k 1 false), (1, Prod.snd (1, w)), (5, AV.int IntKind.i64 n), (6, AV.int IntKind.i64 (Int.ofNat l))]) (heapOf 11 ((9, AObj.cells c1 t1 0 f1 false) :: (10, AObj.cells c2 t2 0 f2 false) :: tabs)) (Ds.mk [] none none) = XR.exit 0 (envOf [(0, AV.slice 9 0 o l k 1 false), (1, Prod.snd (1, w)), (5, AV.int IntKind.i64 n), (6, AV.int IntKind.i64 (Int.ofNat l))]) (heapOf 11 ((9, AObj.cells c1 t1 0 f1 false) :: (10, AObj.cells c2 t2 0 f2 false) :: tabs)) (Ds.mk [] none none)) (by kernel_rfl) (by
    repeat' (with_reducible refine And.intro ?_ ?_)
    all_goals first | with_reducible rfl | exact True.intro | assumption | exact hb1 _ | exact hb2 _ | (simp [hw]; done) | exact below8 | exact below_app (by assumption) rfl | exact below_app below8 rfl | rw [ltT (by omega)] | rw [ltF (by omega)] | rw [wrapI64 (by omega)] | omega))
theorem sum2 (c1 : List AV) (t1 f1 : Nat) (c2 : List AV) (t2 f2 : Nat) (w : AV) (o l k i : Nat) (n : Int) (y : List UInt8) (hw : belowV 11 w = true) (hb1 : ∀ n, belowVs n c1 = true) (hb2 : ∀ n, belowVs n c2 = true) (hi : i < l) (hl : l < 9223372036854775808) (hx : c2[o + i * 1]? = some (.str y)) : Trip P 115 (lp cF3 1) (E2 w (vS o l k) n i) (HA c1 t1 f1 c2 t2 f2) d0 (.nrm (E2 w (vS o l k) (wrapF .i64 (Int.add n (Int.ofNat y.length))) (i + 1)) (HA c1 t1 f1 c2 t2 f2) d0) :=
  trip_shed hF (by rfl) [(26, .e (.bool true)), (32, .u .undef), (33, .u (.str y)), (28, .e (i64 (i + 1)))] 11 KA [0, 1, 5, 7] (ofK (b := AV.bool (ltI (Int.ofNat i) (Int.ofNat l)) = AV.bool true ∧ i < l ∧ (0 = 0 ∧ c2[o + i * 1]? = some (AV.str y)) ∧ AV.int IntKind.i64 (wrapF IntKind.i64 (Int.ofNat (i + 1))) = AV.int IntKind.i64 (Int.ofNat (i + 1)) ∧ ((true && (belowV 11 (Prod.snd (0, w)) && true && true) && true && true && true) = true ∧ belowVs 11 c1 = true ∧ belowVs 11 c2 = true ∧ true = true ∧ true = true ∧ True) ∧ XR.nrm (envOf [(0, Prod.snd (0, w)), (1, AV.slice 10 0 o l k 1 false), (5, AV.int IntKind.i64 (wrapF IntKind.i64 (Int.add n (Int.ofNat (List.length y))))), (7, AV.int IntKind.i64 (Int.ofNat (i + 1)))]) (heapOf 11 ((9, AObj.cells c1 t1 0 f1 false) :: (10, AObj.cells c2 t2 0 f2 false) :: tabs)) (Ds.mk [] none none) = XR.nrm (envOf [(0, Prod.snd (0, w)), (1, AV.slice 10 0 o l k 1 false), (5, AV.int IntKind.i64 (wrapF IntKind.i64 (Int.add n (Int.ofNat (List.length y))))), (7, AV.int IntKind.i64 (Int.ofNat (i + 1)))]) (heapOf 11 ((9, AObj.cells c1 t1 0 f1 false) :: (10, AObj.cells c2 t2 0 f2 false) :: tabs)) (Ds.mk [] none none)) (by kernel_rfl) (by
    repeat' (with_reducible refine And.intro ?_ ?_)
    all_goals first | with_reducible rfl | exact True.intro | assumption | exact hx | exact hb1 _ | exact hb2 _ | (simp [hw]; done) | exact below8 | exact below_app (by assumption) rfl | exact below_app below8 rfl | rw [ltT (by omega)] | rw [ltF (by omega)] | rw [wrapI64 (by omega)] | omega))
theorem sum2e (c1 : List AV) (t1 f1 : Nat) (c2 : List AV) (t2 f2 : Nat) (w : AV) (o l k : Nat) (n : Int) (hw : belowV 11 w = true) (hb1 : ∀ n, belowVs n c1 = true) (hb2 : ∀ n, belowVs n c2 = true) : Trip P 115 (lp cF3 1) (E2 w (vS o l k) n l) (HA c1 t1 f1 c2 t2 f2) d0 (.exit 2 (E2 w (vS o l k) n l) (HA c1 t1 f1 c2 t2 f2) d0) :=
  trip_shed hF (by rfl) [(26, .e (.bool false))] 11 KA [0, 1, 5, 7] (ofK (b := AV.bool (ltI (Int.ofNat l) (Int.ofNat l)) = AV.bool false ∧ ((true && (belowV 11 (Prod.snd (0, w)) && true && true) && true && true && true) = true ∧ belowVs 11 c1 = true ∧ belowVs 11 c2 = true ∧ true = true ∧ true = true ∧ True) ∧ XR.exit 2 (envOf [(0, Prod.snd (0, w)), (1, AV.slice 10 0 o l k 1 false), (5, AV.int IntKind.i64 n), (7, AV.int IntKind.i64 (Int.ofNat l))]) (heapOf 11 ((9, AObj.cells c1 t1 0 f1 false) :: (10, AObj.cells c2 t2 0 f2 false) :: tabs)) (Ds.mk [] none none) = XR.exit 2 (envOf [(0, Prod.snd (0, w)), (1, AV.slice 10 0 o l k 1 false), (5, AV.int IntKind.i64 n), (7, AV.int IntKind.i64 (Int.ofNat l))]) (heapOf 11 ((9, AObj.cells c1 t1 0 f1 false) :: (10, AObj.cells c2 t2 0 f2 false) :: tabs)) (Ds.mk [] none none)) (by kernel_rfl) (by
    repeat' (with_reducible refine And.intro ?_ ?_)
    all_goals first | with_reducible rfl | exact True.intro | assumption | exact hb1 _ | exact hb2 _ | (simp [hw]; done) | exact below8 | exact below_app (by assumption) rfl | exact below_app below8 rfl | rw [ltT (by omega)] | rw [ltF (by omega)] | rw [wrapI64 (by omega)] | omega))
theorem sum3 (c1 : List AV) (t1 f1 : Nat) (c2 : List AV) (t2 f2 : Nat) (w : AV) (o l k i : Nat) (n : Int) (y : List UInt8) (hw : belowV 11 w = true) (hb1 : ∀ n, belowVs n c1 = true) (hb2 : ∀ n, belowVs n c2 = true) (hi : i < l) (hl : l < 9223372036854775808) (hx : c1[o + i * 1]? = some (.str y)) : Trip P 115 (lp cF3 1) (E2 w (uS o l k) n i) (HA c1 t1 f1 c2 t2 f2) d0 (.nrm (E2 w (uS o l k) (wrapF .i64 (Int.add n (Int.ofNat y.length))) (i + 1)) (HA c1 t1 f1 c2 t2 f2) d0) :=
  trip_shed hF (by rfl) [(26, .e (.bool true)), (32, .u .undef), (33, .u (.str y)), (28, .e (i64 (i + 1)))] 11 KA [0, 1, 5, 7] (ofK (b := AV.bool (ltI (Int.ofNat i) (Int.ofNat l)) = AV.bool true ∧ i < l ∧ (0 = 0 ∧ c1[o + i * 1]? = some (AV.str y)) ∧ AV.int IntKind.i64 (wrapF IntKind.i64 (Int.ofNat (i + 1))) = AV.int IntKind.i64 (Int.ofNat (i + 1)) ∧ ((true && (belowV 11 (Prod.snd (0, w)) && true && true) && true && true && true) = true ∧ belowVs 11 c1 = true ∧ belowVs 11 c2 = true ∧ true = true ∧ true = true ∧ True) ∧ XR.nrm (envOf [(0, Prod.snd (0, w)), (1, AV.slice 9 0 o l k 1 false), (5, AV.int IntKind.i64 (wrapF IntKind.i64 (Int.add n (Int.ofNat (List.length y))))), (7, AV.int IntKind.i64 (Int.ofNat (i + 1)))]) (heapOf 11 ((9, AObj.cells c1 t1 0 f1 false) :: (10, AObj.cells c2 t2 0 f2 false) :: tabs)) (Ds.mk [] none none) = XR.nrm (envOf [(0, Prod.snd (0, w)), (1, AV.slice 9 0 o l k 1 false), (5, AV.int IntKind.i64 (wrapF IntKind.i64 (Int.add n (Int.ofNat (List.length y))))), (7, AV.int IntKind.i64 (Int.ofNat (i + 1)))]) (heapOf 11 ((9, AObj.cells c1 t1 0 f1 false) :: (10, AObj.cells c2 t2 0 f2 false) :: tabs)) (Ds.mk [] none none)) (by kernel_rfl) (by
    repeat' (with_reducible refine And.intro ?_ ?_)
    all_goals first | with_reducible rfl | exact True.intro | assumption | exact hx | exact hb1 _ | exact hb2 _ | (simp [hw]; done) | exact below8 | exact below_app (by assumption) rfl | exact below_app below8 rfl | rw [ltT (by omega)] | rw [ltF (by omega)] | rw [wrapI64 (by omega)] | omega))
theorem sum3e (c1 : List AV) (t1 f1 : Nat) (c2 : List AV) (t2 f2 : Nat) (w : AV) (o l k : Nat) (n : Int) (hw : belowV 11 w = true) (hb1 : ∀ n, belowVs n c1 = true) (hb2 : ∀ n, belowVs n c2 = true) : Trip P 115 (lp cF3 1) (E2 w (uS o l k) n l) (HA c1 t1 f1 c2 t2 f2) d0 (.exit 2 (E2 w (uS o l k) n l) (HA c1 t1 f1 c2 t2 f2) d0) :=
  trip_shed hF (by rfl) [(26, .e (.bool false))] 11 KA [0, 1, 5, 7] (ofK (b := AV.bool (ltI (Int.ofNat l) (Int.ofNat l)) = AV.bool false ∧ ((true && (belowV 11 (Prod.snd (0, w)) && true && true) && true && true && true) = true ∧ belowVs 11 c1 = true ∧ belowVs 11 c2 = true ∧ true = true ∧ true = true ∧ True) ∧ XR.exit 2 (envOf [(0, Prod.snd (0, w)), (1, AV.slice 9 0 o l k 1 false), (5, AV.int IntKind.i64 n), (7, AV.int IntKind.i64 (Int.ofNat l))]) (heapOf 11 ((9, AObj.cells c1 t1 0 f1 false) :: (10, AObj.cells c2 t2 0 f2 false) :: tabs)) (Ds.mk [] none none) = XR.exit 2 (envOf [(0, Prod.snd (0, w)), (1, AV.slice 9 0 o l k 1 false), (5, AV.int IntKind.i64 n), (7, AV.int IntKind.i64 (Int.ofNat l))]) (heapOf 11 ((9, AObj.cells c1 t1 0 f1 false) :: (10, AObj.cells c2 t2 0 f2 false) :: tabs)) (Ds.mk [] none none)) (by kernel_rfl) (by
    repeat' (with_reducible refine And.intro ?_ ?_)
    all_goals first | with_reducible rfl | exact True.intro | assumption | exact hb1 _ | exact hb2 _ | (simp [hw]; done) | exact below8 | exact below_app (by assumption) rfl | exact below_app below8 rfl | rw [ltT (by omega)] | rw [ltF (by omega)] | rw [wrapI64 (by omega)] | omega))
end Go.Proofs.YtjjjhkdpnpjnhaaGreatDoor


namespace Go.Proofs.YtjjjhkdpnpjnhaaGreatDoor
open Go Go.Rk
set_option maxRecDepth 1000000
set_option linter.unusedVariables false
set_option linter.unusedSimpArgs false
set_option linter.constructorNameAsVariable false
set_option linter.unusedSectionVars false
variable [MaxL]
abbrev noH : List AV := [by8 0, .slice0, i64 0, .str [], .str [], by8 0, .slice0, i64 0, .bool true]
abbrev rdC (h t l : AV) (raw : Bool) : List AV := [h, .nilp, t, l, i64 0, .bool raw]
abbrev seC (p : AV) (st : Nat) (un : List AV) (en sa : AV) : List AV := .ptr 12 0 0 :: p :: i64 0 :: by8 st :: (un ++ [en, sa])
abbrev un0 : List AV := [.str [], by8 0, by8 0, .str [], .str [], .slice0, by8 0, i64 0, .bool false, .bool false]
section
variable (c1 : List AV) (t1 f1 : Nat) (c2 : List AV) (t2 f2 : Nat)
noncomputable abbrev H5 : Heap := heapOf 14 ((11, .cells noH 103 0 0 false) :: (12, .cells (rdC (.ptr 11 0 0) (.func 29 [.ptr 12 0 0] []) .slice0 false) 72 0 0 false) :: (13, .cells (seC .slice0 1 un0 (.bool false) (.bool false)) 51 0 0 false) :: obA c1 t1 f1 c2 t2 f2)
end
abbrev E8 (u v : AV) : T := envOf [(0, u), (1, v), (8, .ptr 13 0 0)]
theorem p5 (c1 : List AV) (t1 f1 : Nat) (c2 : List AV) (t2 f2 : Nat) (u v : AV) (hu : belowV 11 u = true) (hv : belowV 11 v = true) (hu2 : ∀ n, 11 ≤ n → belowV n u = true) (hv2 : ∀ n, 11 ≤ n → belowV n v = true) (hb1 : ∀ n, belowVs n c1 = true) (hb2 : ∀ n, belowVs n c2 = true) : Trip P 115 (cL B5) (envOf [(0, u), (1, v)]) (HA c1 t1 f1 c2 t2 f2) d0 (.nrm (E8 u v) (H5 c1 t1 f1 c2 t2 f2) d0) :=
  trip_shed hF (by rfl) [] 14 ([(11, some []), (12, some []), (13, some [])] ++ KA) [0, 1, 8] (ofK (b := ((true && (belowV 14 (Prod.snd (0, u)) && (belowV 14 (Prod.snd (1, v)) && true && true) && true) && true && true && true) = true ∧ true = true ∧ true = true ∧ true = true ∧ belowVs 14 c1 = true ∧ belowVs 14 c2 = true ∧ true = true ∧ true = true ∧ True) ∧ XR.nrm (envOf [(0, Prod.snd (0, u)), (1, Prod.snd (1, v)), (8, AV.ptr 13 0 0)]) (heapOf 14 ((9, AObj.cells c1 t1 0 f1 false) :: (10, AObj.cells c2 t2 0 f2 false) :: (11, AObj.cells [AV.int IntKind.u8 (Int.ofNat 0), AV.slice0, AV.int IntKind.i64 (Int.ofNat 0), AV.str [], AV.str [], AV.int IntKind.u8 (Int.ofNat 0), AV.slice0, AV.int IntKind.i64 (Int.ofNat 0), AV.bool true] 103 0 0 false) :: (12, AObj.cells [AV.ptr 11 0 0, AV.nilp, AV.func 29 [AV.ptr 12 0 0] [], AV.slice0, AV.int IntKind.i64 (Int.ofNat 0), AV.bool false] 72 0 0 false) :: (13, AObj.cells [AV.ptr 12 0 0, AV.slice0, AV.int IntKind.i64 (Int.ofNat 0), AV.int IntKind.u8 (Int.ofNat 1), AV.str [], AV.int IntKind.u8 (Int.ofNat 0), AV.int IntKind.u8 (Int.ofNat 0), AV.str [], AV.str [], AV.slice0, AV.int IntKind.u8 (Int.ofNat 0), AV.int IntKind.i64 (Int.ofNat 0), AV.bool false, AV.bool false, AV.bool false, AV.bool false] 51 0 0 false) :: tabs)) (Ds.mk [] none none) = XR.nrm (envOf [(0, Prod.snd (0, u)), (1, Prod.snd (1, v)), (8, AV.ptr 13 0 0)]) (heapOf 14 ((9, AObj.cells c1 t1 0 f1 false) :: (10, AObj.cells c2 t2 0 f2 false) :: (11, AObj.cells [AV.int IntKind.u8 (Int.ofNat 0), AV.slice0, AV.int IntKind.i64 (Int.ofNat 0), AV.str [], AV.str [], AV.int IntKind.u8 (Int.ofNat 0), AV.slice0, AV.int IntKind.i64 (Int.ofNat 0), AV.bool true] 103 0 0 false) :: (12, AObj.cells [AV.ptr 11 0 0, AV.nilp, AV.func 29 [AV.ptr 12 0 0] [], AV.slice0, AV.int IntKind.i64 (Int.ofNat 0), AV.bool false] 72 0 0 false) :: (13, AObj.cells [AV.ptr 12 0 0, AV.slice0, AV.int IntKind.i64 (Int.ofNat 0), AV.int IntKind.u8 (Int.ofNat 1), AV.str [], AV.int IntKind.u8 (Int.ofNat 0), AV.int IntKind.u8 (Int.ofNat 0), AV.str [], AV.str [], AV.slice0, AV.int IntKind.u8 (Int.ofNat 0), AV.int IntKind.i64 (Int.ofNat 0), AV.bool false, AV.bool false, AV.bool false, AV.bool false] 51 0 0 false) :: tabs)) (Ds.mk [] none none)) (by kernel_rfl) (by
    repeat' (with_reducible refine And.intro ?_ ?_)
    all_goals first | with_reducible rfl | exact True.intro | assumption | exact hb1 _ | exact hb2 _ | (simp [hu2, hv2]; done) | exact below8 | exact below_app (by assumption) rfl | exact below_app below8 rfl | rw [ltT (by omega)] | rw [ltF (by omega)] | rw [wrapI64 (by omega)] | omega))
abbrev unC : List AV := [.str [67, 79, 78, 78, 69, 67, 84], by8 1, by8 3, .str [97, 58, 49], .str [97, 58, 49], .slice0, by8 0, i64 0, .bool false, .bool false]
abbrev unU : List AV := [.undef, .undef, .undef, .undef, .undef, .undef, .undef, .undef, .undef, .undef]
section
variable (c1 : List AV) (t1 f1 : Nat) (c2 : List AV) (t2 f2 : Nat)
noncomputable abbrev HQ (st : Nat) : Heap := heapOf 157 ((11, .dead) :: (12, .cells (rdC .undef (.func 50 [.ptr 12 0 0] []) .undef true) 72 0 0 false) :: (13, .cells (seC (.slice 156 0 12 0 0 12 false) st unC (.bool false) (.bool false)) 51 0 0 false) :: (156, .cells (rep 12 [.undef]) 77 0 0 false) :: obA c1 t1 f1 c2 t2 f2)
noncomputable abbrev HT (j : Nat) (sd : Bool) : Heap := heapOf 157 ((11, .dead) :: (12, .cells (rdC .undef (.func 50 [.ptr 12 0 0] []) .undef true) 72 0 0 false) :: (13, .cells (seC (.slice 156 j (12 * (j + 1)) 0 0 12 false) 5 unU .undef (.bool sd)) 51 0 0 false) :: (156, .cells (rep (12 * (j + 1)) [.undef]) 77 j 0 false) :: obA c1 t1 f1 c2 t2 f2)
end
abbrev KT7 : Keep := [(11, some []), (12, some []), (13, some []), (156, some [])] ++ KA
theorem p6 (c1 : List AV) (t1 f1 : Nat) (c2 : List AV) (t2 f2 : Nat) (u v : AV) (hu : belowV 11 u = true) (hv : belowV 11 v = true) (hu2 : ∀ n, 11 ≤ n → belowV n u = true) (hv2 : ∀ n, 11 ≤ n → belowV n v = true) (hb1 : ∀ n, belowVs n c1 = true) (hb2 : ∀ n, belowVs n c2 = true) : Trip P 115 (cL B6) (E8 u v) (H5 c1 t1 f1 c2 t2 f2) d0 (.nrm (E8 u v) (HQ c1 t1 f1 c2 t2 f2 2) d0) :=
  trip_shedW hF (by rfl) [] 157 ([(11, none), (12, some []), (13, some []), (156, some [])] ++ KA) [0, 1, 8] [(12, [0, 3]), (156, [0, 1, 2, 3, 4, 5, 6, 7, 8, 9, 10, 11])] (ofK (b := ((true && (belowV 157 (Prod.snd (0, u)) && (belowV 157 (Prod.snd (1, v)) && true && true) && true) && true && true && true) = true ∧ true = true ∧ true = true ∧ true = true ∧ true = true ∧ belowVs 157 c1 = true ∧ belowVs 157 c2 = true ∧ true = true ∧ true = true ∧ True) ∧ XR.nrm (E8 u v) (HQ c1 t1 f1 c2 t2 f2 2) d0 = .nrm (E8 u v) (HQ c1 t1 f1 c2 t2 f2 2) d0) (by kernel_rfl) (by
    repeat' (with_reducible refine And.intro ?_ ?_)
    all_goals first | with_reducible rfl | exact True.intro | assumption | exact hb1 _ | exact hb2 _ | (simp [hu2, hv2]; done) | exact below8 | exact below_app (by assumption) rfl | exact below_app below8 rfl | rw [ltT (by omega)] | rw [ltF (by omega)] | rw [wrapI64 (by omega)] | omega))
theorem p7 (c1 : List AV) (t1 f1 : Nat) (c2 : List AV) (t2 f2 : Nat) (u v : AV) (hu : belowV 11 u = true) (hv : belowV 11 v = true) (hu2 : ∀ n, 11 ≤ n → belowV n u = true) (hv2 : ∀ n, 11 ≤ n → belowV n v = true) (hb1 : ∀ n, belowVs n c1 = true) (hb2 : ∀ n, belowVs n c2 = true) : Trip P 115 (cL B7) (E8 u v) (HQ c1 t1 f1 c2 t2 f2 2) d0 (.nrm (E8 u v) (HQ c1 t1 f1 c2 t2 f2 3) d0) :=
  trip_shed hF (by rfl) [] 157 KT7 [0, 1, 8] (ofK (b := ((true && (belowV 157 (Prod.snd (0, u)) && (belowV 157 (Prod.snd (1, v)) && true && true) && true) && true && true && true) = true ∧ true = true ∧ true = true ∧ true = true ∧ true = true ∧ belowVs 157 c1 = true ∧ belowVs 157 c2 = true ∧ true = true ∧ true = true ∧ True) ∧ XR.nrm (E8 u v) (HQ c1 t1 f1 c2 t2 f2 3) d0 = .nrm (E8 u v) (HQ c1 t1 f1 c2 t2 f2 3) d0) (by kernel_rfl) (by
    repeat' (with_reducible refine And.intro ?_ ?_)
    all_goals first | with_reducible rfl | exact True.intro | assumption | exact hb1 _ | exact hb2 _ | (simp [hu2, hv2]; done) | exact below8 | exact below_app (by assumption) rfl | exact below_app below8 rfl | rw [ltT (by omega)] | rw [ltF (by omega)] | rw [wrapI64 (by omega)] | omega))
theorem p8 (c1 : List AV) (t1 f1 : Nat) (c2 : List AV) (t2 f2 : Nat) (u v : AV) (hu : belowV 11 u = true) (hv : belowV 11 v = true) (hu2 : ∀ n, 11 ≤ n → belowV n u = true) (hv2 : ∀ n, 11 ≤ n → belowV n v = true) (hb1 : ∀ n, belowVs n c1 = true) (hb2 : ∀ n, belowVs n c2 = true) : Trip P 115 (cL B8) (E8 u v) (HQ c1 t1 f1 c2 t2 f2 3) d0 (.nrm (E8 u v) (HT c1 t1 f1 c2 t2 f2 0 false) d0) :=
  trip_shedW hF (by rfl) [] 157 KT7 [0, 1, 8] [(13, [4, 5, 6, 7, 8, 9, 10, 11, 12, 13, 14])] (ofK (b := ((true && (belowV 157 (Prod.snd (0, u)) && (belowV 157 (Prod.snd (1, v)) && true && true) && true) && true && true && true) = true ∧ true = true ∧ true = true ∧ true = true ∧ true = true ∧ belowVs 157 c1 = true ∧ belowVs 157 c2 = true ∧ true = true ∧ true = true ∧ True) ∧ XR.nrm (E8 u v) (HT c1 t1 f1 c2 t2 f2 0 false) d0 = .nrm (E8 u v) (HT c1 t1 f1 c2 t2 f2 0 false) d0) (by kernel_rfl) (by
    repeat' (with_reducible refine And.intro ?_ ?_)
    all_goals first | with_reducible rfl | exact True.intro | assumption | exact hb1 _ | exact hb2 _ | (simp [hu2, hv2]; done) | exact below8 | exact below_app (by assumption) rfl | exact below_app below8 rfl | rw [ltT (by omega)] | rw [ltF (by omega)] | rw [wrapI64 (by omega)] | omega))
theorem p9 (c1 : List AV) (t1 f1 : Nat) (c2 : List AV) (t2 f2 : Nat) (u v : AV) (hu : belowV 11 u = true) (hv : belowV 11 v = true) (hu2 : ∀ n, 11 ≤ n → belowV n u = true) (hv2 : ∀ n, 11 ≤ n → belowV n v = true) (hb1 : ∀ n, belowVs n c1 = true) (hb2 : ∀ n, belowVs n c2 = true) : Trip P 115 (cL B9) (E8 u v) (HT c1 t1 f1 c2 t2 f2 0 false) d0 (.nrm (E8 u v) (HT c1 t1 f1 c2 t2 f2 0 false) d0) :=
  trip_shed hF (by rfl) [] 157 KT7 [0, 1, 8] (ofK (b := ((true && (belowV 157 (Prod.snd (0, u)) && (belowV 157 (Prod.snd (1, v)) && true && true) && true) && true && true && true) = true ∧ true = true ∧ true = true ∧ true = true ∧ true = true ∧ belowVs 157 c1 = true ∧ belowVs 157 c2 = true ∧ true = true ∧ true = true ∧ True) ∧ XR.nrm (E8 u v) (HT c1 t1 f1 c2 t2 f2 0 false) d0 = .nrm (E8 u v) (HT c1 t1 f1 c2 t2 f2 0 false) d0) (by kernel_rfl) (by
    repeat' (with_reducible refine And.intro ?_ ?_)
    all_goals first | with_reducible rfl | exact True.intro | assumption | exact hb1 _ | exact hb2 _ | (simp [hu2, hv2]; done) | exact below8 | exact below_app (by assumption) rfl | exact below_app below8 rfl | rw [ltT (by omega)] | rw [ltF (by omega)] | rw [wrapI64 (by omega)] | omega))
end Go.Proofs.YtjjjhkdpnpjnhaaGreatDoor

