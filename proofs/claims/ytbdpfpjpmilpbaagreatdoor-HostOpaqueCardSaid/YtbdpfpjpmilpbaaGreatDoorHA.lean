/-
  A step of the proof of this seat's statement. No condition.
-/
import Derived.Test.YtbdpfpjpmilpbaaGreatDoorPE
import Derived.Test.YtbdpfpjpmilpbaaGreatDoorG
namespace Go.Proofs.YtbdpfpjpmilpbaaGreatDoor
open Go Go.Rk
set_option maxRecDepth 1000000
set_option linter.unusedVariables false
set_option linter.unusedSimpArgs false
set_option linter.constructorNameAsVariable false
set_option linter.unusedSectionVars false
abbrev kF101 : Nat := 28
noncomputable abbrev cF101 : Func := Tryz.f28
theorem dF101 : Tryz.prog.funcs[kF101]? = some cF101 := Tryz.func28
abbrev kF102 : Nat := 13
noncomputable abbrev cF102 : Func := Tryz.f13
theorem dF102 : Tryz.prog.funcs[kF102]? = some cF102 := Tryz.func13
abbrev kF103 : Nat := 5
noncomputable abbrev cF103 : Func := Tryz.f5
theorem dF103 : Tryz.prog.funcs[kF103]? = some cF103 := Tryz.func5
abbrev kF104 : Nat := 10
noncomputable abbrev cF104 : Func := Tryz.f10
theorem dF104 : Tryz.prog.funcs[kF104]? = some cF104 := Tryz.func10
abbrev kF105 : Nat := 25
noncomputable abbrev cF105 : Func := Tryz.f25
theorem dF105 : Tryz.prog.funcs[kF105]? = some cF105 := Tryz.func25
abbrev kF106 : Nat := 6
noncomputable abbrev cF106 : Func := Tryz.f6
theorem dF106 : Tryz.prog.funcs[kF106]? = some cF106 := Tryz.func6
abbrev kF107 : Nat := 7
noncomputable abbrev cF107 : Func := Tryz.f7
theorem dF107 : Tryz.prog.funcs[kF107]? = some cF107 := Tryz.func7
abbrev kF108 : Nat := 21
noncomputable abbrev cF108 : Func := Tryz.f21
theorem dF108 : Tryz.prog.funcs[kF108]? = some cF108 := Tryz.func21
abbrev kF109 : Nat := 22
noncomputable abbrev cF109 : Func := Tryz.f22
theorem dF109 : Tryz.prog.funcs[kF109]? = some cF109 := Tryz.func22
abbrev kF110 : Nat := 3
noncomputable abbrev cF110 : Func := Tryz.f3
theorem dF110 : Tryz.prog.funcs[kF110]? = some cF110 := Tryz.func3
abbrev kF111 : Nat := 4
noncomputable abbrev cF111 : Func := Tryz.f4
theorem dF111 : Tryz.prog.funcs[kF111]? = some cF111 := Tryz.func4
abbrev tY64 : Nat := 27
end Go.Proofs.YtbdpfpjpmilpbaaGreatDoor

namespace Go.Proofs.YtbdpfpjpmilpbaaGreatDoor
open Go Go.Rk
set_option maxRecDepth 1000000
set_option linter.unusedVariables false
set_option linter.unusedSimpArgs false
set_option linter.constructorNameAsVariable false
set_option linter.unusedSectionVars false
/-! is a byte one of those that are forbidden -/
def evL : List UInt8 := [0, 9, 10, 13, 32, 35, 47, 58, 60, 62, 63, 64, 91, 92, 93, 94, 124]
def evI (n : Nat) : Int := findIdxB (UInt8.ofNat n) evL 0
def evB (n : Nat) : Bool := !ltI (evI n) (Int.ofNat 0)
def tabE : Nat → Nat → List (List AV × AV)
  | 0, _ => []
  | k + 1, i => ([.str evL, by8 i], .int .i64 (evI i)) :: tabE k (i + 1)
theorem tabE_mem : ∀ {k i n : Nat}, i ≤ n → n < i + k → ([AV.str evL, by8 n], AV.int .i64 (evI n)) ∈ tabE k i
  | 0, i, n, h1, h2 => by omega
  | k + 1, i, n, h1, h2 => by
    by_cases h : n = i
    · subst h; exact List.mem_cons_self
    · exact List.mem_cons_of_mem _ (tabE_mem (by omega) (by omega))
theorem idx_good : goodK P F kF101 (tabE 256 0) = true := by kernel_rfl
theorem idx_T {n : Nat} (hn : n < 256) (h : Heap) : CallT P kF101 [.str evL, by8 n] h (.ret (.int .i64 (evI n)) h none) := known_T tabOK hF idx_good (tabE_mem (Nat.zero_le _) (by omega)) h
abbrev Efo (s : List UInt8) (i : Nat) (r : Bool) : T := envOf [(0, .str s), (1, .bool false), (4, .bool r), (8, .slice oB2 0 0 s.length s.length 1 false), (9, i64 s.length), (10, i64 i)]
noncomputable abbrev Hfo (s : List UInt8) : Heap := heapOf oB3 ((oB2, .cells (s.map u8) tY5 0 0 true) :: tabs)
abbrev Kfo : Keep := (oB2, some []) :: KT
noncomputable def Rfo (s : List UInt8) (b : Bool) : XR := bif b then .ret (envOf [(4, .bool true)]) (Hfo s) d0 else .exit 0 (envOf [(4, .bool false)]) (Hfo s) d0
theorem forb_end (s : List UInt8) (i : Nat) (hi : ¬ i < s.length) : Trip P 33 (lp cF102 0) (Efo s i false) (Hfo s) d0 (Rfo s false) :=
  trip_shed hF (by rfl) [(11, .e (.bool false))] oB3 Kfo [4] (ofK (b := AV.bool (ltI (Int.ofNat i) (Int.ofNat (List.length s))) = AV.bool false ∧ (true = true ∧ belowVs oB3 (List.map u8 s) = true ∧ true = true ∧ true = true ∧ True) ∧ XR.exit 0 (envOf [(4, AV.bool false)]) (heapOf oB3 ((6, AObj.cells (List.map u8 s) tY5 0 0 true) :: tabs)) (Ds.mk [] none none) = XR.exit 0 (envOf [(4, AV.bool false)]) (heapOf oB3 ((6, AObj.cells (List.map u8 s) tY5 0 0 true) :: tabs)) (Ds.mk [] none none)) (by kernel_rfl) (by
    repeat' (with_reducible refine And.intro ?_ ?_)
    all_goals first | with_reducible rfl | exact True.intro | assumption | rw [ltF (by omega)] | exact below8 | exact below_app (by assumption) rfl | rw [ltT (by omega)] | rw [ltF (by omega)] | rw [wrapI64 (by omega)] | omega))
theorem forb_hit (s : List UInt8) (i : Nat) (c : UInt8) (hi : i < s.length) (hc : (s.map u8)[0 + i * 1]? = some (u8 c)) (he : evB c.toNat = true) : Trip P 33 (lp cF102 0) (Efo s i false) (Hfo s) d0 (Rfo s true) :=
  trip_shed hF (by rfl) [(11, .e (.bool true)), (12, .u .undef), (13, .u (u8 c)), (15, .c (.ret (.int .i64 (evI c.toNat)) (Hfo s) none)), (16, .e (.bool true))] oB3 Kfo [4] (ofK (b := AV.bool (ltI (Int.ofNat i) (Int.ofNat (List.length s))) = AV.bool true ∧ i < List.length s ∧ (0 = 0 ∧ (List.map u8 s)[0 + i * 1]? = some (AV.int IntKind.u8 (Int.ofNat (UInt8.toNat c)))) ∧ CallI P 28 [AV.str [OfNat.ofNat 0, OfNat.ofNat 9, OfNat.ofNat 10, OfNat.ofNat 13, OfNat.ofNat 32, OfNat.ofNat 35, OfNat.ofNat 47, OfNat.ofNat 58, OfNat.ofNat 60, OfNat.ofNat 62, OfNat.ofNat 63, OfNat.ofNat 64, OfNat.ofNat 91, OfNat.ofNat 92, OfNat.ofNat 93, OfNat.ofNat 94, OfNat.ofNat 124], AV.int IntKind.u8 (Int.ofNat (UInt8.toNat c))] (heapOf oB3 ((6, AObj.cells (List.map u8 s) tY5 0 0 true) :: tabs)) (CR.ret (AV.int IntKind.i64 (findIdxB (UInt8.ofNat (UInt8.toNat c)) [OfNat.ofNat 0, OfNat.ofNat 9, OfNat.ofNat 10, OfNat.ofNat 13, OfNat.ofNat 32, OfNat.ofNat 35, OfNat.ofNat 47, OfNat.ofNat 58, OfNat.ofNat 60, OfNat.ofNat 62, OfNat.ofNat 63, OfNat.ofNat 64, OfNat.ofNat 91, OfNat.ofNat 92, OfNat.ofNat 93, OfNat.ofNat 94, OfNat.ofNat 124] 0)) (heapOf oB3 ((6, AObj.cells (List.map u8 s) tY5 0 0 true) :: tabs)) none) ∧ (AV.bool !ltI (findIdxB (UInt8.ofNat (UInt8.toNat c)) [OfNat.ofNat 0, OfNat.ofNat 9, OfNat.ofNat 10, OfNat.ofNat 13, OfNat.ofNat 32, OfNat.ofNat 35, OfNat.ofNat 47, OfNat.ofNat 58, OfNat.ofNat 60, OfNat.ofNat 62, OfNat.ofNat 63, OfNat.ofNat 64, OfNat.ofNat 91, OfNat.ofNat 92, OfNat.ofNat 93, OfNat.ofNat 94, OfNat.ofNat 124] 0) (Int.ofNat 0)) = AV.bool true ∧ (true = true ∧ belowVs oB3 (List.map u8 s) = true ∧ true = true ∧ true = true ∧ True) ∧ XR.ret (envOf [(4, AV.bool true)]) (heapOf oB3 ((6, AObj.cells (List.map u8 s) tY5 0 0 true) :: tabs)) (Ds.mk [] none none) = XR.ret (envOf [(4, AV.bool true)]) (heapOf oB3 ((6, AObj.cells (List.map u8 s) tY5 0 0 true) :: tabs)) (Ds.mk [] none none)) (by kernel_rfl) (by
    repeat' (with_reducible refine And.intro ?_ ?_)
    all_goals first | with_reducible rfl | exact True.intro | assumption | exact ⟨idx_T (bt c) _⟩ | exact hc | exact congrArg AV.bool he | exact below8 | exact below_app (by assumption) rfl | rw [ltT (by omega)] | rw [ltF (by omega)] | rw [wrapI64 (by omega)] | omega))
theorem forb_no (s : List UInt8) (i : Nat) (c : UInt8) (hl : s.length ≤ 1000000) (hi : i < s.length) (hc : (s.map u8)[0 + i * 1]? = some (u8 c)) (he : evB c.toNat = false) : Trip P 33 (lp cF102 0) (Efo s i false) (Hfo s) d0 (.nrm (Efo s (i + 1) false) (Hfo s) d0) :=
  trip_shed hF (by rfl) [(11, .e (.bool true)), (12, .u .undef), (13, .u (u8 c)), (15, .c (.ret (.int .i64 (evI c.toNat)) (Hfo s) none)), (16, .e (.bool false)), (32, .e (i64 (i + 1)))] oB3 Kfo [0, 1, 4, 8, 9, 10] (ofK (b := AV.bool (ltI (Int.ofNat i) (Int.ofNat (List.length s))) = AV.bool true ∧ i < List.length s ∧ (0 = 0 ∧ (List.map u8 s)[0 + i * 1]? = some (AV.int IntKind.u8 (Int.ofNat (UInt8.toNat c)))) ∧ CallI P 28 [AV.str [OfNat.ofNat 0, OfNat.ofNat 9, OfNat.ofNat 10, OfNat.ofNat 13, OfNat.ofNat 32, OfNat.ofNat 35, OfNat.ofNat 47, OfNat.ofNat 58, OfNat.ofNat 60, OfNat.ofNat 62, OfNat.ofNat 63, OfNat.ofNat 64, OfNat.ofNat 91, OfNat.ofNat 92, OfNat.ofNat 93, OfNat.ofNat 94, OfNat.ofNat 124], AV.int IntKind.u8 (Int.ofNat (UInt8.toNat c))] (heapOf oB3 ((6, AObj.cells (List.map u8 s) tY5 0 0 true) :: tabs)) (CR.ret (AV.int IntKind.i64 (findIdxB (UInt8.ofNat (UInt8.toNat c)) [OfNat.ofNat 0, OfNat.ofNat 9, OfNat.ofNat 10, OfNat.ofNat 13, OfNat.ofNat 32, OfNat.ofNat 35, OfNat.ofNat 47, OfNat.ofNat 58, OfNat.ofNat 60, OfNat.ofNat 62, OfNat.ofNat 63, OfNat.ofNat 64, OfNat.ofNat 91, OfNat.ofNat 92, OfNat.ofNat 93, OfNat.ofNat 94, OfNat.ofNat 124] 0)) (heapOf oB3 ((6, AObj.cells (List.map u8 s) tY5 0 0 true) :: tabs)) none) ∧ (AV.bool !ltI (findIdxB (UInt8.ofNat (UInt8.toNat c)) [OfNat.ofNat 0, OfNat.ofNat 9, OfNat.ofNat 10, OfNat.ofNat 13, OfNat.ofNat 32, OfNat.ofNat 35, OfNat.ofNat 47, OfNat.ofNat 58, OfNat.ofNat 60, OfNat.ofNat 62, OfNat.ofNat 63, OfNat.ofNat 64, OfNat.ofNat 91, OfNat.ofNat 92, OfNat.ofNat 93, OfNat.ofNat 94, OfNat.ofNat 124] 0) (Int.ofNat 0)) = AV.bool false ∧ AV.int IntKind.i64 (wrapF IntKind.i64 (Int.ofNat (i + 1))) = AV.int IntKind.i64 (Int.ofNat (i + 1)) ∧ (true = true ∧ belowVs oB3 (List.map u8 s) = true ∧ true = true ∧ true = true ∧ True) ∧ XR.nrm (envOf [(0, AV.str s), (1, AV.bool false), (4, AV.bool false), (8, AV.slice oB2 0 0 (List.length s) (List.length s) 1 false), (9, AV.int IntKind.i64 (Int.ofNat (List.length s))), (10, AV.int IntKind.i64 (Int.ofNat (i + 1)))]) (heapOf oB3 ((6, AObj.cells (List.map u8 s) tY5 0 0 true) :: tabs)) (Ds.mk [] none none) = XR.nrm (envOf [(0, AV.str s), (1, AV.bool false), (4, AV.bool false), (8, AV.slice oB2 0 0 (List.length s) (List.length s) 1 false), (9, AV.int IntKind.i64 (Int.ofNat (List.length s))), (10, AV.int IntKind.i64 (Int.ofNat (i + 1)))]) (heapOf oB3 ((6, AObj.cells (List.map u8 s) tY5 0 0 true) :: tabs)) (Ds.mk [] none none)) (by kernel_rfl) (by
    repeat' (with_reducible refine And.intro ?_ ?_)
    all_goals first | with_reducible rfl | exact True.intro | assumption | exact ⟨idx_T (bt c) _⟩ | exact hc | exact congrArg AV.bool he | exact below8 | exact below_app (by assumption) rfl | rw [ltT (by omega)] | rw [ltF (by omega)] | rw [wrapI64 (by omega)] | omega))
def fbL (s : List UInt8) : Bool := s.any fun c => evB c.toNat
theorem u8_at {s : List UInt8} {i : Nat} (h : i < s.length) : (s.map u8)[0 + i * 1]? = some (u8 s[i]) := by simp [h]
theorem forb_loop (s : List UInt8) (hl : s.length ≤ 1000000) : ∀ i : { i : Nat // i ≤ s.length ∧ (s.take i).any (fun c => evB c.toNat) = false }, TripL P 33 (lp cF102 0) (Efo s i.1 false) (Hfo s) d0 (Rfo s (fbL s)) := by
  refine TripL.fam (fun (i : { i : Nat // i ≤ s.length ∧ (s.take i).any (fun c => evB c.toNat) = false }) => Efo s i.1 false) (fun _ => Hfo s) d0 (fun _ => Rfo s (fbL s)) (fun i => s.length - i.1) fun ⟨i, hi, hn⟩ => ?_
  simp only
  by_cases h : i < s.length
  · have hc := u8_at h
    cases he : evB s[i].toNat with
    | true =>
      have e : fbL s = true := by
        unfold fbL
        rw [List.any_eq_true]
        exact ⟨s[i], List.getElem_mem h, he⟩
      rw [e]
      exact .inl ⟨rfl, forb_hit s i s[i] h hc he⟩
    | false =>
      refine .inr ⟨⟨i + 1, h, ?_⟩, (by show s.length - (i + 1) < s.length - i; omega), trivial, forb_no s i s[i] hl h hc he⟩
      rw [List.take_add_one, List.getElem?_eq_getElem h, List.any_append, hn]
      simp [he]
  · have e : fbL s = false := by
      unfold fbL
      have : s.take i = s := List.take_of_length_le (by omega)
      rw [this] at hn; exact hn
    rw [e]
    exact .inl ⟨rfl, forb_end s i h⟩
theorem forb_yes (s : List UInt8) (hl : s.length ≤ 1000000) (he : fbL s = true) (h : Heap) : CallT P kF102 [.str s, .bool false] h (.ret (.bool true) h none) :=
  pure_hC tabOK hF (by rfl) (by rfl) [(99, .l [0, 1, 4, 8, 9, 10] (.ret (envOf [(4, .bool true)]) (Hfo s) d0))] dF102 (by kernel_rfl) (ofK (b := TripI P 33 (.loop (lp cF102 0)) (envOf [(0, AV.str s), (1, AV.bool false), (4, AV.bool false), (8, AV.slice 6 0 0 (List.length s) (List.length s) 1 false), (9, AV.int IntKind.i64 (Int.ofNat (List.length s))), (10, AV.int IntKind.i64 (Int.ofNat 0))]) (heapOf 7 ((6, AObj.cells (List.map u8 s) 5 0 0 true) :: tabs)) (Ds.mk [] none none) (XR.ret (envOf [(4, AV.bool true)]) (heapOf oB3 ((6, AObj.cells (List.map u8 s) tY5 0 0 true) :: tabs)) (Ds.mk [] none none)) ∧ AV.bool true = AV.bool true) (by kernel_rfl) (by
    repeat' (with_reducible refine And.intro ?_ ?_)
    all_goals first | with_reducible rfl | exact True.intro | assumption | exact ⟨by have := (forb_loop s hl ⟨0, Nat.zero_le _, rfl⟩).trip; rw [he] at this; exact this⟩ | exact below8 | exact below_app (by assumption) rfl | rw [ltT (by omega)] | rw [ltF (by omega)] | rw [wrapI64 (by omega)] | omega)) h
theorem forb_none (s : List UInt8) (hl : s.length ≤ 1000000) (he : fbL s = false) (h : Heap) : CallT P kF102 [.str s, .bool false] h (.ret (.bool false) h none) :=
  pure_hC tabOK hF (by rfl) (by rfl) [(99, .l [0, 1, 4, 8, 9, 10] (.exit 0 (envOf [(4, .bool false)]) (Hfo s) d0))] dF102 (by kernel_rfl) (ofK (b := TripI P 33 (.loop (lp cF102 0)) (envOf [(0, AV.str s), (1, AV.bool false), (4, AV.bool false), (8, AV.slice 6 0 0 (List.length s) (List.length s) 1 false), (9, AV.int IntKind.i64 (Int.ofNat (List.length s))), (10, AV.int IntKind.i64 (Int.ofNat 0))]) (heapOf 7 ((6, AObj.cells (List.map u8 s) 5 0 0 true) :: tabs)) (Ds.mk [] none none) (XR.exit 0 (envOf [(4, AV.bool false)]) (heapOf oB3 ((6, AObj.cells (List.map u8 s) tY5 0 0 true) :: tabs)) (Ds.mk [] none none)) ∧ AV.bool false = AV.bool false) (by kernel_rfl) (by
    repeat' (with_reducible refine And.intro ?_ ?_)
    all_goals first | with_reducible rfl | exact True.intro | assumption | exact ⟨by have := (forb_loop s hl ⟨0, Nat.zero_le _, rfl⟩).trip; rw [he] at this; exact this⟩ | exact below8 | exact below_app (by assumption) rfl | rw [ltT (by omega)] | rw [ltF (by omega)] | rw [wrapI64 (by omega)] | omega)) h
theorem forb_T (s : List UInt8) (hl : s.length ≤ 1000000) (h : Heap) : CallT P kF102 [.str s, .bool false] h (.ret (.bool (fbL s)) h none) := by
  cases he : fbL s with
  | true => exact forb_yes s hl he h
  | false => exact forb_none s hl he h
end Go.Proofs.YtbdpfpjpmilpbaaGreatDoor


namespace Go.Proofs.YtbdpfpjpmilpbaaGreatDoor
open Go Go.Rk
set_option maxRecDepth 1000000
set_option linter.unusedVariables false
set_option linter.unusedSimpArgs false
set_option linter.constructorNameAsVariable false
set_option linter.unusedSectionVars false
/-! a host that is not special -/
abbrev hostV (k : Nat) (name : List UInt8) : AV := .agg [by8 k, .str name, .int .u32 0, .int .u16 0, .int .u16 0, .int .u16 0, .int .u16 0, .int .u16 0, .int .u16 0, .int .u16 0, .int .u16 0]
noncomputable abbrev Hpa : Heap := heapOf oB3 ((oB2, .cells [.int .u8 0, .str [], .int .u32 0, .int .u16 0, .int .u16 0, .int .u16 0, .int .u16 0, .int .u16 0, .int .u16 0, .int .u16 0, .int .u16 0] tY64 0 0 false) :: tabs)
abbrev erV (n : Nat) : AV := i64 n
theorem hp1 (b : UInt8) (t : List UInt8) (hb : beqB [b] [91] = false) (h : Heap) : CallT P kF105 [.str (b :: t), .str [91]] h (.ret (.bool false) h none) :=
  pure_hC tabOK hF (by rfl) (by rfl) [] dF105 (by kernel_rfl) (ofK (b := AV.bool (beqB [b] [OfNat.ofNat 91]) = AV.bool false) (by kernel_rfl) (by
    repeat' (with_reducible refine And.intro ?_ ?_)
    all_goals first | with_reducible rfl | exact True.intro | assumption | exact congrArg AV.bool hb | exact below8 | exact below_app (by assumption) rfl | rw [ltT (by omega)] | rw [ltF (by omega)] | rw [wrapI64 (by omega)] | omega)) h
theorem hp2 (b : UInt8) (t : List UInt8) (hb : beqB [b] [91] = false) (h : Heap) : CallT P kF104 [.str (b :: t), .str [91]] h (.ret (.bool false) h none) :=
  pure_hC tabOK hF (by rfl) (by rfl) [(7, .c (.ret (.bool false) H2 none))] dF104 (by kernel_rfl) (ofK (b := CallI P 25 [AV.str (b :: t), AV.str [OfNat.ofNat 91]] (heapOf 6 tabs) (CR.ret (AV.bool false) (heapOf 6 tabs) none) ∧ AV.bool false = AV.bool false) (by kernel_rfl) (by
    repeat' (with_reducible refine And.intro ?_ ?_)
    all_goals first | with_reducible rfl | exact True.intro | assumption | exact ⟨hp1 b t hb _⟩ | exact below8 | exact below_app (by assumption) rfl | rw [ltT (by omega)] | rw [ltF (by omega)] | rw [wrapI64 (by omega)] | omega)) h
theorem parse_nil_good : goodK P F kF103 [([.str [], .bool false], .tup [hostV 0 [], erV 0])] = true := by kernel_rfl
theorem parse_nil (h : Heap) : CallT P kF103 [.str [], .bool false] h (.ret (.tup [hostV 0 [], erV 0]) h none) := known_T tabOK hF parse_nil_good (by simp) h
theorem parse_bad (b : UInt8) (t : List UInt8) (hl : (b :: t).length ≤ 1000) (hb : beqB [b] [91] = false) (he : fbL (b :: t) = true) (h : Heap) : CallT P kF103 [.str (b :: t), .bool false] h (.ret (.tup [hostV 0 [], erV 70]) h none) :=
  pure_hC tabOK hF (by rfl) (by rfl) [(16, .e (.bool false)), (20, .c (.ret (.bool false) Hpa none)), (46, .c (.ret (.bool true) Hpa none))] dF103 (by kernel_rfl) (ofK (b := AV.bool (ltI (Int.ofNat 4096) (Int.ofNat (List.length (b :: t)))) = AV.bool false ∧ CallI P 10 [AV.str (b :: t), AV.str [OfNat.ofNat 91]] (heapOf 7 ((6, AObj.cells [AV.int IntKind.u8 (Int.ofNat 0), AV.str [], AV.int IntKind.u32 (Int.ofNat 0), AV.int IntKind.u16 (Int.ofNat 0), AV.int IntKind.u16 (Int.ofNat 0), AV.int IntKind.u16 (Int.ofNat 0), AV.int IntKind.u16 (Int.ofNat 0), AV.int IntKind.u16 (Int.ofNat 0), AV.int IntKind.u16 (Int.ofNat 0), AV.int IntKind.u16 (Int.ofNat 0), AV.int IntKind.u16 (Int.ofNat 0)] 27 0 0 false) :: tabs)) (CR.ret (AV.bool false) (heapOf oB3 ((6, AObj.cells [AV.int IntKind.u8 (Int.ofNat 0), AV.str [], AV.int IntKind.u32 (Int.ofNat 0), AV.int IntKind.u16 (Int.ofNat 0), AV.int IntKind.u16 (Int.ofNat 0), AV.int IntKind.u16 (Int.ofNat 0), AV.int IntKind.u16 (Int.ofNat 0), AV.int IntKind.u16 (Int.ofNat 0), AV.int IntKind.u16 (Int.ofNat 0), AV.int IntKind.u16 (Int.ofNat 0), AV.int IntKind.u16 (Int.ofNat 0)] tY64 0 0 false) :: tabs)) none) ∧ CallI P 13 [AV.str (b :: t), AV.bool false] (heapOf oB3 ((6, AObj.cells [AV.int IntKind.u8 (Int.ofNat 0), AV.str [], AV.int IntKind.u32 (Int.ofNat 0), AV.int IntKind.u16 (Int.ofNat 0), AV.int IntKind.u16 (Int.ofNat 0), AV.int IntKind.u16 (Int.ofNat 0), AV.int IntKind.u16 (Int.ofNat 0), AV.int IntKind.u16 (Int.ofNat 0), AV.int IntKind.u16 (Int.ofNat 0), AV.int IntKind.u16 (Int.ofNat 0), AV.int IntKind.u16 (Int.ofNat 0)] tY64 0 0 false) :: tabs)) (CR.ret (AV.bool true) (heapOf oB3 ((6, AObj.cells [AV.int IntKind.u8 (Int.ofNat 0), AV.str [], AV.int IntKind.u32 (Int.ofNat 0), AV.int IntKind.u16 (Int.ofNat 0), AV.int IntKind.u16 (Int.ofNat 0), AV.int IntKind.u16 (Int.ofNat 0), AV.int IntKind.u16 (Int.ofNat 0), AV.int IntKind.u16 (Int.ofNat 0), AV.int IntKind.u16 (Int.ofNat 0), AV.int IntKind.u16 (Int.ofNat 0), AV.int IntKind.u16 (Int.ofNat 0)] tY64 0 0 false) :: tabs)) none) ∧ AV.tup [AV.agg [AV.int IntKind.u8 (Int.ofNat 0), AV.str [], AV.int IntKind.u32 (Int.ofNat 0), AV.int IntKind.u16 (Int.ofNat 0), AV.int IntKind.u16 (Int.ofNat 0), AV.int IntKind.u16 (Int.ofNat 0), AV.int IntKind.u16 (Int.ofNat 0), AV.int IntKind.u16 (Int.ofNat 0), AV.int IntKind.u16 (Int.ofNat 0), AV.int IntKind.u16 (Int.ofNat 0), AV.int IntKind.u16 (Int.ofNat 0)], AV.int IntKind.i64 (Int.ofNat 70)] = AV.tup [AV.agg [AV.int IntKind.u8 (Int.ofNat 0), AV.str [], AV.int IntKind.u32 (Int.ofNat 0), AV.int IntKind.u16 (Int.ofNat 0), AV.int IntKind.u16 (Int.ofNat 0), AV.int IntKind.u16 (Int.ofNat 0), AV.int IntKind.u16 (Int.ofNat 0), AV.int IntKind.u16 (Int.ofNat 0), AV.int IntKind.u16 (Int.ofNat 0), AV.int IntKind.u16 (Int.ofNat 0), AV.int IntKind.u16 (Int.ofNat 0)], AV.int IntKind.i64 (Int.ofNat 70)]) (by kernel_rfl) (by
    repeat' (with_reducible refine And.intro ?_ ?_)
    all_goals first | with_reducible rfl | exact True.intro | assumption | exact ⟨hp2 b t hb _⟩ | exact ⟨by have := forb_T (b :: t) (by omega) Hpa; rw [he] at this; exact this⟩ | exact congrArg AV.bool (ltF (by omega)) | exact below8 | exact below_app (by assumption) rfl | rw [ltT (by omega)] | rw [ltF (by omega)] | rw [wrapI64 (by omega)] | omega)) h
theorem parse_ok (b : UInt8) (t : List UInt8) (hl : (b :: t).length ≤ 1000) (hb : beqB [b] [91] = false) (he : fbL (b :: t) = false) (h : Heap) : CallT P kF103 [.str (b :: t), .bool false] h (.ret (.tup [hostV 4 (encS (b :: t) 0), erV 0]) h none) :=
  pure_hC tabOK hF (by rfl) (by rfl) [(16, .e (.bool false)), (20, .c (.ret (.bool false) Hpa none)), (46, .c (.ret (.bool false) Hpa none)), (61, .c (.ret (.str (encS (b :: t) 0)) Hpa none))] dF103 (by kernel_rfl) (ofK (b := AV.bool (ltI (Int.ofNat 4096) (Int.ofNat (List.length (b :: t)))) = AV.bool false ∧ CallI P 10 [AV.str (b :: t), AV.str [OfNat.ofNat 91]] (heapOf 7 ((6, AObj.cells [AV.int IntKind.u8 (Int.ofNat 0), AV.str [], AV.int IntKind.u32 (Int.ofNat 0), AV.int IntKind.u16 (Int.ofNat 0), AV.int IntKind.u16 (Int.ofNat 0), AV.int IntKind.u16 (Int.ofNat 0), AV.int IntKind.u16 (Int.ofNat 0), AV.int IntKind.u16 (Int.ofNat 0), AV.int IntKind.u16 (Int.ofNat 0), AV.int IntKind.u16 (Int.ofNat 0), AV.int IntKind.u16 (Int.ofNat 0)] 27 0 0 false) :: tabs)) (CR.ret (AV.bool false) (heapOf oB3 ((6, AObj.cells [AV.int IntKind.u8 (Int.ofNat 0), AV.str [], AV.int IntKind.u32 (Int.ofNat 0), AV.int IntKind.u16 (Int.ofNat 0), AV.int IntKind.u16 (Int.ofNat 0), AV.int IntKind.u16 (Int.ofNat 0), AV.int IntKind.u16 (Int.ofNat 0), AV.int IntKind.u16 (Int.ofNat 0), AV.int IntKind.u16 (Int.ofNat 0), AV.int IntKind.u16 (Int.ofNat 0), AV.int IntKind.u16 (Int.ofNat 0)] tY64 0 0 false) :: tabs)) none) ∧ CallI P 13 [AV.str (b :: t), AV.bool false] (heapOf oB3 ((6, AObj.cells [AV.int IntKind.u8 (Int.ofNat 0), AV.str [], AV.int IntKind.u32 (Int.ofNat 0), AV.int IntKind.u16 (Int.ofNat 0), AV.int IntKind.u16 (Int.ofNat 0), AV.int IntKind.u16 (Int.ofNat 0), AV.int IntKind.u16 (Int.ofNat 0), AV.int IntKind.u16 (Int.ofNat 0), AV.int IntKind.u16 (Int.ofNat 0), AV.int IntKind.u16 (Int.ofNat 0), AV.int IntKind.u16 (Int.ofNat 0)] tY64 0 0 false) :: tabs)) (CR.ret (AV.bool false) (heapOf oB3 ((6, AObj.cells [AV.int IntKind.u8 (Int.ofNat 0), AV.str [], AV.int IntKind.u32 (Int.ofNat 0), AV.int IntKind.u16 (Int.ofNat 0), AV.int IntKind.u16 (Int.ofNat 0), AV.int IntKind.u16 (Int.ofNat 0), AV.int IntKind.u16 (Int.ofNat 0), AV.int IntKind.u16 (Int.ofNat 0), AV.int IntKind.u16 (Int.ofNat 0), AV.int IntKind.u16 (Int.ofNat 0), AV.int IntKind.u16 (Int.ofNat 0)] tY64 0 0 false) :: tabs)) none) ∧ CallI P 14 [AV.str (b :: t), AV.int IntKind.u8 (Int.ofNat 0)] (heapOf oB3 ((6, AObj.cells [AV.int IntKind.u8 (Int.ofNat 0), AV.str [], AV.int IntKind.u32 (Int.ofNat 0), AV.int IntKind.u16 (Int.ofNat 0), AV.int IntKind.u16 (Int.ofNat 0), AV.int IntKind.u16 (Int.ofNat 0), AV.int IntKind.u16 (Int.ofNat 0), AV.int IntKind.u16 (Int.ofNat 0), AV.int IntKind.u16 (Int.ofNat 0), AV.int IntKind.u16 (Int.ofNat 0), AV.int IntKind.u16 (Int.ofNat 0)] tY64 0 0 false) :: tabs)) (CR.ret (AV.str (encS (b :: t) 0)) (heapOf oB3 ((6, AObj.cells [AV.int IntKind.u8 (Int.ofNat 0), AV.str [], AV.int IntKind.u32 (Int.ofNat 0), AV.int IntKind.u16 (Int.ofNat 0), AV.int IntKind.u16 (Int.ofNat 0), AV.int IntKind.u16 (Int.ofNat 0), AV.int IntKind.u16 (Int.ofNat 0), AV.int IntKind.u16 (Int.ofNat 0), AV.int IntKind.u16 (Int.ofNat 0), AV.int IntKind.u16 (Int.ofNat 0), AV.int IntKind.u16 (Int.ofNat 0)] tY64 0 0 false) :: tabs)) none) ∧ AV.tup [AV.agg [AV.int IntKind.u8 (Int.ofNat 4), AV.str (encS (b :: t) 0), AV.int IntKind.u32 (Int.ofNat 0), AV.int IntKind.u16 (Int.ofNat 0), AV.int IntKind.u16 (Int.ofNat 0), AV.int IntKind.u16 (Int.ofNat 0), AV.int IntKind.u16 (Int.ofNat 0), AV.int IntKind.u16 (Int.ofNat 0), AV.int IntKind.u16 (Int.ofNat 0), AV.int IntKind.u16 (Int.ofNat 0), AV.int IntKind.u16 (Int.ofNat 0)], AV.int IntKind.i64 (Int.ofNat 0)] = AV.tup [AV.agg [AV.int IntKind.u8 (Int.ofNat 4), AV.str (encS (b :: t) 0), AV.int IntKind.u32 (Int.ofNat 0), AV.int IntKind.u16 (Int.ofNat 0), AV.int IntKind.u16 (Int.ofNat 0), AV.int IntKind.u16 (Int.ofNat 0), AV.int IntKind.u16 (Int.ofNat 0), AV.int IntKind.u16 (Int.ofNat 0), AV.int IntKind.u16 (Int.ofNat 0), AV.int IntKind.u16 (Int.ofNat 0), AV.int IntKind.u16 (Int.ofNat 0)], AV.int IntKind.i64 (Int.ofNat 0)]) (by kernel_rfl) (by
    repeat' (with_reducible refine And.intro ?_ ?_)
    all_goals first | with_reducible rfl | exact True.intro | assumption | exact ⟨hp2 b t hb _⟩ | exact ⟨by have := forb_T (b :: t) (by omega) Hpa; rw [he] at this; exact this⟩ | exact ⟨encode_T 0 (b :: t) (by omega) _⟩ | exact congrArg AV.bool (ltF (by omega)) | exact below8 | exact below_app (by assumption) rfl | rw [ltT (by omega)] | rw [ltF (by omega)] | rw [wrapI64 (by omega)] | omega)) h
end Go.Proofs.YtbdpfpjpmilpbaaGreatDoor


namespace Go.Proofs.YtbdpfpjpmilpbaaGreatDoor
open Go Go.Rk
set_option maxRecDepth 1000000
set_option linter.unusedVariables false
set_option linter.unusedSimpArgs false
set_option linter.constructorNameAsVariable false
set_option linter.unusedSectionVars false
/-! the document's answer: what is forbidden, what is told by percent signs -/
def tabF : Nat → Nat → List (List AV × AV)
  | 0, _ => []
  | k + 1, i => ([by8 i, .bool false], .bool (evB i)) :: tabF k (i + 1)
theorem tabF_mem : ∀ {k i n : Nat}, i ≤ n → n < i + k → ([by8 n, AV.bool false], AV.bool (evB n)) ∈ tabF k i
  | 0, i, n, h1, h2 => by omega
  | k + 1, i, n, h1, h2 => by
    by_cases h : n = i
    · subst h; exact List.mem_cons_self
    · exact List.mem_cons_of_mem _ (tabF_mem (by omega) (by omega))
theorem rforb_good : goodK P F kF106 (tabF 256 0) = true := by kernel_rfl
theorem rforb_T {n : Nat} (hn : n < 256) (h : Heap) : CallT P kF106 [by8 n, .bool false] h (.ret (.bool (evB n)) h none) := known_T tabOK hF rforb_good (tabF_mem (Nat.zero_le _) (by omega)) h
theorem rdig_good : goodK P F kF109 (tab (fun n => u8 (digs.getD n 0)) 16 0) = true := by kernel_rfl
theorem rdig_T {n : Nat} (hn : n < 16) (h : Heap) : CallT P kF109 [by8 n] h (.ret (u8 (digs.getD n 0)) h none) := known_T tabOK hF rdig_good (tab_mem (v := fun n => u8 (digs.getD n 0)) (Nat.zero_le _) (by omega)) h
abbrev ER (K : Nat) (o : AV) (i : Nat) : T := envOf [(1, by8 0), (5, .slice oB2 0 0 K K 1 false), (6, o), (7, i64 i)]
abbrev EI (K : Nat) (o : AV) (i : Nat) (bl : List UInt8) (k : Nat) : T := envOf [(1, by8 0), (5, .slice oB2 0 0 K K 1 false), (6, o), (7, i64 i), (8, .str bl), (9, i64 k)]
noncomputable abbrev HR0 (rs : List AV) : Heap := heapOf oB3 ((oB2, .cells rs tY21 0 0 false) :: tabs)
noncomputable abbrev HRo (rs : List AV) (X n : Nat) (out : List UInt8) (g : Nat) : Heap := heapOf n ((oB2, .cells rs tY21 0 0 false) :: (X, .cells (out.map u8) tY5 g 0 false) :: tabs)
abbrev vO (X g m : Nat) : AV := .slice X g 0 m m 1 false
theorem rin_lo (c : Nat) (hc : c < 32) (h : Heap) : CallT P kF108 [i32 (Int.ofNat c), by8 0] h (.ret (.bool true) h none) :=
  pure_hC tabOK hF (by rfl) (by rfl) [(8, .e (.bool true))] dF108 (by kernel_rfl) (ofK (b := AV.bool (ltI (Int.ofNat c) (Int.ofNat 32)) = AV.bool true ∧ AV.bool true = AV.bool true) (by kernel_rfl) (by
    repeat' (with_reducible refine And.intro ?_ ?_)
    all_goals first | with_reducible rfl | exact True.intro | assumption | exact below8 | exact below_app (by assumption) rfl | rw [ltT (by omega)] | rw [ltF (by omega)] | rw [wrapI64 (by omega)] | omega)) h
theorem rin_hi (c : Nat) (hc : ¬ c < 32) (h2 : 126 < c) (h : Heap) : CallT P kF108 [i32 (Int.ofNat c), by8 0] h (.ret (.bool true) h none) :=
  pure_hC tabOK hF (by rfl) (by rfl) [(8, .e (.bool false)), (11, .e (.bool true))] dF108 (by kernel_rfl) (ofK (b := AV.bool (ltI (Int.ofNat c) (Int.ofNat 32)) = AV.bool false ∧ AV.bool (ltI (Int.ofNat 126) (Int.ofNat c)) = AV.bool true ∧ AV.bool true = AV.bool true) (by kernel_rfl) (by
    repeat' (with_reducible refine And.intro ?_ ?_)
    all_goals first | with_reducible rfl | exact True.intro | assumption | exact below8 | exact below_app (by assumption) rfl | rw [ltT (by omega)] | rw [ltF (by omega)] | rw [wrapI64 (by omega)] | omega)) h
theorem rin_no (c : Nat) (hc : ¬ c < 32) (h2 : ¬ 126 < c) (h : Heap) : CallT P kF108 [i32 (Int.ofNat c), by8 0] h (.ret (.bool false) h none) :=
  pure_hC tabOK hF (by rfl) (by rfl) [(8, .e (.bool false)), (11, .e (.bool false))] dF108 (by kernel_rfl) (ofK (b := AV.bool (ltI (Int.ofNat c) (Int.ofNat 32)) = AV.bool false ∧ AV.bool (ltI (Int.ofNat 126) (Int.ofNat c)) = AV.bool false ∧ AV.bool false = AV.bool false) (by kernel_rfl) (by
    repeat' (with_reducible refine And.intro ?_ ?_)
    all_goals first | with_reducible rfl | exact True.intro | assumption | exact below8 | exact below_app (by assumption) rfl | rw [ltT (by omega)] | rw [ltF (by omega)] | rw [wrapI64 (by omega)] | omega)) h
theorem rin_T (c : Nat) (h : Heap) : CallT P kF108 [i32 (Int.ofNat c), by8 0] h (.ret (.bool (inS c 0)) h none) := by
  by_cases h1 : c < 32
  · have e : inS c 0 = true := by simp [inS, h1]
    rw [e]; exact rin_lo c h1 h
  · by_cases h2 : 126 < c
    · have e : inS c 0 = true := by simp [inS, h2]
      rw [e]; exact rin_hi c h1 h2 h
    · have e : inS c 0 = false := by
        have : hasF (Int.ofNat c) (moreS 0) (moreS 0).length 0 = false := rfl
        simp only [inS, this, h1, h2]; rfl
      rw [e]; exact rin_no c h1 h2 h
theorem rdg_lo (n : Nat) (hn : Nat.blt n 10 = true) (h : Heap) : CallT P kF109 [by8 n] h (.ret (.int .u8 (wrapF .u8 (Int.ofNat (48 + n)))) h none) :=
  pure_hC tabOK hF (by rfl) (by rfl) [(4, .e (.bool true))] dF109 (by kernel_rfl) (ofK (b := AV.bool (ltI (Int.ofNat n) (Int.ofNat 10)) = AV.bool true ∧ AV.int IntKind.u8 (wrapF IntKind.u8 (Int.ofNat (48 + n))) = AV.int IntKind.u8 (wrapF IntKind.u8 (Int.ofNat (48 + n)))) (by kernel_rfl) (by
    repeat' (with_reducible refine And.intro ?_ ?_)
    all_goals first | with_reducible rfl | exact True.intro | assumption | exact congrArg AV.bool (ltT (blt_iff.1 hn)) | exact below8 | exact below_app (by assumption) rfl | rw [ltT (by omega)] | rw [ltF (by omega)] | rw [wrapI64 (by omega)] | omega)) h
theorem rdg_hi (n : Nat) (hn : ¬ n < 10) (h : Heap) : CallT P kF109 [by8 n] h (.ret (.int .u8 (wrapF .u8 (Int.sub (wrapF .u8 (Int.ofNat (65 + n))) (Int.ofNat 10)))) h none) :=
  pure_hC tabOK hF (by rfl) (by rfl) [(4, .e (.bool false))] dF109 (by kernel_rfl) (ofK (b := AV.bool (ltI (Int.ofNat n) (Int.ofNat 10)) = AV.bool false ∧ AV.int IntKind.u8 (wrapF IntKind.u8 (Int.sub (wrapF IntKind.u8 (Int.ofNat (65 + n))) (Int.ofNat 10))) = AV.int IntKind.u8 (wrapF IntKind.u8 (Int.sub (wrapF IntKind.u8 (Int.ofNat (65 + n))) (Int.ofNat 10)))) (by kernel_rfl) (by
    repeat' (with_reducible refine And.intro ?_ ?_)
    all_goals first | with_reducible rfl | exact True.intro | assumption | exact congrArg AV.bool (ltF (by omega)) | exact below8 | exact below_app (by assumption) rfl | rw [ltT (by omega)] | rw [ltF (by omega)] | rw [wrapI64 (by omega)] | omega)) h
def digI (n : Nat) : Int := bif Nat.blt n 10 then wrapF .u8 (Int.ofNat (48 + n)) else wrapF .u8 (Int.sub (wrapF .u8 (Int.ofNat (65 + n))) (Int.ofNat 10))
def orcD : OrcH := fun f args h => match f, args with
  | 22, [.int .u8 (.ofNat n)] => some (.int .u8 (digI n), h)
  | _, _ => none
noncomputable abbrev F2 : Fns := fnsH P orcD 1000
theorem rdg_T (n : Nat) (h : Heap) : CallT P kF109 [by8 n] h (.ret (.int .u8 (digI n)) h none) := by
  cases hn : Nat.blt n 10 with
  | true =>
    have e : digI n = wrapF .u8 (Int.ofNat (48 + n)) := by unfold digI; rw [hn]; rfl
    rw [e]; exact rdg_lo n hn h
  | false =>
    have e : digI n = wrapF .u8 (Int.sub (wrapF .u8 (Int.ofNat (65 + n))) (Int.ofNat 10)) := by unfold digI; rw [hn]; rfl
    rw [e]; exact rdg_hi n (fun h => by rw [blt_iff.2 h] at hn; cases hn) h
theorem orcD_ok : OrcHOK P orcD := by
  intro f args h v h' ho
  unfold orcD at ho
  split at ho
  · injection ho with ho
    injection ho with h1 h2
    subst h1 h2
    exact rdg_T _ _
  · cases ho
theorem hF2 : FOK P F2 := fnsH_ok orcD_ok 1000
theorem digI_eq : ∀ m, m < 16 → AV.int .u8 (digI m) = u8 (digs.getD m 0) := by
  have : ((List.range 16).all fun m => decide (digI m = Int.ofNat (digs.getD m 0).toNat)) = true := by decide +kernel
  intro m hm
  have h1 := of_decide_eq_true (List.all_eq_true.1 this m (List.mem_range.2 hm))
  rw [h1]
  rfl
def hexC (b : UInt8) : List AV := [u8 37, .int .u8 (digI (b.toNat / 16)), .int .u8 (digI (b.toNat % 16))]
theorem hexC_below {n : Nat} (b : UInt8) : belowVs n (hexC b) = true := rfl
theorem hexC_eq (b : UInt8) : hexC b = (hexB b).map u8 := by
  have := bt b
  unfold hexC hexB
  rw [digI_eq _ (by omega), digI_eq _ (by omega)]
  rfl
noncomputable abbrev HRc (rs : List AV) (X n : Nat) (cs : List AV) (g : Nat) : Heap := heapOf n ((oB2, .cells rs tY21 0 0 false) :: (X, .cells cs tY5 g 0 false) :: tabs)
theorem wq8 {b : UInt8} : AV.int .u8 (wrapF .u8 (Int.ofNat (b.toNat / 16))) = by8 (b.toNat / 16) := by have := bt b; rw [wrapU8, Nat.mod_eq_of_lt (by omega)]
theorem ri_n0 (K i k c : Nat) (rs : List AV) (bl : List UInt8) (hb : ∀ n, belowVs n rs = true) (hi : i < K) (hc : rs[0 + i * 1]? = some (i32 (Int.ofNat c))) (hin : inS c 0 = false) (hk : k < bl.length) (hl : bl.length ≤ 100) : Trip P 56 (lp cF107 1) (EI K .slice0 i bl k) (HR0 rs) d0 (.nrm (EI K (vO oB4 0 1) i bl (k + 1)) (HRo rs oB4 oB5 [bl.getD k 0] 0) d0) :=
  trip_shed hF (by rfl) [(26, .e (.bool true)), (31, .u .undef), (32, .u (i32 (Int.ofNat c))), (34, .c (.ret (.bool false) (HR0 rs) none)), (51, .u .undef), (28, .e (i64 (k + 1)))] oB5 ([(oB2, some []), (oB4, some [])] ++ KT) [1, 5, 6, 7, 8, 9] (ofK (b := AV.bool (ltI (Int.ofNat k) (Int.ofNat (List.length bl))) = AV.bool true ∧ i < K ∧ (0 = 0 ∧ rs[0 + i * 1]? = some (AV.int IntKind.i32 (Int.ofNat c))) ∧ CallI P 21 [AV.int IntKind.i32 (Int.ofNat c), AV.int IntKind.u8 (Int.ofNat 0)] (heapOf oB3 ((6, AObj.cells rs tY21 0 0 false) :: tabs)) (CR.ret (AV.bool false) (heapOf oB3 ((6, AObj.cells rs tY21 0 0 false) :: tabs)) none) ∧ k < List.length bl ∧ AV.int IntKind.i64 (wrapF IntKind.i64 (Int.ofNat (k + 1))) = AV.int IntKind.i64 (Int.ofNat (k + 1)) ∧ (true = true ∧ belowVs oB5 rs = true ∧ true = true ∧ true = true ∧ true = true ∧ True) ∧ XR.nrm (envOf [(1, AV.int IntKind.u8 (Int.ofNat 0)), (5, AV.slice oB2 0 0 K K 1 false), (6, AV.slice 8 0 0 1 1 1 false), (7, AV.int IntKind.i64 (Int.ofNat i)), (8, AV.str bl), (9, AV.int IntKind.i64 (Int.ofNat (k + 1)))]) (heapOf oB5 ((6, AObj.cells rs tY21 0 0 false) :: (8, AObj.cells [AV.int IntKind.u8 (Int.ofNat (UInt8.toNat (List.getD bl k (OfNat.ofNat 0))))] 5 0 0 false) :: tabs)) (Ds.mk [] none none) = XR.nrm (envOf [(1, AV.int IntKind.u8 (Int.ofNat 0)), (5, AV.slice oB2 0 0 K K 1 false), (6, AV.slice oB4 0 0 1 1 1 false), (7, AV.int IntKind.i64 (Int.ofNat i)), (8, AV.str bl), (9, AV.int IntKind.i64 (Int.ofNat (k + 1)))]) (heapOf oB5 ((6, AObj.cells rs tY21 0 0 false) :: (8, AObj.cells [AV.int IntKind.u8 (Int.ofNat (UInt8.toNat (List.getD bl k (OfNat.ofNat 0))))] tY5 0 0 false) :: tabs)) (Ds.mk [] none none)) (by kernel_rfl) (by
    repeat' (with_reducible refine And.intro ?_ ?_)
    all_goals first | with_reducible rfl | exact True.intro | assumption | exact ⟨by have := rin_T c (HR0 rs); rw [hin] at this; exact this⟩ | exact hc | exact wq8 (b := bl.getD k 0) | exact (rfl : AV.int .u8 (Int.ofNat (Nat.mod (bl.getD k 0).toNat 16)) = by8 ((bl.getD k 0).toNat % 16)) | exact hb _ | exact hexC_below _ | exact below8 | exact below_app (by assumption) rfl | rw [ltT (by omega)] | rw [ltF (by omega)] | rw [wrapI64 (by omega)] | omega))
theorem ri_p0 (K i k c : Nat) (rs : List AV) (bl : List UInt8) (hb : ∀ n, belowVs n rs = true) (hi : i < K) (hc : rs[0 + i * 1]? = some (i32 (Int.ofNat c))) (hin : inS c 0 = true) (hk : k < bl.length) (hl : bl.length ≤ 100) : Trip P 56 (lp cF107 1) (EI K .slice0 i bl k) (HR0 rs) d0 (.nrm (EI K (vO oB5 0 3) i bl (k + 1)) (HRc rs oB5 oB6 (hexC (bl.getD k 0)) 0) d0) :=
  trip_shed hF2 (by rfl) [(26, .e (.bool true)), (31, .u .undef), (32, .u (i32 (Int.ofNat c))), (34, .c (.ret (.bool true) (HR0 rs) none)), (38, .u .undef), (39, .e (by8 ((bl.getD k 0).toNat / 16))), (43, .u .undef), (44, .e (by8 ((bl.getD k 0).toNat % 16))), (28, .e (i64 (k + 1)))] oB6 ([(oB2, some []), (oB5, some [])] ++ KT) [1, 5, 6, 7, 8, 9] (ofK (b := AV.bool (ltI (Int.ofNat k) (Int.ofNat (List.length bl))) = AV.bool true ∧ i < K ∧ (0 = 0 ∧ rs[0 + i * 1]? = some (AV.int IntKind.i32 (Int.ofNat c))) ∧ CallI P 21 [AV.int IntKind.i32 (Int.ofNat c), AV.int IntKind.u8 (Int.ofNat 0)] (heapOf oB3 ((6, AObj.cells rs tY21 0 0 false) :: tabs)) (CR.ret (AV.bool true) (heapOf oB3 ((6, AObj.cells rs tY21 0 0 false) :: tabs)) none) ∧ k < List.length bl ∧ AV.int IntKind.u8 (wrapF IntKind.u8 (Int.ofNat (Nat.div (UInt8.toNat (List.getD bl k (OfNat.ofNat 0))) 16))) = AV.int IntKind.u8 (Int.ofNat (UInt8.toNat (List.getD bl k (OfNat.ofNat 0)) / 16)) ∧ k < List.length bl ∧ AV.int IntKind.u8 (Int.ofNat (Nat.mod (UInt8.toNat (List.getD bl k (OfNat.ofNat 0))) 16)) = AV.int IntKind.u8 (Int.ofNat (UInt8.toNat (List.getD bl k (OfNat.ofNat 0)) % 16)) ∧ AV.int IntKind.i64 (wrapF IntKind.i64 (Int.ofNat (k + 1))) = AV.int IntKind.i64 (Int.ofNat (k + 1)) ∧ (true = true ∧ belowVs oB6 rs = true ∧ true = true ∧ true = true ∧ true = true ∧ True) ∧ XR.nrm (envOf [(1, AV.int IntKind.u8 (Int.ofNat 0)), (5, AV.slice oB2 0 0 K K 1 false), (6, AV.slice 9 0 0 3 3 1 false), (7, AV.int IntKind.i64 (Int.ofNat i)), (8, AV.str bl), (9, AV.int IntKind.i64 (Int.ofNat (k + 1)))]) (heapOf oB6 ((6, AObj.cells rs tY21 0 0 false) :: (9, AObj.cells [AV.int IntKind.u8 (Int.ofNat 37), AV.int IntKind.u8 (match Nat.blt (UInt8.toNat (List.getD bl k (OfNat.ofNat 0)) / 16) 10 with | true => wrapF IntKind.u8 (Int.ofNat (OfNat.ofNat 48 + UInt8.toNat (List.getD bl k (OfNat.ofNat 0)) / OfNat.ofNat 16)) | false => wrapF IntKind.u8 (Int.sub (wrapF IntKind.u8 (Int.ofNat (OfNat.ofNat 65 + UInt8.toNat (List.getD bl k (OfNat.ofNat 0)) / OfNat.ofNat 16))) (Int.ofNat (OfNat.ofNat 10)))), AV.int IntKind.u8 (match Nat.blt (UInt8.toNat (List.getD bl k (OfNat.ofNat 0)) % 16) 10 with | true => wrapF IntKind.u8 (Int.ofNat (OfNat.ofNat 48 + UInt8.toNat (List.getD bl k (OfNat.ofNat 0)) % OfNat.ofNat 16)) | false => wrapF IntKind.u8 (Int.sub (wrapF IntKind.u8 (Int.ofNat (OfNat.ofNat 65 + UInt8.toNat (List.getD bl k (OfNat.ofNat 0)) % OfNat.ofNat 16))) (Int.ofNat (OfNat.ofNat 10))))] 5 0 0 false) :: tabs)) (Ds.mk [] none none) = XR.nrm (envOf [(1, AV.int IntKind.u8 (Int.ofNat 0)), (5, AV.slice oB2 0 0 K K 1 false), (6, AV.slice oB5 0 0 3 3 1 false), (7, AV.int IntKind.i64 (Int.ofNat i)), (8, AV.str bl), (9, AV.int IntKind.i64 (Int.ofNat (k + 1)))]) (heapOf oB6 ((6, AObj.cells rs tY21 0 0 false) :: (9, AObj.cells [AV.int IntKind.u8 (Int.ofNat 37), AV.int IntKind.u8 (match Nat.blt (UInt8.toNat (List.getD bl k (OfNat.ofNat 0)) / 16) 10 with | true => wrapF IntKind.u8 (Int.ofNat (OfNat.ofNat 48 + UInt8.toNat (List.getD bl k (OfNat.ofNat 0)) / OfNat.ofNat 16)) | false => wrapF IntKind.u8 (Int.sub (wrapF IntKind.u8 (Int.ofNat (OfNat.ofNat 65 + UInt8.toNat (List.getD bl k (OfNat.ofNat 0)) / OfNat.ofNat 16))) (Int.ofNat (OfNat.ofNat 10)))), AV.int IntKind.u8 (match Nat.blt (UInt8.toNat (List.getD bl k (OfNat.ofNat 0)) % 16) 10 with | true => wrapF IntKind.u8 (Int.ofNat (OfNat.ofNat 48 + UInt8.toNat (List.getD bl k (OfNat.ofNat 0)) % OfNat.ofNat 16)) | false => wrapF IntKind.u8 (Int.sub (wrapF IntKind.u8 (Int.ofNat (OfNat.ofNat 65 + UInt8.toNat (List.getD bl k (OfNat.ofNat 0)) % OfNat.ofNat 16))) (Int.ofNat (OfNat.ofNat 10))))] tY5 0 0 false) :: tabs)) (Ds.mk [] none none)) (by kernel_rfl) (by
    repeat' (with_reducible refine And.intro ?_ ?_)
    all_goals first | with_reducible rfl | exact True.intro | assumption | exact ⟨by have := rin_T c (HR0 rs); rw [hin] at this; exact this⟩ | exact hc | exact wq8 (b := bl.getD k 0) | exact (rfl : AV.int .u8 (Int.ofNat (Nat.mod (bl.getD k 0).toNat 16)) = by8 ((bl.getD k 0).toNat % 16)) | exact hb _ | exact hexC_below _ | exact below8 | exact below_app (by assumption) rfl | rw [ltT (by omega)] | rw [ltF (by omega)] | rw [wrapI64 (by omega)] | omega))
end Go.Proofs.YtbdpfpjpmilpbaaGreatDoor

