/-
  A step of the proof of this seat's statement. No condition.
-/
import Derived.Test.YtbdpfpjpmilpbaaGreatDoorHC
import Derived.Test.YtbdpfpjpmilpbaaGreatDoorWA
namespace Go.Proofs.YtbdpfpjpmilpbaaGreatDoor
open Go Go.Rk
set_option maxRecDepth 1000000
set_option linter.unusedVariables false
set_option linter.unusedSimpArgs false
set_option linter.constructorNameAsVariable false
set_option linter.unusedSectionVars false
theorem renc_nil_good : goodK P F kF107 [([.str [], by8 0], .str [])] = true := by kernel_rfl
theorem renc_T (s : List UInt8) (hl : s.length ≤ 1000000) (h : Heap) : CallT P kF107 [.str s, by8 0] h (.ret (.str (encS s 0)) h none) := by
  cases s with
  | nil => exact known_T tabOK hF renc_nil_good (List.mem_cons_self) h
  | cons b t =>
    have hlen : (decL (b :: t)).length ≤ 1000000 := Nat.le_trans decF_len hl
    have hv : ∀ c ∈ decL (b :: t), c ≤ 1114111 := fun c hc => by
      have := decF_valid c hc
      unfold valid at this
      omega
    have hp := decL_pos b t
    have key : ∃ V g, (V = false ∧ Trip P 56 (.loop (lp cF107 0)) (ER (decL (b :: t)).length .slice0 0) (HR0 (runeV (decL (b :: t)))) d0 (.exit 0 (ER (decL (b :: t)).length (vO oB4 g (encS (b :: t) 0).length) (decL (b :: t)).length) (HRo (runeV (decL (b :: t))) oB4 oB5 (encS (b :: t) 0) g) d0)) ∨
        (V = true ∧ Trip P 56 (.loop (lp cF107 0)) (ER (decL (b :: t)).length .slice0 0) (HR0 (runeV (decL (b :: t)))) d0 (.exit 0 (ER (decL (b :: t)).length (vO oB5 g (encS (b :: t) 0).length) (decL (b :: t)).length) (HRo (runeV (decL (b :: t))) oB5 oB6 (encS (b :: t) 0) g) d0)) := by
      unfold encS
      cases hq : decL (b :: t) with
      | nil => rw [hq] at hp; simp at hp
      | cons c cs =>
        rw [hq] at hv hlen
        cases hin : inS c 0 with
        | false => obtain ⟨g, hg⟩ := first_A c cs hv hlen hin; exact ⟨false, g, .inl ⟨rfl, hg.trip⟩⟩
        | true => obtain ⟨g, hg⟩ := first_B c cs hv hlen hin; exact ⟨true, g, .inr ⟨rfl, hg.trip⟩⟩
    obtain ⟨V, g, ⟨_, hT⟩ | ⟨_, hT⟩⟩ := key
    · exact re_A b t _ g hl hT h
    · exact re_B b t _ g hl hT h
end Go.Proofs.YtbdpfpjpmilpbaaGreatDoor

namespace Go.Proofs.YtbdpfpjpmilpbaaGreatDoor
open Go Go.Rk
set_option maxRecDepth 1000000
set_option linter.unusedVariables false
set_option linter.unusedSimpArgs false
set_option linter.constructorNameAsVariable false
set_option linter.unusedSectionVars false
/-! the law -/
def tabsU : List (Nat × AObj) := tPw :: tDb :: tabs
instance (priority := 3000) tbU : TabC := ⟨tPw :: tDb :: tb.tabs, fun x hx => by
  rcases List.mem_cons.1 hx with rfl | hx
  · rfl
  · rcases List.mem_cons.1 hx with rfl | hx
    · rfl
    · exact tb.ro x hx⟩
theorem tabOKU : @TabOK P tbU := fun x hx => by
  have hx : x ∈ tPw :: tDb :: tb.tabs := hx
  rcases List.mem_cons.1 hx with rfl | hx
  · exact @tabOKW 0 _ List.mem_cons_self
  · rcases List.mem_cons.1 hx with rfl | hx
    · exact @tabOKW 0 _ (List.mem_cons_of_mem _ List.mem_cons_self)
    · exact tabOK x hx
theorem subU : ∀ x ∈ tb.tabs, x ∈ tbU.tabs := fun x hx => List.mem_cons_of_mem _ (List.mem_cons_of_mem _ hx)
theorem subW : ∀ x ∈ (tbW 0).tabs, x ∈ tbU.tabs := fun x hx => by
  have hx : x ∈ [tPw, tDb] := hx
  show x ∈ tPw :: tDb :: tb.tabs
  rcases List.mem_cons.1 hx with rfl | hx
  · exact List.mem_cons_self
  · rcases List.mem_cons.1 hx with rfl | hx
    · exact List.mem_cons_of_mem _ List.mem_cons_self
    · cases hx
theorem works_T (h : Heap) : @CallT tbU P kF111 [] h (.ret (.bool true) h none) := callT_lift subW (works_W h)
theorem hFU : @FOK tbU P F := F0_ok
noncomputable abbrev FU : Fns := F
abbrev hostC (k : Nat) (name : List UInt8) : List AV := [by8 k, .str name, .int .u32 0, .int .u16 0, .int .u16 0, .int .u16 0, .int .u16 0, .int .u16 0, .int .u16 0, .int .u16 0, .int .u16 0]
abbrev EL (s : List UInt8) (er : Nat) (bad : Bool) (i : Nat) : T := envOf [(0, .str s), (3, .ptr oB2 0 0), (4, erV er), (5, .bool bad), (6, i64 i)]
noncomputable abbrev HL (k : Nat) (name : List UInt8) : Heap := heapOf oB3 ((oB2, .cells (hostC k name) tY64 0 0 false) :: tabsU)
noncomputable abbrev HU : Heap := heapOf oB2 tabsU
abbrev KU : Keep := (oB2, some []) :: (1, some []) :: (5, some []) :: KT
theorem law_a (s nm : List UInt8) (er k i : Nat) (hl : s.length ≤ 600) (hi : i < s.length) : Trip P 71 (lp cF110 0) (EL s er true i) (HL k nm) d0 (.nrm (EL s er true (i + 1)) (HL k nm) d0) :=
  trip_shed hFU (by rfl) [(29, .e (.bool true)), (31, .e (i64 (i + 1)))] oB3 KU [0, 3, 4, 5, 6] (ofK (b := AV.bool (ltI (Int.ofNat i) (Int.ofNat (List.length s))) = AV.bool true ∧ AV.int IntKind.i64 (wrapF IntKind.i64 (Int.ofNat (i + 1))) = AV.int IntKind.i64 (Int.ofNat (i + 1)) ∧ (true = true ∧ true = true ∧ true = true ∧ true = true ∧ true = true ∧ true = true ∧ True) ∧ XR.nrm (envOf [(0, AV.str s), (3, AV.ptr oB2 0 0), (4, AV.int IntKind.i64 (Int.ofNat er)), (5, AV.bool true), (6, AV.int IntKind.i64 (Int.ofNat (i + 1)))]) (heapOf oB3 ((6, AObj.cells [AV.int IntKind.u8 (Int.ofNat k), AV.str nm, AV.int IntKind.u32 (Int.ofNat 0), AV.int IntKind.u16 (Int.ofNat 0), AV.int IntKind.u16 (Int.ofNat 0), AV.int IntKind.u16 (Int.ofNat 0), AV.int IntKind.u16 (Int.ofNat 0), AV.int IntKind.u16 (Int.ofNat 0), AV.int IntKind.u16 (Int.ofNat 0), AV.int IntKind.u16 (Int.ofNat 0), AV.int IntKind.u16 (Int.ofNat 0)] tY64 0 0 false) :: tabsU)) (Ds.mk [] none none) = XR.nrm (envOf [(0, AV.str s), (3, AV.ptr oB2 0 0), (4, AV.int IntKind.i64 (Int.ofNat er)), (5, AV.bool true), (6, AV.int IntKind.i64 (Int.ofNat (i + 1)))]) (heapOf oB3 ((6, AObj.cells [AV.int IntKind.u8 (Int.ofNat k), AV.str nm, AV.int IntKind.u32 (Int.ofNat 0), AV.int IntKind.u16 (Int.ofNat 0), AV.int IntKind.u16 (Int.ofNat 0), AV.int IntKind.u16 (Int.ofNat 0), AV.int IntKind.u16 (Int.ofNat 0), AV.int IntKind.u16 (Int.ofNat 0), AV.int IntKind.u16 (Int.ofNat 0), AV.int IntKind.u16 (Int.ofNat 0), AV.int IntKind.u16 (Int.ofNat 0)] tY64 0 0 false) :: tabsU)) (Ds.mk [] none none)) (by kernel_rfl) (by
    repeat' (with_reducible refine And.intro ?_ ?_)
    all_goals first | with_reducible rfl | exact True.intro | assumption | exact below8 | exact below_app (by assumption) rfl | exact below_app below8 rfl | rw [ltT (by omega)] | rw [ltF (by omega)] | rw [wrapI64 (by omega)] | omega))
theorem law_b (s nm : List UInt8) (er k i : Nat) (hl : s.length ≤ 600) (hi : i < s.length) : Trip P 71 (lp cF110 0) (EL s er false i) (HL k nm) d0 (.nrm (EL s er (evB (s.getD i 0).toNat) (i + 1)) (HL k nm) d0) :=
  trip_shed hFU (by rfl) [(29, .e (.bool true)), (36, .u .undef), (37, .c (.ret (.bool (evB (s.getD i 0).toNat)) (HL k nm) none)), (31, .e (i64 (i + 1)))] oB3 KU [0, 3, 4, 5, 6] (ofK (b := AV.bool (ltI (Int.ofNat i) (Int.ofNat (List.length s))) = AV.bool true ∧ i < List.length s ∧ CallI P 6 [AV.int IntKind.u8 (Int.ofNat (UInt8.toNat (List.getD s i (OfNat.ofNat 0)))), AV.bool false] (heapOf oB3 ((6, AObj.cells [AV.int IntKind.u8 (Int.ofNat k), AV.str nm, AV.int IntKind.u32 (Int.ofNat 0), AV.int IntKind.u16 (Int.ofNat 0), AV.int IntKind.u16 (Int.ofNat 0), AV.int IntKind.u16 (Int.ofNat 0), AV.int IntKind.u16 (Int.ofNat 0), AV.int IntKind.u16 (Int.ofNat 0), AV.int IntKind.u16 (Int.ofNat 0), AV.int IntKind.u16 (Int.ofNat 0), AV.int IntKind.u16 (Int.ofNat 0)] tY64 0 0 false) :: tabsU)) (CR.ret (AV.bool (evB (UInt8.toNat (List.getD s i (OfNat.ofNat 0))))) (heapOf oB3 ((6, AObj.cells [AV.int IntKind.u8 (Int.ofNat k), AV.str nm, AV.int IntKind.u32 (Int.ofNat 0), AV.int IntKind.u16 (Int.ofNat 0), AV.int IntKind.u16 (Int.ofNat 0), AV.int IntKind.u16 (Int.ofNat 0), AV.int IntKind.u16 (Int.ofNat 0), AV.int IntKind.u16 (Int.ofNat 0), AV.int IntKind.u16 (Int.ofNat 0), AV.int IntKind.u16 (Int.ofNat 0), AV.int IntKind.u16 (Int.ofNat 0)] tY64 0 0 false) :: tabsU)) none) ∧ AV.int IntKind.i64 (wrapF IntKind.i64 (Int.ofNat (i + 1))) = AV.int IntKind.i64 (Int.ofNat (i + 1)) ∧ (true = true ∧ true = true ∧ true = true ∧ true = true ∧ true = true ∧ true = true ∧ True) ∧ XR.nrm (envOf [(0, AV.str s), (3, AV.ptr oB2 0 0), (4, AV.int IntKind.i64 (Int.ofNat er)), (5, AV.bool (evB (UInt8.toNat (List.getD s i (OfNat.ofNat 0))))), (6, AV.int IntKind.i64 (Int.ofNat (i + 1)))]) (heapOf oB3 ((6, AObj.cells [AV.int IntKind.u8 (Int.ofNat k), AV.str nm, AV.int IntKind.u32 (Int.ofNat 0), AV.int IntKind.u16 (Int.ofNat 0), AV.int IntKind.u16 (Int.ofNat 0), AV.int IntKind.u16 (Int.ofNat 0), AV.int IntKind.u16 (Int.ofNat 0), AV.int IntKind.u16 (Int.ofNat 0), AV.int IntKind.u16 (Int.ofNat 0), AV.int IntKind.u16 (Int.ofNat 0), AV.int IntKind.u16 (Int.ofNat 0)] tY64 0 0 false) :: tabsU)) (Ds.mk [] none none) = XR.nrm (envOf [(0, AV.str s), (3, AV.ptr oB2 0 0), (4, AV.int IntKind.i64 (Int.ofNat er)), (5, AV.bool (evB (UInt8.toNat (List.getD s i (OfNat.ofNat 0))))), (6, AV.int IntKind.i64 (Int.ofNat (i + 1)))]) (heapOf oB3 ((6, AObj.cells [AV.int IntKind.u8 (Int.ofNat k), AV.str nm, AV.int IntKind.u32 (Int.ofNat 0), AV.int IntKind.u16 (Int.ofNat 0), AV.int IntKind.u16 (Int.ofNat 0), AV.int IntKind.u16 (Int.ofNat 0), AV.int IntKind.u16 (Int.ofNat 0), AV.int IntKind.u16 (Int.ofNat 0), AV.int IntKind.u16 (Int.ofNat 0), AV.int IntKind.u16 (Int.ofNat 0), AV.int IntKind.u16 (Int.ofNat 0)] tY64 0 0 false) :: tabsU)) (Ds.mk [] none none)) (by kernel_rfl) (by
    repeat' (with_reducible refine And.intro ?_ ?_)
    all_goals first | with_reducible rfl | exact True.intro | assumption | exact ⟨callT_lift subU (rforb_T (bt _) _)⟩ | exact below8 | exact below_app (by assumption) rfl | exact below_app below8 rfl | rw [ltT (by omega)] | rw [ltF (by omega)] | rw [wrapI64 (by omega)] | omega))
theorem law_e (s nm : List UInt8) (er k : Nat) (bad : Bool) : Trip P 71 (lp cF110 0) (EL s er bad s.length) (HL k nm) d0 (.exit 0 (EL s er bad s.length) (HL k nm) d0) :=
  trip_shed hFU (by rfl) [(29, .e (.bool false))] oB3 KU [0, 3, 4, 5, 6] (ofK (b := AV.bool (ltI (Int.ofNat (List.length s)) (Int.ofNat (List.length s))) = AV.bool false ∧ (true = true ∧ true = true ∧ true = true ∧ true = true ∧ true = true ∧ true = true ∧ True) ∧ XR.exit 0 (envOf [(0, AV.str s), (3, AV.ptr oB2 0 0), (4, AV.int IntKind.i64 (Int.ofNat er)), (5, AV.bool bad), (6, AV.int IntKind.i64 (Int.ofNat (List.length s)))]) (heapOf oB3 ((6, AObj.cells [AV.int IntKind.u8 (Int.ofNat k), AV.str nm, AV.int IntKind.u32 (Int.ofNat 0), AV.int IntKind.u16 (Int.ofNat 0), AV.int IntKind.u16 (Int.ofNat 0), AV.int IntKind.u16 (Int.ofNat 0), AV.int IntKind.u16 (Int.ofNat 0), AV.int IntKind.u16 (Int.ofNat 0), AV.int IntKind.u16 (Int.ofNat 0), AV.int IntKind.u16 (Int.ofNat 0), AV.int IntKind.u16 (Int.ofNat 0)] tY64 0 0 false) :: tabsU)) (Ds.mk [] none none) = XR.exit 0 (envOf [(0, AV.str s), (3, AV.ptr oB2 0 0), (4, AV.int IntKind.i64 (Int.ofNat er)), (5, AV.bool bad), (6, AV.int IntKind.i64 (Int.ofNat (List.length s)))]) (heapOf oB3 ((6, AObj.cells [AV.int IntKind.u8 (Int.ofNat k), AV.str nm, AV.int IntKind.u32 (Int.ofNat 0), AV.int IntKind.u16 (Int.ofNat 0), AV.int IntKind.u16 (Int.ofNat 0), AV.int IntKind.u16 (Int.ofNat 0), AV.int IntKind.u16 (Int.ofNat 0), AV.int IntKind.u16 (Int.ofNat 0), AV.int IntKind.u16 (Int.ofNat 0), AV.int IntKind.u16 (Int.ofNat 0), AV.int IntKind.u16 (Int.ofNat 0)] tY64 0 0 false) :: tabsU)) (Ds.mk [] none none)) (by kernel_rfl) (by
    repeat' (with_reducible refine And.intro ?_ ?_)
    all_goals first | with_reducible rfl | exact True.intro | assumption | exact below8 | exact below_app (by assumption) rfl | exact below_app below8 rfl | rw [ltT (by omega)] | rw [ltF (by omega)] | rw [wrapI64 (by omega)] | omega))
theorem law_loop (s nm : List UInt8) (er k : Nat) (hl : s.length ≤ 600) : ∀ (m i : Nat) (bad : Bool), s.length = i + m → TripL P 71 (lp cF110 0) (EL s er bad i) (HL k nm) d0 (.exit 0 (EL s er (bad || fbL (s.drop i)) s.length) (HL k nm) d0)
  | 0, i, bad, h => by
    have : i = s.length := by omega
    subst this
    rw [List.drop_length]
    have e : (bad || fbL []) = bad := by cases bad <;> rfl
    rw [e]
    exact TripL.stop rfl (law_e s nm er k bad)
  | m + 1, i, bad, h => by
    have hi : i < s.length := by omega
    have hd : s.drop i = s.getD i 0 :: s.drop (i + 1) := by rw [List.drop_eq_getElem_cons hi]; simp [hi]
    have e : fbL (s.drop i) = (evB (s.getD i 0).toNat || fbL (s.drop (i + 1))) := by rw [hd]; rfl
    rw [e]
    cases bad with
    | true =>
      have ih := law_loop s nm er k hl m (i + 1) true (by omega)
      exact TripL.next (law_a s nm er k i hl hi) ih
    | false =>
      have ih := law_loop s nm er k hl m (i + 1) (evB (s.getD i 0).toNat) (by omega)
      exact TripL.next (law_b s nm er k i hl hi) ih
theorem law_trip (s nm : List UInt8) (er k : Nat) (hl : s.length ≤ 600) (bad : Bool) (hb : fbL s = bad) : Trip P 71 (.loop (lp cF110 0)) (EL s er false 0) (HL k nm) d0 (.exit 0 (EL s er bad s.length) (HL k nm) d0) := by
  have := (law_loop s nm er k hl s.length 0 false (by omega)).trip
  rw [List.drop_zero, Bool.false_or, hb] at this
  exact this
theorem law_big (s : List UInt8) (hl : 600 < s.length) (h : Heap) : CallT P kF110 [.str s] h (.ret (.bool true) h none) :=
  pure_hC tabOKU hFU (by rfl) (by rfl) [(10, .e (.bool true)), (20, .c (.ret (.bool true) HU none))] dF110 (by kernel_rfl) (ofK (b := AV.bool (ltI (Int.ofNat 600) (Int.ofNat (List.length s))) = AV.bool true ∧ CallI P 4 [] (heapOf oB2 tabsU) (CR.ret (AV.bool true) (heapOf oB2 tabsU) none) ∧ AV.bool true = AV.bool true) (by kernel_rfl) (by
    repeat' (with_reducible refine And.intro ?_ ?_)
    all_goals first | with_reducible rfl | exact True.intro | assumption | exact ⟨works_T _⟩ | exact congrArg AV.bool (ltT hl) | exact below8 | exact below_app (by assumption) rfl | exact below_app below8 rfl | rw [ltT (by omega)] | rw [ltF (by omega)] | rw [wrapI64 (by omega)] | omega)) h
theorem law_six (b : UInt8) (t : List UInt8) (hl : (b :: t).length ≤ 600) (hb : eqI (Int.ofNat b.toNat) (Int.ofNat 91) = true) (h : Heap) : CallT P kF110 [.str (b :: t)] h (.ret (.bool true) h none) :=
  pure_hC tabOKU hFU (by rfl) (by rfl) [(10, .e (.bool false)), (17, .e (.bool true)), (20, .c (.ret (.bool true) HU none))] dF110 (by kernel_rfl) (ofK (b := AV.bool (ltI (Int.ofNat 600) (Int.ofNat (List.length (b :: t)))) = AV.bool false ∧ AV.bool (eqI (Int.ofNat (UInt8.toNat b)) (Int.ofNat 91)) = AV.bool true ∧ CallI P 4 [] (heapOf oB2 tabsU) (CR.ret (AV.bool true) (heapOf oB2 tabsU) none) ∧ AV.bool true = AV.bool true) (by kernel_rfl) (by
    repeat' (with_reducible refine And.intro ?_ ?_)
    all_goals first | with_reducible rfl | exact True.intro | assumption | exact ⟨works_T _⟩ | exact congrArg AV.bool (ltF hl) | exact congrArg AV.bool hb | exact below8 | exact below_app (by assumption) rfl | exact below_app below8 rfl | rw [ltT (by omega)] | rw [ltF (by omega)] | rw [wrapI64 (by omega)] | omega)) h
theorem law_nil  (h : Heap) : CallT P kF110 [.str []] h (.ret (.bool true) h none) :=
  pure_hC tabOKU hFU (by rfl) (by rfl) [(23, .c (.ret (.tup [hostV 0 [], erV 0]) HU none)), (99, .l [0, 3, 4, 5, 6] (.exit 0 (EL [] 0 false 0) (HL 0 []) d0)), (51, .c (.ret (.str []) (HL 0 []) none)), (69, .c (.ret (.bool true) (HL 0 []) none))] dF110 (by kernel_rfl) (ofK (b := CallI P 5 [AV.str [], AV.bool false] (heapOf oB2 tabsU) (CR.ret (AV.tup [AV.agg [AV.int IntKind.u8 (Int.ofNat 0), AV.str [], AV.int IntKind.u32 (Int.ofNat 0), AV.int IntKind.u16 (Int.ofNat 0), AV.int IntKind.u16 (Int.ofNat 0), AV.int IntKind.u16 (Int.ofNat 0), AV.int IntKind.u16 (Int.ofNat 0), AV.int IntKind.u16 (Int.ofNat 0), AV.int IntKind.u16 (Int.ofNat 0), AV.int IntKind.u16 (Int.ofNat 0), AV.int IntKind.u16 (Int.ofNat 0)], AV.int IntKind.i64 (Int.ofNat 0)]) (heapOf oB2 tabsU) none) ∧ TripI P 71 (.loop (lp cF110 0)) (envOf [(0, AV.str []), (3, AV.ptr 6 0 0), (4, AV.int IntKind.i64 (Int.ofNat 0)), (5, AV.bool false), (6, AV.int IntKind.i64 (Int.ofNat 0))]) (heapOf 7 ((6, AObj.cells [AV.int IntKind.u8 (Int.ofNat 0), AV.str [], AV.int IntKind.u32 (Int.ofNat 0), AV.int IntKind.u16 (Int.ofNat 0), AV.int IntKind.u16 (Int.ofNat 0), AV.int IntKind.u16 (Int.ofNat 0), AV.int IntKind.u16 (Int.ofNat 0), AV.int IntKind.u16 (Int.ofNat 0), AV.int IntKind.u16 (Int.ofNat 0), AV.int IntKind.u16 (Int.ofNat 0), AV.int IntKind.u16 (Int.ofNat 0)] 27 0 0 false) :: tabsU)) (Ds.mk [] none none) (XR.exit 0 (envOf [(0, AV.str []), (3, AV.ptr oB2 0 0), (4, AV.int IntKind.i64 (Int.ofNat 0)), (5, AV.bool false), (6, AV.int IntKind.i64 (Int.ofNat 0))]) (heapOf oB3 ((6, AObj.cells [AV.int IntKind.u8 (Int.ofNat 0), AV.str [], AV.int IntKind.u32 (Int.ofNat 0), AV.int IntKind.u16 (Int.ofNat 0), AV.int IntKind.u16 (Int.ofNat 0), AV.int IntKind.u16 (Int.ofNat 0), AV.int IntKind.u16 (Int.ofNat 0), AV.int IntKind.u16 (Int.ofNat 0), AV.int IntKind.u16 (Int.ofNat 0), AV.int IntKind.u16 (Int.ofNat 0), AV.int IntKind.u16 (Int.ofNat 0)] tY64 0 0 false) :: tabsU)) (Ds.mk [] none none)) ∧ CallI P 7 [AV.str [], AV.int IntKind.u8 (Int.ofNat 0)] (heapOf oB3 ((6, AObj.cells [AV.int IntKind.u8 (Int.ofNat 0), AV.str [], AV.int IntKind.u32 (Int.ofNat 0), AV.int IntKind.u16 (Int.ofNat 0), AV.int IntKind.u16 (Int.ofNat 0), AV.int IntKind.u16 (Int.ofNat 0), AV.int IntKind.u16 (Int.ofNat 0), AV.int IntKind.u16 (Int.ofNat 0), AV.int IntKind.u16 (Int.ofNat 0), AV.int IntKind.u16 (Int.ofNat 0), AV.int IntKind.u16 (Int.ofNat 0)] tY64 0 0 false) :: tabsU)) (CR.ret (AV.str []) (heapOf oB3 ((6, AObj.cells [AV.int IntKind.u8 (Int.ofNat 0), AV.str [], AV.int IntKind.u32 (Int.ofNat 0), AV.int IntKind.u16 (Int.ofNat 0), AV.int IntKind.u16 (Int.ofNat 0), AV.int IntKind.u16 (Int.ofNat 0), AV.int IntKind.u16 (Int.ofNat 0), AV.int IntKind.u16 (Int.ofNat 0), AV.int IntKind.u16 (Int.ofNat 0), AV.int IntKind.u16 (Int.ofNat 0), AV.int IntKind.u16 (Int.ofNat 0)] tY64 0 0 false) :: tabsU)) none) ∧ CallI P 4 [] (heapOf oB3 ((6, AObj.cells [AV.int IntKind.u8 (Int.ofNat 0), AV.str [], AV.int IntKind.u32 (Int.ofNat 0), AV.int IntKind.u16 (Int.ofNat 0), AV.int IntKind.u16 (Int.ofNat 0), AV.int IntKind.u16 (Int.ofNat 0), AV.int IntKind.u16 (Int.ofNat 0), AV.int IntKind.u16 (Int.ofNat 0), AV.int IntKind.u16 (Int.ofNat 0), AV.int IntKind.u16 (Int.ofNat 0), AV.int IntKind.u16 (Int.ofNat 0)] tY64 0 0 false) :: tabsU)) (CR.ret (AV.bool true) (heapOf oB3 ((6, AObj.cells [AV.int IntKind.u8 (Int.ofNat 0), AV.str [], AV.int IntKind.u32 (Int.ofNat 0), AV.int IntKind.u16 (Int.ofNat 0), AV.int IntKind.u16 (Int.ofNat 0), AV.int IntKind.u16 (Int.ofNat 0), AV.int IntKind.u16 (Int.ofNat 0), AV.int IntKind.u16 (Int.ofNat 0), AV.int IntKind.u16 (Int.ofNat 0), AV.int IntKind.u16 (Int.ofNat 0), AV.int IntKind.u16 (Int.ofNat 0)] tY64 0 0 false) :: tabsU)) none) ∧ AV.bool true = AV.bool true) (by kernel_rfl) (by
    repeat' (with_reducible refine And.intro ?_ ?_)
    all_goals first | with_reducible rfl | exact True.intro | assumption | exact ⟨works_T _⟩ | exact ⟨callT_lift subU (parse_nil _)⟩ | exact ⟨law_trip [] [] 0 0 (by simp) false rfl⟩ | exact ⟨callT_lift subU (renc_T [] (by simp) _)⟩ | exact below8 | exact below_app (by assumption) rfl | exact below_app below8 rfl | rw [ltT (by omega)] | rw [ltF (by omega)] | rw [wrapI64 (by omega)] | omega)) h
theorem law_bad (b : UInt8) (t : List UInt8) (hl : (b :: t).length ≤ 600) (hb : eqI (Int.ofNat b.toNat) (Int.ofNat 91) = false) (hb2 : beqB [b] [91] = false) (he : fbL (b :: t) = true) (h : Heap) : CallT P kF110 [.str (b :: t)] h (.ret (.bool true) h none) :=
  pure_hC tabOKU hFU (by rfl) (by rfl) [(10, .e (.bool false)), (17, .e (.bool false)), (23, .c (.ret (.tup [hostV 0 [], erV 70]) HU none)), (99, .l [0, 3, 4, 5, 6] (.exit 0 (EL (b :: t) 70 true (b :: t).length) (HL 0 []) d0)), (48, .c (.ret (.bool true) (HL 0 []) none))] dF110 (by kernel_rfl) (ofK (b := AV.bool (ltI (Int.ofNat 600) (Int.ofNat (List.length (b :: t)))) = AV.bool false ∧ AV.bool (eqI (Int.ofNat (UInt8.toNat b)) (Int.ofNat 91)) = AV.bool false ∧ CallI P 5 [AV.str (b :: t), AV.bool false] (heapOf oB2 tabsU) (CR.ret (AV.tup [AV.agg [AV.int IntKind.u8 (Int.ofNat 0), AV.str [], AV.int IntKind.u32 (Int.ofNat 0), AV.int IntKind.u16 (Int.ofNat 0), AV.int IntKind.u16 (Int.ofNat 0), AV.int IntKind.u16 (Int.ofNat 0), AV.int IntKind.u16 (Int.ofNat 0), AV.int IntKind.u16 (Int.ofNat 0), AV.int IntKind.u16 (Int.ofNat 0), AV.int IntKind.u16 (Int.ofNat 0), AV.int IntKind.u16 (Int.ofNat 0)], AV.int IntKind.i64 (Int.ofNat 70)]) (heapOf oB2 tabsU) none) ∧ TripI P 71 (.loop (lp cF110 0)) (envOf [(0, AV.str (b :: t)), (3, AV.ptr 6 0 0), (4, AV.int IntKind.i64 (Int.ofNat 70)), (5, AV.bool false), (6, AV.int IntKind.i64 (Int.ofNat 0))]) (heapOf 7 ((6, AObj.cells [AV.int IntKind.u8 (Int.ofNat 0), AV.str [], AV.int IntKind.u32 (Int.ofNat 0), AV.int IntKind.u16 (Int.ofNat 0), AV.int IntKind.u16 (Int.ofNat 0), AV.int IntKind.u16 (Int.ofNat 0), AV.int IntKind.u16 (Int.ofNat 0), AV.int IntKind.u16 (Int.ofNat 0), AV.int IntKind.u16 (Int.ofNat 0), AV.int IntKind.u16 (Int.ofNat 0), AV.int IntKind.u16 (Int.ofNat 0)] 27 0 0 false) :: tabsU)) (Ds.mk [] none none) (XR.exit 0 (envOf [(0, AV.str (b :: t)), (3, AV.ptr oB2 0 0), (4, AV.int IntKind.i64 (Int.ofNat 70)), (5, AV.bool true), (6, AV.int IntKind.i64 (Int.ofNat (List.length (b :: t))))]) (heapOf oB3 ((6, AObj.cells [AV.int IntKind.u8 (Int.ofNat 0), AV.str [], AV.int IntKind.u32 (Int.ofNat 0), AV.int IntKind.u16 (Int.ofNat 0), AV.int IntKind.u16 (Int.ofNat 0), AV.int IntKind.u16 (Int.ofNat 0), AV.int IntKind.u16 (Int.ofNat 0), AV.int IntKind.u16 (Int.ofNat 0), AV.int IntKind.u16 (Int.ofNat 0), AV.int IntKind.u16 (Int.ofNat 0), AV.int IntKind.u16 (Int.ofNat 0)] tY64 0 0 false) :: tabsU)) (Ds.mk [] none none)) ∧ CallI P 4 [] (heapOf oB3 ((6, AObj.cells [AV.int IntKind.u8 (Int.ofNat 0), AV.str [], AV.int IntKind.u32 (Int.ofNat 0), AV.int IntKind.u16 (Int.ofNat 0), AV.int IntKind.u16 (Int.ofNat 0), AV.int IntKind.u16 (Int.ofNat 0), AV.int IntKind.u16 (Int.ofNat 0), AV.int IntKind.u16 (Int.ofNat 0), AV.int IntKind.u16 (Int.ofNat 0), AV.int IntKind.u16 (Int.ofNat 0), AV.int IntKind.u16 (Int.ofNat 0)] tY64 0 0 false) :: tabsU)) (CR.ret (AV.bool true) (heapOf oB3 ((6, AObj.cells [AV.int IntKind.u8 (Int.ofNat 0), AV.str [], AV.int IntKind.u32 (Int.ofNat 0), AV.int IntKind.u16 (Int.ofNat 0), AV.int IntKind.u16 (Int.ofNat 0), AV.int IntKind.u16 (Int.ofNat 0), AV.int IntKind.u16 (Int.ofNat 0), AV.int IntKind.u16 (Int.ofNat 0), AV.int IntKind.u16 (Int.ofNat 0), AV.int IntKind.u16 (Int.ofNat 0), AV.int IntKind.u16 (Int.ofNat 0)] tY64 0 0 false) :: tabsU)) none) ∧ AV.bool true = AV.bool true) (by kernel_rfl) (by
    repeat' (with_reducible refine And.intro ?_ ?_)
    all_goals first | with_reducible rfl | exact True.intro | assumption | exact ⟨works_T _⟩ | exact ⟨callT_lift subU (parse_bad b t (by omega) hb2 he _)⟩ | exact ⟨law_trip (b :: t) [] 70 0 hl true he⟩ | exact congrArg AV.bool (ltF hl) | exact congrArg AV.bool hb | exact below8 | exact below_app (by assumption) rfl | exact below_app below8 rfl | rw [ltT (by omega)] | rw [ltF (by omega)] | rw [wrapI64 (by omega)] | omega)) h
theorem law_ok (b : UInt8) (t : List UInt8) (hl : (b :: t).length ≤ 600) (hb : eqI (Int.ofNat b.toNat) (Int.ofNat 91) = false) (hb2 : beqB [b] [91] = false) (he : fbL (b :: t) = false) (h : Heap) : CallT P kF110 [.str (b :: t)] h (.ret (.bool true) h none) :=
  pure_hC tabOKU hFU (by rfl) (by rfl) [(10, .e (.bool false)), (17, .e (.bool false)), (23, .c (.ret (.tup [hostV 4 (encS (b :: t) 0), erV 0]) HU none)), (99, .l [0, 3, 4, 5, 6] (.exit 0 (EL (b :: t) 0 false (b :: t).length) (HL 4 (encS (b :: t) 0)) d0)), (51, .c (.ret (.str (encS (b :: t) 0)) (HL 4 (encS (b :: t) 0)) none)), (58, .e (.bool true)), (69, .c (.ret (.bool true) (HL 4 (encS (b :: t) 0)) none))] dF110 (by kernel_rfl) (ofK (b := AV.bool (ltI (Int.ofNat 600) (Int.ofNat (List.length (b :: t)))) = AV.bool false ∧ AV.bool (eqI (Int.ofNat (UInt8.toNat b)) (Int.ofNat 91)) = AV.bool false ∧ CallI P 5 [AV.str (b :: t), AV.bool false] (heapOf oB2 tabsU) (CR.ret (AV.tup [AV.agg [AV.int IntKind.u8 (Int.ofNat 4), AV.str (encS (b :: t) 0), AV.int IntKind.u32 (Int.ofNat 0), AV.int IntKind.u16 (Int.ofNat 0), AV.int IntKind.u16 (Int.ofNat 0), AV.int IntKind.u16 (Int.ofNat 0), AV.int IntKind.u16 (Int.ofNat 0), AV.int IntKind.u16 (Int.ofNat 0), AV.int IntKind.u16 (Int.ofNat 0), AV.int IntKind.u16 (Int.ofNat 0), AV.int IntKind.u16 (Int.ofNat 0)], AV.int IntKind.i64 (Int.ofNat 0)]) (heapOf oB2 tabsU) none) ∧ TripI P 71 (.loop (lp cF110 0)) (envOf [(0, AV.str (b :: t)), (3, AV.ptr 6 0 0), (4, AV.int IntKind.i64 (Int.ofNat 0)), (5, AV.bool false), (6, AV.int IntKind.i64 (Int.ofNat 0))]) (heapOf 7 ((6, AObj.cells [AV.int IntKind.u8 (Int.ofNat 4), AV.str (encS (b :: t) 0), AV.int IntKind.u32 (Int.ofNat 0), AV.int IntKind.u16 (Int.ofNat 0), AV.int IntKind.u16 (Int.ofNat 0), AV.int IntKind.u16 (Int.ofNat 0), AV.int IntKind.u16 (Int.ofNat 0), AV.int IntKind.u16 (Int.ofNat 0), AV.int IntKind.u16 (Int.ofNat 0), AV.int IntKind.u16 (Int.ofNat 0), AV.int IntKind.u16 (Int.ofNat 0)] 27 0 0 false) :: tabsU)) (Ds.mk [] none none) (XR.exit 0 (envOf [(0, AV.str (b :: t)), (3, AV.ptr oB2 0 0), (4, AV.int IntKind.i64 (Int.ofNat 0)), (5, AV.bool false), (6, AV.int IntKind.i64 (Int.ofNat (List.length (b :: t))))]) (heapOf oB3 ((6, AObj.cells [AV.int IntKind.u8 (Int.ofNat 4), AV.str (encS (b :: t) 0), AV.int IntKind.u32 (Int.ofNat 0), AV.int IntKind.u16 (Int.ofNat 0), AV.int IntKind.u16 (Int.ofNat 0), AV.int IntKind.u16 (Int.ofNat 0), AV.int IntKind.u16 (Int.ofNat 0), AV.int IntKind.u16 (Int.ofNat 0), AV.int IntKind.u16 (Int.ofNat 0), AV.int IntKind.u16 (Int.ofNat 0), AV.int IntKind.u16 (Int.ofNat 0)] tY64 0 0 false) :: tabsU)) (Ds.mk [] none none)) ∧ CallI P 7 [AV.str (b :: t), AV.int IntKind.u8 (Int.ofNat 0)] (heapOf oB3 ((6, AObj.cells [AV.int IntKind.u8 (Int.ofNat 4), AV.str (encS (b :: t) 0), AV.int IntKind.u32 (Int.ofNat 0), AV.int IntKind.u16 (Int.ofNat 0), AV.int IntKind.u16 (Int.ofNat 0), AV.int IntKind.u16 (Int.ofNat 0), AV.int IntKind.u16 (Int.ofNat 0), AV.int IntKind.u16 (Int.ofNat 0), AV.int IntKind.u16 (Int.ofNat 0), AV.int IntKind.u16 (Int.ofNat 0), AV.int IntKind.u16 (Int.ofNat 0)] tY64 0 0 false) :: tabsU)) (CR.ret (AV.str (encS (b :: t) 0)) (heapOf oB3 ((6, AObj.cells [AV.int IntKind.u8 (Int.ofNat 4), AV.str (encS (b :: t) 0), AV.int IntKind.u32 (Int.ofNat 0), AV.int IntKind.u16 (Int.ofNat 0), AV.int IntKind.u16 (Int.ofNat 0), AV.int IntKind.u16 (Int.ofNat 0), AV.int IntKind.u16 (Int.ofNat 0), AV.int IntKind.u16 (Int.ofNat 0), AV.int IntKind.u16 (Int.ofNat 0), AV.int IntKind.u16 (Int.ofNat 0), AV.int IntKind.u16 (Int.ofNat 0)] tY64 0 0 false) :: tabsU)) none) ∧ AV.bool (beqB (encS (b :: t) 0) (encS (b :: t) 0)) = AV.bool true ∧ CallI P 4 [] (heapOf oB3 ((6, AObj.cells [AV.int IntKind.u8 (Int.ofNat 4), AV.str (encS (b :: t) 0), AV.int IntKind.u32 (Int.ofNat 0), AV.int IntKind.u16 (Int.ofNat 0), AV.int IntKind.u16 (Int.ofNat 0), AV.int IntKind.u16 (Int.ofNat 0), AV.int IntKind.u16 (Int.ofNat 0), AV.int IntKind.u16 (Int.ofNat 0), AV.int IntKind.u16 (Int.ofNat 0), AV.int IntKind.u16 (Int.ofNat 0), AV.int IntKind.u16 (Int.ofNat 0)] tY64 0 0 false) :: tabsU)) (CR.ret (AV.bool true) (heapOf oB3 ((6, AObj.cells [AV.int IntKind.u8 (Int.ofNat 4), AV.str (encS (b :: t) 0), AV.int IntKind.u32 (Int.ofNat 0), AV.int IntKind.u16 (Int.ofNat 0), AV.int IntKind.u16 (Int.ofNat 0), AV.int IntKind.u16 (Int.ofNat 0), AV.int IntKind.u16 (Int.ofNat 0), AV.int IntKind.u16 (Int.ofNat 0), AV.int IntKind.u16 (Int.ofNat 0), AV.int IntKind.u16 (Int.ofNat 0), AV.int IntKind.u16 (Int.ofNat 0)] tY64 0 0 false) :: tabsU)) none) ∧ AV.bool true = AV.bool true) (by kernel_rfl) (by
    repeat' (with_reducible refine And.intro ?_ ?_)
    all_goals first | with_reducible rfl | exact True.intro | assumption | exact ⟨works_T _⟩ | exact ⟨callT_lift subU (parse_ok b t (by omega) hb2 he _)⟩ | exact ⟨callT_lift subU (renc_T (b :: t) (by omega) _)⟩ | exact ⟨law_trip (b :: t) (encS (b :: t) 0) 0 4 hl false he⟩ | exact congrArg AV.bool (ltF hl) | exact congrArg AV.bool hb | exact congrArg AV.bool (beqB_iff.2 rfl) | exact below8 | exact below_app (by assumption) rfl | exact below_app below8 rfl | rw [ltT (by omega)] | rw [ltF (by omega)] | rw [wrapI64 (by omega)] | omega)) h
theorem law_T (s : List UInt8) (h : Heap) : @CallT tbU P kF110 [.str s] h (.ret (.bool true) h none) := by
  by_cases hl : s.length ≤ 600
  · cases s with
    | nil => exact law_nil h
    | cons b t =>
      cases hb : eqI (Int.ofNat b.toNat) (Int.ofNat 91) with
      | true => exact law_six b t hl hb h
      | false =>
        have hb2 : beqB [b] [91] = false := by
          rw [beqB_false]
          intro e
          injection e with e _
          subst e
          cases hb
        cases he : fbL (b :: t) with
        | true => exact law_bad b t hl hb hb2 he h
        | false => exact law_ok b t hl hb hb2 he h
  · exact law_big s (by omega) h
end Go.Proofs.YtbdpfpjpmilpbaaGreatDoor

