/-
  PctBack: for every input the law returns true, and the input reads afterwards as before. No condition.
-/
import Derived.Test.YtlmpigpkdelopaaDoorBaA
namespace Go.Proofs.YtlmpigpkdelopaaDoor
open Go Go.ChangeShapes Go.WideShapes Go.ChangeAt Go.RowKit Go.Rk Go.ChangeMaps
set_option maxHeartbeats 0 in
theorem pctBack_holds : Rows.PctBackCardSaid :=
  Claim7.holds_tied_plain_at .later [] [.data, .pinned] true (true, "12492f7555ce8bfc93c0271c03aefe294d213c606d679c24853d672875dc30da") false
    row_holds (fun _ h => by cases h) (by as_aux_lemma => kernel_rfl) (fun _ h => by cases h) pctBack_row_tie rfl ⟨rfl, rfl⟩ (by as_aux_lemma => kernel_rfl) rfl
    (fun f fn hf hfn => by
      obtain rfl : f = 3 := Option.some.inj ((show Tryd.prog.funcNamed "portcullis/portcullislaw09.PctBack" = some 3 by as_aux_lemma => kernel_rfl).symm.trans hf) |>.symm
      obtain rfl : fn = Tryd.f3 := (Option.some.inj (Tryd.func3.symm.trans hfn)).symm
      exact ⟨by as_aux_lemma => kernel_rfl, fun j t ht => by
        rw [Tryd.params3] at ht
        have hm : t ∈ [9] := by simpa using Array.mem_of_getElem? ht
        have hall : ([9].all fun u => !Tryd.prog.wantsStandIn u) = true := by as_aux_lemma => kernel_rfl
        exact (show Tryd.prog.wantsStandIn t = false by simpa using List.all_eq_true.1 hall t hm)⟩)
    (by as_aux_lemma => kernel_rfl)
#print axioms pctBack_holds
end Go.Proofs.YtlmpigpkdelopaaDoor
