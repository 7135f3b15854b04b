/-
  ProxyNone: for every input the law returns true, and the input reads afterwards as before. No condition.
-/
import Derived.Test.YtcideebbbdjlgaaGreatDoorE3
namespace Go.Proofs.YtcideebbbdjlgaaGreatDoor
open Go Go.ChangeShapes Go.WideShapes Go.ChangeAt Go.RowKit Go.Rk Go.ChangeMaps
set_option maxHeartbeats 0 in
theorem proxyNone_holds : Rows.ProxyNoneCardSaid :=
  Claim7.holds_tied_plain_at .later [] [.pinned, .data, .data, .data, .data, .sentinel, .sentinel, .pinned] true (true, "9138d67fd65dce279d3c5d24c370437a44fd66c04f1bab031ab91fa01f71da0a") true
    row_holds (fun _ h => by cases h) (by as_aux_lemma => kernel_rfl) (fun _ h => by cases h) proxyNone_row_tie rfl ⟨rfl, rfl⟩ (by as_aux_lemma => kernel_rfl) rfl
    (fun f fn hf hfn => by
      obtain rfl : f = 3 := Option.some.inj ((show Tryz.prog.funcNamed "portcullis/portcullislaw29.ProxyNone" = some 3 by as_aux_lemma => kernel_rfl).symm.trans hf) |>.symm
      obtain rfl : fn = Tryz.f3 := (Option.some.inj (Tryz.func3.symm.trans hfn)).symm
      exact ⟨by as_aux_lemma => kernel_rfl, fun j t ht => by
        rw [Tryz.params3] at ht
        have hm : t ∈ [25, 9] := by simpa using Array.mem_of_getElem? ht
        have hall : ([25, 9].all fun u => !Tryz.prog.wantsStandIn u) = true := by as_aux_lemma => kernel_rfl
        exact (show Tryz.prog.wantsStandIn t = false by simpa using List.all_eq_true.1 hall t hm)⟩)
    (by as_aux_lemma => kernel_rfl)
#print axioms proxyNone_holds
end Go.Proofs.YtcideebbbdjlgaaGreatDoor
