/-
  A step of the proof of this seat's statement. No condition.
-/
import Derived.Test.YtbdpfpjpmilpbaaGreatDoorCards
import Derived.Test.YtbdpfpjpmilpbaaGreatDoorTie
import Derived.ProofKit
import Derived.LaidMore
import Derived.OpenShut
import Derived.SevenTiedAt
import Derived.Lay
import Derived.Stop.Joined
import Derived.Test.YtbdpfpjpmilpbaaGreatDoorD
import Derived.Test.YtbdpfpjpmilpbaaGreatDoorG
import Derived.Test.YtbdpfpjpmilpbaaGreatDoorHE
namespace Go.Proofs.YtbdpfpjpmilpbaaGreatDoor
open Go Go.ChangeShapes Go.WideShapes Go.ChangeAt Go.RowKit Go.Rk Go.ChangeMaps
set_option maxRecDepth 100000
set_option linter.unusedVariables false
set_option linter.unusedSimpArgs false
set_option linter.constructorNameAsVariable false
set_option linter.unusedSectionVars false
theorem own : ownKnob Tryz.prog.godebug = Option.none := by kernel_rfl
theorem u8s_val : ∀ (L : List Nat), (L.map fun n => Value.int .u8 (Int.ofNat n)) = (L.map Int.ofNat).map fun z => Value.int .u8 z
  | [] => rfl
  | a :: l => by simp only [List.map_cons, u8s_val l]
theorem u8s_VRs {σ : Sg} : ∀ (L : List Nat), VRs σ (u8s L) ((L.map Int.ofNat).map fun z => Value.int .u8 z)
  | [] => VRs.nil
  | a :: l => VRs.cons (by simp only [VR]) (u8s_VRs l)
def rangesP : List (Int × Int) := [(128, 191), (160, 191), (128, 159), (144, 191), (128, 143), (0, 0), (0, 0), (0, 0), (0, 0), (0, 0), (0, 0), (0, 0), (0, 0), (0, 0), (0, 0), (0, 0)]
theorem ranges_flat : (rangesP.flatMap fun x => [Value.int .u8 x.1, Value.int .u8 x.2]) = (rangesN.map Int.ofNat).map fun z => Value.int .u8 z := by rfl
theorem u64s_VRs {σ : Sg} : ∀ (L : List Nat), VRs σ (u64s L) ((L.map Int.ofNat).map fun z => Value.int .u64 z)
  | [] => VRs.nil
  | a :: l => VRs.cons (by simp only [VR]) (u64s_VRs l)
theorem u8sW_VRs {σ : Sg} : ∀ (L : List Nat), VRs σ (u8sW L) ((L.map Int.ofNat).map fun z => Value.int .u8 z)
  | [] => VRs.nil
  | a :: l => VRs.cons (by simp only [VR]) (u8sW_VRs l)
theorem laidPw : (Rows.laid_internal_strconv_uint64pow10 : DataW Unit) = Lib.tabData .u64 (pw.map Int.ofNat) := by kernel_rfl
theorem laidDb : (Rows.laid_math_bits_deBruijn64tab : DataW Unit) = Lib.tabData .u8 (db.map Int.ofNat) := by kernel_rfl
theorem laidF : Rows.laid_unicode_utf8_first = Lib.tabData .u8 (firstN.map Int.ofNat) := by kernel_rfl
theorem laidR : (Rows.laid_unicode_utf8_acceptRanges : DataW Unit) = .agg (rangesP.map fun x => .agg [.lit (.int .u8 x.1), .lit (.int .u8 x.2)]) := by kernel_rfl
theorem tabW {W : World} (hs : W.ShapedOpen Tryz.prog) (hl : laidMet Tryz.prog [("math/bits.deBruijn32tab", Rows.laid_math_bits_deBruijn32tab), ("math/bits.deBruijn64tab", Rows.laid_math_bits_deBruijn64tab), ("internal/strconv.uint64pow10", Rows.laid_internal_strconv_uint64pow10), ("unicode/utf8.acceptRanges", Rows.laid_unicode_utf8_acceptRanges), ("unicode/utf8.first", Rows.laid_unicode_utf8_first)] W) : @TabW tbU W := by
  obtain ⟨ps, hv, _⟩ := hl
  obtain ⟨c0, h0, hn0⟩ := varCells (g := oB0) (t := tY69) (n := 256) hs (by kernel_rfl) (by kernel_rfl)
  obtain ⟨c1, h1, hn1⟩ := varCells (g := oB1) (t := tY72) (n := 32) hs (by kernel_rfl) (by kernel_rfl)
  have e0 : c0.toList = (firstN.map Int.ofNat).map fun z => Value.int .u8 z := by
    obtain ⟨g, t, cs, fuel, p, k1, k2, k3, k4⟩ := laid_reads hv _ _ (List.mem_cons_of_mem _ (List.mem_cons_of_mem _ (List.mem_cons_of_mem _ (List.mem_cons_of_mem _ List.mem_cons_self))))
    obtain rfl := Option.some.inj ((show Tryz.prog.globalNamed "unicode/utf8.first" = some oB0 by kernel_rfl).symm.trans k1)
    obtain rfl := Option.some.inj ((show (Tryz.prog.globals[oB0]?).map (·.type) = some tY69 by kernel_rfl).symm.trans k2)
    obtain rfl := var_cells k1 h0 k3
    rw [laidF] at k4
    exact Lib.cells_of_tab (n := 256) (e := 5) (by kernel_rfl) (by kernel_rfl) (by kernel_rfl) (by kernel_rfl) k4
  have e1 : c1.toList = (rangesN.map Int.ofNat).map fun z => Value.int .u8 z := by
    obtain ⟨g, t, cs, fuel, p, k1, k2, k3, k4⟩ := laid_reads hv _ _ (List.mem_cons_of_mem _ (List.mem_cons_of_mem _ (List.mem_cons_of_mem _ List.mem_cons_self)))
    obtain rfl := Option.some.inj ((show Tryz.prog.globalNamed "unicode/utf8.acceptRanges" = some oB1 by kernel_rfl).symm.trans k1)
    obtain rfl := Option.some.inj ((show (Tryz.prog.globals[oB1]?).map (·.type) = some tY72 by kernel_rfl).symm.trans k2)
    obtain rfl := var_cells k1 h1 k3
    rw [laidR] at k4
    rw [← ranges_flat]
    have hc : Tryz.prog.cellsOf 207 = 2 := by kernel_rfl
    have hcl : cs.toList.length = 32 := by simpa using hn1
    refine pairs_flat rangesP _ (by rw [hcl]; rfl) fun i hi x hx => ?_
    obtain ⟨fuel', d, q, g1, g2⟩ := elem_of (n := 16) (e := 207) (show Tryz.prog.underlying tY72 = some (.array 16 207) by kernel_rfl) k4 i hi
    rw [List.getElem?_map, hx] at g1
    simp only [Option.map_some, Option.some.injEq] at g1
    subst g1
    rw [hc] at g2
    have hi' : i < 16 := hi
    obtain ⟨fs, hu, hfn, hff⟩ : ∃ fs : Array Field, Tryz.prog.underlying 207 = some (.struct fs) ∧ fs.size = 2 ∧ ∀ (i : Nat) (f : Field), fs[i]? = some f → Tryz.prog.underlying f.type = some (.int .u8) ∧ f.offset = i ∧ Tryz.prog.cellsOf f.type = 1 := by
      have hx : (match Tryz.prog.underlying 207 with
        | some (.struct fs) => decide (fs.size = 2) && (List.range 2).all fun i => match fs[i]? with
          | some f => Nat.beq f.type 5 && Nat.beq f.offset i
          | none => false
        | _ => false) = true := by kernel_rfl
      split at hx
      · rename_i fs hu
        simp only [Bool.and_eq_true, decide_eq_true_eq, List.all_eq_true, List.mem_range] at hx
        refine ⟨fs, hu, hx.1, fun i f hif => ?_⟩
        have hlt : i < 2 := by rw [← hx.1]; exact (Array.getElem?_eq_some_iff.1 hif).1
        have h2 := hx.2 i hlt
        rw [hif] at h2
        simp only [Bool.and_eq_true] at h2
        have e5 := Nat.eq_of_beq_eq_true h2.1
        exact ⟨by rw [e5]; kernel_rfl, Nat.eq_of_beq_eq_true h2.2, by rw [e5]; kernel_rfl⟩
      · cases hx
    exact pair_of hu hfn hff g2 (by rw [List.length_take, List.length_drop, hcl]; omega)
  obtain ⟨c2, h2, hn2⟩ := varCells (g := 1) (t := 174) (n := 20) hs (by kernel_rfl) (by kernel_rfl)
  obtain ⟨c3, h3, hn3⟩ := varCells (g := 5) (t := 228) (n := 64) hs (by kernel_rfl) (by kernel_rfl)
  have e2 : c2.toList = (pw.map Int.ofNat).map fun z => Value.int .u64 z := by
    obtain ⟨g, t, cs, fuel, p, k1, k2, k3, k4⟩ := laid_reads hv _ _ (List.mem_cons_of_mem _ (List.mem_cons_of_mem _ List.mem_cons_self))
    obtain rfl := Option.some.inj ((show Tryz.prog.globalNamed "internal/strconv.uint64pow10" = some 1 by kernel_rfl).symm.trans k1)
    obtain rfl := Option.some.inj ((show (Tryz.prog.globals[1]?).map (·.type) = some 174 by kernel_rfl).symm.trans k2)
    obtain rfl := var_cells k1 h2 k3
    rw [laidPw] at k4
    exact Lib.cells_of_tab (n := 20) (e := 84) (by kernel_rfl) (by kernel_rfl) (by kernel_rfl) (by kernel_rfl) k4
  have e3 : c3.toList = (db.map Int.ofNat).map fun z => Value.int .u8 z := by
    obtain ⟨g, t, cs, fuel, p, k1, k2, k3, k4⟩ := laid_reads hv _ _ (List.mem_cons_of_mem _ List.mem_cons_self)
    obtain rfl := Option.some.inj ((show Tryz.prog.globalNamed "math/bits.deBruijn64tab" = some 5 by kernel_rfl).symm.trans k1)
    obtain rfl := Option.some.inj ((show (Tryz.prog.globals[5]?).map (·.type) = some 228 by kernel_rfl).symm.trans k2)
    obtain rfl := var_cells k1 h3 k3
    rw [laidDb] at k4
    exact Lib.cells_of_tab (n := 64) (e := 5) (by kernel_rfl) (by kernel_rfl) (by kernel_rfl) (by kernel_rfl) k4
  intro x hx
  have hx : x ∈ [tPw, tDb, (oB0, AObj.cells (u8s firstN) tY69 0 257 false), (oB1, AObj.cells (u8s rangesN) tY72 0 33 false)] := hx
  simp only [List.mem_cons, List.mem_nil_iff, or_false] at hx
  rcases hx with rfl | rfl | rfl | rfl
  · exact ⟨_, _, _, _, _, _, rfl, h2, .inl rfl, by rw [e2]; exact u64s_VRs _⟩
  · exact ⟨_, _, _, _, _, _, rfl, h3, .inl rfl, by rw [e3]; exact u8sW_VRs _⟩
  · exact ⟨_, _, _, _, _, _, rfl, h0, .inl rfl, by rw [e0]; exact u8s_VRs _⟩
  · exact ⟨_, _, _, _, _, _, rfl, h1, .inl rfl, by rw [e1]; exact u8s_VRs _⟩
theorem tabPair : tbU.tabs.Pairwise (fun (x y : Nat × AObj) => x.1 ≠ y.1) := by
  show List.Pairwise _ [tPw, tDb, (oB0, AObj.cells (u8s firstN) tY69 0 257 false), (oB1, AObj.cells (u8s rangesN) tY72 0 33 false)]
  simp [oB0, oB1]
end Go.Proofs.YtbdpfpjpmilpbaaGreatDoor

namespace Go.Proofs.YtbdpfpjpmilpbaaGreatDoor
open Go Go.ChangeShapes Go.WideShapes Go.ChangeAt Go.RowKit Go.Rk Go.ChangeMaps
set_option maxRecDepth 100000
set_option linter.unusedVariables false
set_option linter.unusedSimpArgs false
set_option linter.constructorNameAsVariable false
set_option linter.unusedSectionVars false
theorem call3 (s : ByteArray) (W : World) (hs : W.ShapedOpen Tryz.prog) (hl : laidMet Tryz.prog [("math/bits.deBruijn32tab", Rows.laid_math_bits_deBruijn32tab), ("math/bits.deBruijn64tab", Rows.laid_math_bits_deBruijn64tab), ("internal/strconv.uint64pow10", Rows.laid_internal_strconv_uint64pow10), ("unicode/utf8.acceptRanges", Rows.laid_unicode_utf8_acceptRanges), ("unicode/utf8.first", Rows.laid_unicode_utf8_first)] W) :
    Calls Tryz.prog 3 #[.string s] W fun e w' => e = .returned (.bool true) ∧ Below W.heap.size W w' := by
  refine @calls_trueT tbU _ tabOKU tabPair _ [.str s.data.toList] _ _ (tabW hs hl) ?_ _ (law_T s.data.toList (hpT P))
  exact VRs.cons (by simp only [VR]) VRs.nil
theorem lifted (os : Os) (started : os.Started) (H : Type) (enc : TypeId × Value → H) :
    ReturnsInHanded {} Tryz.checked os 3 .any (fun w args => (Rows.hostOpaqueSpec.pre enc Tryz.prog Tryz.f3 [] false w args ∧ laidMetH Tryz.prog Rows.hostOpaqueRow.laid w) ∧ sizedMet enc Tryz.prog Tryz.f3 (OpenSpec.ofChange Rows.hostOpaqueSpec) false w args)
      (Rows.hostOpaqueSpec.post enc Tryz.prog Tryz.f3 false true false false) := by
  refine returns_shaped (C := Tryz.checked) (X := fun w _ => laidMetH Tryz.prog Rows.hostOpaqueRow.laid w) (fun _ _ _ hh h => h.of_heap hh) own started (by kernel_rfl) Tryz.func3
    (ChangeSpec.witness_shaped (enc := enc) (C := Tryz.checked) (os := os) (X := fun w _ => laidMetH Tryz.prog Rows.hostOpaqueRow.laid w) false (World.laidAll Tryz.prog os Rows.hostOpaqueRow.laid) #[.string ⟨#[]⟩] 8 (World.laidAll_os _ _ _)
      (World.shaped_of_ZipB (by kernel_rfl) (by kernel_rfl)) (by kernel_rfl) (by kernel_rfl) (by kernel_rfl)
      (by rw [MakeChecks.laidMetH_plain _ _ _ (by kernel_rfl)]; exact laidMet_laidAll _ (by kernel_rfl) (by kernel_rfl))) ?_
  intro W base args ds gs before hsh hval0 hW _ _ hL _
  have hval : ∀ (j : Nat) t v, Tryz.f3.params[j]? = some t → args[j]? = some v → Value.okWide Tryz.prog W .any base t v := hval0
  have hL' : laidMet Tryz.prog [("math/bits.deBruijn32tab", Rows.laid_math_bits_deBruijn32tab), ("math/bits.deBruijn64tab", Rows.laid_math_bits_deBruijn64tab), ("internal/strconv.uint64pow10", Rows.laid_internal_strconv_uint64pow10), ("unicode/utf8.acceptRanges", Rows.laid_unicode_utf8_acceptRanges), ("unicode/utf8.first", Rows.laid_unicode_utf8_first)] W := by
    have := hL
    rw [MakeChecks.laidMetH_plain _ _ _ (by kernel_rfl)] at this
    exact this
  have hW' := hW
  obtain ⟨p, q, hA0, hV, rfl, hfz, hnd⟩ := hW
  have hA : DataW.TrodAll enc Tryz.prog W 0 (fun _ => true) true Tryz.f3.params.toList args.toList ds p := hA0
  rw [Tryz.params3] at hA hval
  obtain ⟨v0, d0, rfl, rfl, h0⟩ := trodAll_one hA
  obtain ⟨rfl, rfl⟩ := trodVars_none hV
  obtain ⟨s, rfl, rfl, rfl, ws⟩ := open_string Tryz.underlying9 (hval 0 9 v0 rfl rfl) h0
  clear hA0 hval0
  simp only [List.append_nil] at hW'
  refine (call3 s W hsh hL').mono fun e W' ⟨he, hw⟩ => ?_
  subst he
  exact ⟨_, rfl, post_below (pa := []) (pv := []) hW' (fun _ _ _ => trodAll_mk1 (shut_bool Tryz.underlying4 _)) (fun sp _ => trodAll_mk1 (shut_string Tryz.underlying9 ws)) (fun _ _ => rfl) rfl hw
    (ok_one (by kernel_rfl) rfl (okWide_bool_mk Tryz.underlying4 _))⟩
end Go.Proofs.YtbdpfpjpmilpbaaGreatDoor

namespace Go.Proofs.YtbdpfpjpmilpbaaGreatDoor
open Go Go.ChangeShapes Go.WideShapes Go.ChangeAt Go.RowKit Go.Rk Go.ChangeMaps
theorem and_tr {a b : Bool} (h : a = true) (k : b = true) : (a && b) = true := by rw [h, k]; rfl
set_option maxHeartbeats 0 in
theorem jf : joinedFacts Tryz.pinned.checked.prog 3 Tryz.f3 Rows.hostOpaqueSpec Rows.hostOpaqueRow = true := by
  unfold joinedFacts
  repeat' (with_reducible refine and_tr ?_ ?_)
  all_goals (as_aux_lemma => kernel_rfl)
set_option maxHeartbeats 0 in
theorem row_holds : Rows.HostOpaqueSaid :=
  OpenClaim.holds_of_wide 3 Tryz.f3 rfl rfl rfl rfl rfl rfl rfl ⟨rfl, rfl, rfl, rfl, rfl⟩ rfl rfl rfl rfl rfl (by as_aux_lemma => kernel_rfl) Tryz.func3 jf
    (of_decide_eq_true (by as_aux_lemma => kernel_rfl)) (by unfold Func.isWrapper; first | (rw [if_pos (by decide +kernel)]; kernel_rfl) | (rw [if_neg (by decide +kernel)]; exact ⟨rfl, rfl⟩))
    (fun os started H enc _ => lifted os started H enc)
end Go.Proofs.YtbdpfpjpmilpbaaGreatDoor
