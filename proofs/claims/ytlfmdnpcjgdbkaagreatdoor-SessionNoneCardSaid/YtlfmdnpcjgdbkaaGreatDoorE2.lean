/-
  A step of the proof of this seat's statement. No condition.
-/
import Derived.Test.YtlfmdnpcjgdbkaaGreatDoorCards
import Derived.Test.YtlfmdnpcjgdbkaaGreatDoorTie
import Derived.ProofKit
import Derived.LaidMore
import Derived.OpenShut
import Derived.SevenTiedAt
import Derived.Lay
import Derived.Stop.Joined
import Derived.Test.YtlfmdnpcjgdbkaaGreatDoorD
import Derived.Test.YtlfmdnpcjgdbkaaGreatDoorE1
namespace Go.Proofs.YtlfmdnpcjgdbkaaGreatDoor
open Go Go.ChangeShapes Go.WideShapes Go.ChangeAt Go.RowKit Go.Rk Go.ChangeMaps
set_option maxRecDepth 100000
theorem own : ownKnob Tryz.prog.godebug = Option.none := by kernel_rfl
theorem flat24 : flatT Tryz.prog 8 24 = some [.i .i64, .s, .i .u16, .b] := by kernel_rfl
theorem struct24 : (match Tryz.prog.underlying 24 with | some (.struct _) => true | _ => false) = true := by kernel_rfl
theorem isStruct {P : Program} {t : Nat} (h : (match P.underlying t with | some (.struct _) => true | _ => false) = true) : ∃ fs, P.underlying t = some (.struct fs) := by
  split at h
  · rename_i fs hu; exact ⟨fs, hu⟩
  · cases h
theorem maxLenOf {W : World} (hs : W.ShapedOpen Tryz.prog) : ∃ M, W.heap[0]? = some (.cells #[.int .i64 M] 3 (0, 0)) :=
  intVar hs (by kernel_rfl) (by kernel_rfl) (by kernel_rfl) (by kernel_rfl) (by kernel_rfl)
theorem call3 (n st : Int) (s : ByteArray) (th : Bool) (w : World) (hs : w.ShapedOpen Tryz.prog) : Calls Tryz.prog 3 #[.agg #[.int .i64 n, .string s, .int .u16 st, .bool th]] w fun e w' => e = .returned (.bool true) ∧ Below w.heap.size w w' := by
  obtain ⟨M, hM⟩ := maxLenOf hs
  refine @calls_true _ (tb M) _ (orc10 M) (tabOK M) ?_ _ _ _ _ _ ?_ ?_ (run M n s.data.toList st th)
  · exact List.pairwise_singleton _ _
  · intro x hx
    have hx : x ∈ [(0, AObj.cells [.int .i64 M] 3 0 2 false)] := hx
    simp only [List.mem_cons, List.mem_nil_iff, or_false] at hx
    subst hx
    exact ⟨_, _, _, _, _, _, rfl, hM, .inl rfl, VRs.cons (by simp only [VR]) VRs.nil⟩
  · refine VRs.cons ?_ VRs.nil
    simp only [VR]
    exact ⟨_, rfl, VRs.cons (by simp only [VR]) (VRs.cons (by simp only [VR]) (VRs.cons (by simp only [VR]) (VRs.cons (by simp only [VR]) VRs.nil)))⟩
theorem lifted (os : Os) (started : os.Started) (H : Type) (enc : TypeId × Value → H) :
    ReturnsInHanded {} Tryz.checked os 3 .any (fun w args => (Rows.sessionNoneSpec.pre enc Tryz.prog Tryz.f3 [] false w args ∧ laidMetH Tryz.prog Rows.sessionNoneRow.laid w) ∧ sizedMet enc Tryz.prog Tryz.f3 (OpenSpec.ofChange Rows.sessionNoneSpec) false w args)
      (Rows.sessionNoneSpec.post enc Tryz.prog Tryz.f3 false true false false) := by
  refine returns_shaped (C := Tryz.checked) (X := fun w _ => laidMetH Tryz.prog Rows.sessionNoneRow.laid w) (fun _ _ _ hh h => h.of_heap hh) own started (by kernel_rfl) Tryz.func3
    (ChangeSpec.witness_shaped (enc := enc) (C := Tryz.checked) (os := os) (X := fun w _ => laidMetH Tryz.prog Rows.sessionNoneRow.laid w) false (World.laidAll Tryz.prog os Rows.sessionNoneRow.laid) #[.agg #[.int .i64 0, .string ⟨#[]⟩, .int .u16 0, .bool false]] 8 (World.laidAll_os _ _ _)
      (World.shaped_of_ZipB (by kernel_rfl) (by kernel_rfl)) (by kernel_rfl) (by kernel_rfl) (by kernel_rfl)
      (by rw [MakeChecks.laidMetH_plain _ _ _ (by kernel_rfl)]; exact laidMet_laidAll _ (by kernel_rfl) (by kernel_rfl))) ?_
  intro W base args ds gs before hsh hval0 hW _ _ hL _
  have hval : ∀ (j : Nat) t v, Tryz.f3.params[j]? = some t → args[j]? = some v → Value.okWide Tryz.prog W .any base t v := hval0
  have hW' := hW
  obtain ⟨p, q, hA0, hV, rfl, hfz, hnd⟩ := hW
  have hA : DataW.TrodAll enc Tryz.prog W 0 (fun _ => true) true Tryz.f3.params.toList args.toList ds p := hA0
  rw [Tryz.params3] at hA hval
  obtain ⟨v0, d0, rfl, rfl, h0⟩ := trodAll_one hA
  obtain ⟨rfl, rfl⟩ := trodVars_none hV
  obtain ⟨rfl, hlf, hsame⟩ := open_flat flat24 h0
  obtain ⟨fs, hfs⟩ := isStruct (P := Tryz.prog) (t := 24) struct24
  obtain ⟨cs, rfl, hsz⟩ := okWide_struct hfs (hval 0 24 v0 rfl rfl)
  obtain ⟨l⟩ := cs
  have hlf : LeafsOK [.i .i64, .s, .i .u16, .b] l := hlf
  obtain ⟨c0, l0, rfl, ⟨n, rfl, _⟩, c1, l1, rfl, ⟨s, rfl, _⟩, c2, l2, rfl, ⟨st, rfl, _⟩, c3, l3, rfl, ⟨th, rfl⟩, rfl⟩ := hlf
  clear hA0 hval0
  simp only [List.append_nil] at hW'
  refine (call3 n st s th W hsh).mono fun e W' ⟨he, hw⟩ => ?_
  subst he
  exact ⟨_, rfl, post_below (pa := []) (pv := []) hW' (fun _ _ _ => trodAll_mk1 (shut_bool Tryz.underlying4 _)) (fun sp _ => trodAll_mk1 (hsame _ _ _ _)) (fun _ _ => rfl) rfl hw
    (ok_one (by kernel_rfl) rfl (okWide_bool_mk Tryz.underlying4 _))⟩
end Go.Proofs.YtlfmdnpcjgdbkaaGreatDoor
