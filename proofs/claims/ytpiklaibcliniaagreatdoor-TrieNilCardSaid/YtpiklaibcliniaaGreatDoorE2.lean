/-
  A step of the proof of this seat's statement. No condition.
-/
import Derived.Test.YtpiklaibcliniaaGreatDoorCards
import Derived.Test.YtpiklaibcliniaaGreatDoorTie
import Derived.ProofKit
import Derived.LaidMore
import Derived.OpenShut
import Derived.SevenTiedAt
import Derived.Lay
import Derived.Stop.Joined
import Derived.Test.YtpiklaibcliniaaGreatDoorD
import Derived.Test.YtpiklaibcliniaaGreatDoorE1
namespace Go.Proofs.YtpiklaibcliniaaGreatDoor
open Go Go.ChangeShapes Go.WideShapes Go.ChangeAt Go.RowKit Go.Rk Go.ChangeMaps
set_option maxRecDepth 100000
theorem own : ownKnob Tryz.prog.godebug = Option.none := by kernel_rfl
theorem flat28 : flatT Tryz.prog 8 28 = some [.i .u8, .s, .i .u32, .i .u16, .i .u16, .i .u16, .i .u16, .i .u16, .i .u16, .i .u16, .i .u16, .i .u16] := by kernel_rfl
theorem struct28 : (match Tryz.prog.underlying 28 with | some (.struct _) => true | _ => false) = true := by kernel_rfl
theorem isStruct {P : Program} {t : Nat} (h : (match P.underlying t with | some (.struct _) => true | _ => false) = true) : ∃ fs, P.underlying t = some (.struct fs) := by
  split at h
  · rename_i fs hu; exact ⟨fs, hu⟩
  · cases h
theorem call3 (s : ByteArray) (k f a0 a1 a2 a3 a4 a5 a6 a7 p : Int) (w : World) : Calls Tryz.prog 3 #[.agg #[.int .u8 k, .string s, .int .u32 f, .int .u16 a0, .int .u16 a1, .int .u16 a2, .int .u16 a3, .int .u16 a4, .int .u16 a5, .int .u16 a6, .int .u16 a7, .int .u16 p]] w fun e w' => e = .returned (.bool true) ∧ Below w.heap.size w w' := by
  refine @calls_true _ (tb 0) _ (orcLAST 0) (tabOK 0) ?_ _ _ _ _ _ ?_ ?_ (run s.data.toList k f a0 a1 a2 a3 a4 a5 a6 a7 p)
  · exact List.Pairwise.nil
  · intro x hx
    have hx : x ∈ ([] : List (Nat × AObj)) := hx
    cases hx
  · refine VRs.cons ?_ VRs.nil
    simp only [VR]
    refine ⟨_, rfl, ?_⟩
    repeat' (first | exact VRs.nil | refine VRs.cons ?_ ?_)
    all_goals simp only [VR]
theorem lifted (os : Os) (started : os.Started) (H : Type) (enc : TypeId × Value → H) :
    ReturnsInHanded {} Tryz.checked os 3 .any (fun w args => (Rows.trieNilSpec.pre enc Tryz.prog Tryz.f3 [] false w args ∧ laidMetH Tryz.prog Rows.trieNilRow.laid w) ∧ sizedMet enc Tryz.prog Tryz.f3 (OpenSpec.ofChange Rows.trieNilSpec) false w args)
      (Rows.trieNilSpec.post enc Tryz.prog Tryz.f3 false true false false) := by
  refine returns_shaped (C := Tryz.checked) (X := fun w _ => laidMetH Tryz.prog Rows.trieNilRow.laid w) (fun _ _ _ hh h => h.of_heap hh) own started (by kernel_rfl) Tryz.func3
    (ChangeSpec.witness_shaped (enc := enc) (C := Tryz.checked) (os := os) (X := fun w _ => laidMetH Tryz.prog Rows.trieNilRow.laid w) false (World.laidAll Tryz.prog os Rows.trieNilRow.laid) #[.agg #[.int .u8 0, .string ⟨#[]⟩, .int .u32 0, .int .u16 0, .int .u16 0, .int .u16 0, .int .u16 0, .int .u16 0, .int .u16 0, .int .u16 0, .int .u16 0, .int .u16 0]] 8 (World.laidAll_os _ _ _)
      (World.shaped_of_ZipB (by kernel_rfl) (by kernel_rfl)) (by kernel_rfl) (by kernel_rfl) (by kernel_rfl)
      (by rw [MakeChecks.laidMetH_plain _ _ _ (by kernel_rfl)]; exact laidMet_laidAll _ (by kernel_rfl) (by kernel_rfl))) ?_
  intro W base args ds gs before hsh hval0 hW _ _ hL _
  have hval : ∀ (j : Nat) t v, Tryz.f3.params[j]? = some t → args[j]? = some v → Value.okWide Tryz.prog W .any base t v := hval0
  have hW' := hW
  obtain ⟨p, q, hA0, hV, rfl, hfz, hnd⟩ := hW
  have hA : DataW.TrodAll enc Tryz.prog W 0 (fun _ => true) true Tryz.f3.params.toList args.toList ds p := hA0
  rw [Tryz.params3] at hA hval
  obtain ⟨v0, d0, rfl, rfl, h0⟩ := trodAll_one hA
  obtain ⟨rfl, rfl⟩ := trodVars_none hV
  obtain ⟨rfl, hlf, hsame⟩ := open_flat flat28 h0
  obtain ⟨fs, hfs⟩ := isStruct (P := Tryz.prog) (t := 28) struct28
  obtain ⟨cs, rfl, hsz⟩ := okWide_struct hfs (hval 0 28 v0 rfl rfl)
  obtain ⟨l⟩ := cs
  have hlf : LeafsOK [.i .u8, .s, .i .u32, .i .u16, .i .u16, .i .u16, .i .u16, .i .u16, .i .u16, .i .u16, .i .u16, .i .u16] l := hlf
  obtain ⟨_, l0, rfl, ⟨k, rfl, _⟩, _, l1, rfl, ⟨s, rfl, _⟩, _, l2, rfl, ⟨f, rfl, _⟩, _, l3, rfl, ⟨a0, rfl, _⟩, _, l4, rfl, ⟨a1, rfl, _⟩, _, l5, rfl, ⟨a2, rfl, _⟩, _, l6, rfl, ⟨a3, rfl, _⟩, _, l7, rfl, ⟨a4, rfl, _⟩, _, l8, rfl, ⟨a5, rfl, _⟩, _, l9, rfl, ⟨a6, rfl, _⟩, _, l10, rfl, ⟨a7, rfl, _⟩, _, l11, rfl, ⟨p', rfl, _⟩, rfl⟩ := hlf
  clear hA0 hval0
  simp only [List.append_nil] at hW'
  refine (call3 s k f a0 a1 a2 a3 a4 a5 a6 a7 p' W).mono fun e W' ⟨he, hw⟩ => ?_
  subst he
  exact ⟨_, rfl, post_below (pa := []) (pv := []) hW' (fun _ _ _ => trodAll_mk1 (shut_bool Tryz.underlying4 _)) (fun sp _ => trodAll_mk1 (hsame _ _ _ _)) (fun _ _ => rfl) rfl hw
    (ok_one (by kernel_rfl) rfl (okWide_bool_mk Tryz.underlying4 _))⟩
end Go.Proofs.YtpiklaibcliniaaGreatDoor
