/-
  A step of the proof of this seat's statement. No condition.
-/
import Derived.Test.YtcideebbbdjlgaaGreatDoorCards
import Derived.Test.YtcideebbbdjlgaaGreatDoorTie
import Derived.ProofKit
import Derived.LaidMore
import Derived.OpenShut
import Derived.SevenTiedAt
import Derived.Lay
import Derived.Stop.Joined
import Derived.Test.YtcideebbbdjlgaaGreatDoorD
import Derived.Test.YtcideebbbdjlgaaGreatDoorE1
namespace Go.Proofs.YtcideebbbdjlgaaGreatDoor
open Go Go.ChangeShapes Go.WideShapes Go.ChangeAt Go.RowKit Go.Rk Go.ChangeMaps
set_option maxRecDepth 100000
theorem own : ownKnob Tryz.prog.godebug = Option.none := by kernel_rfl
theorem flat25 : flatT Tryz.prog 8 25 = some [.i .i64, .i .u32, .i .i64, .s, .b, .i .u64, .i .u8, .i .i64, .i .i64] := by kernel_rfl
theorem struct25 : (match Tryz.prog.underlying 25 with | some (.struct _) => true | _ => false) = true := by kernel_rfl
theorem isStruct {P : Program} {t : Nat} (h : (match P.underlying t with | some (.struct _) => true | _ => false) = true) : ∃ fs, P.underlying t = some (.struct fs) := by
  split at h
  · rename_i fs hu; exact ⟨fs, hu⟩
  · cases h
theorem maxLenOf {W : World} (hs : W.ShapedOpen Tryz.prog) : ∃ M, W.heap[2]? = some (.cells #[.int .i64 M] 3 (0, 0)) :=
  intVar hs (by kernel_rfl) (by kernel_rfl) (by kernel_rfl) (by kernel_rfl) (by kernel_rfl)
theorem call3 (dd c k n tm a b : Int) (s r : ByteArray) (th : Bool) (w : World) (hs : w.ShapedOpen Tryz.prog) : Calls Tryz.prog 3 #[.agg #[.int .i64 dd, .int .u32 c, .int .i64 k, .string s, .bool th, .int .u64 n, .int .u8 tm, .int .i64 a, .int .i64 b], .string r] w fun e w' => e = .returned (.bool true) ∧ Below w.heap.size w w' := by
  obtain ⟨M, hM⟩ := maxLenOf hs
  refine @calls_true _ (tb M) _ (orc15 M) (tabOK M) ?_ _ _ _ _ _ ?_ ?_ (run M dd c k n tm a b s.data.toList r.data.toList th)
  · exact List.pairwise_singleton _ _
  · intro x hx
    have hx : x ∈ [(2, AObj.cells [.int .i64 M] 3 0 2 false)] := hx
    simp only [List.mem_cons, List.mem_nil_iff, or_false] at hx
    subst hx
    exact ⟨_, _, _, _, _, _, rfl, hM, .inl rfl, VRs.cons (by simp only [VR]) VRs.nil⟩
  · refine VRs.cons ?_ (VRs.cons (by simp only [VR]) VRs.nil)
    simp only [VR]
    refine ⟨_, rfl, ?_⟩
    repeat' (first | exact VRs.nil | refine VRs.cons ?_ ?_)
    all_goals simp only [VR]
theorem lifted (os : Os) (started : os.Started) (H : Type) (enc : TypeId × Value → H) :
    ReturnsInHanded {} Tryz.checked os 3 .any (fun w args => (Rows.proxyNoneSpec.pre enc Tryz.prog Tryz.f3 [] false w args ∧ laidMetH Tryz.prog Rows.proxyNoneRow.laid w) ∧ sizedMet enc Tryz.prog Tryz.f3 (OpenSpec.ofChange Rows.proxyNoneSpec) false w args)
      (Rows.proxyNoneSpec.post enc Tryz.prog Tryz.f3 false true false false) := by
  refine returns_shaped (C := Tryz.checked) (X := fun w _ => laidMetH Tryz.prog Rows.proxyNoneRow.laid w) (fun _ _ _ hh h => h.of_heap hh) own started (by kernel_rfl) Tryz.func3
    (ChangeSpec.witness_shaped (enc := enc) (C := Tryz.checked) (os := os) (X := fun w _ => laidMetH Tryz.prog Rows.proxyNoneRow.laid w) false (World.laidAll Tryz.prog os Rows.proxyNoneRow.laid) #[.agg #[.int .i64 0, .int .u32 0, .int .i64 0, .string ⟨#[]⟩, .bool false, .int .u64 0, .int .u8 0, .int .i64 0, .int .i64 0], .string ⟨#[]⟩] 8 (World.laidAll_os _ _ _)
      (World.shaped_of_ZipB (by kernel_rfl) (by kernel_rfl)) (by kernel_rfl) (by kernel_rfl) (by kernel_rfl)
      (by rw [MakeChecks.laidMetH_plain _ _ _ (by kernel_rfl)]; exact laidMet_laidAll _ (by kernel_rfl) (by kernel_rfl))) ?_
  intro W base args ds gs before hsh hval0 hW _ _ hL _
  have hval : ∀ (j : Nat) t v, Tryz.f3.params[j]? = some t → args[j]? = some v → Value.okWide Tryz.prog W .any base t v := hval0
  have hW' := hW
  obtain ⟨p, q, hA0, hV, rfl, hfz, hnd⟩ := hW
  have hA : DataW.TrodAll enc Tryz.prog W 0 (fun _ => true) true Tryz.f3.params.toList args.toList ds p := hA0
  rw [Tryz.params3] at hA hval
  obtain ⟨v0, v1, d0, d1, p0, p1, rfl, rfl, rfl, h0, h1⟩ := trodAll_two hA
  obtain ⟨rfl, rfl⟩ := trodVars_none hV
  obtain ⟨rfl, hlf, hsame⟩ := open_flat flat25 h0
  obtain ⟨fs, hfs⟩ := isStruct (P := Tryz.prog) (t := 25) struct25
  obtain ⟨cs, rfl, hsz⟩ := okWide_struct hfs (hval 0 25 v0 rfl rfl)
  obtain ⟨l⟩ := cs
  have hlf : LeafsOK [.i .i64, .i .u32, .i .i64, .s, .b, .i .u64, .i .u8, .i .i64, .i .i64] l := hlf
  obtain ⟨_, l0, rfl, ⟨dd, rfl, _⟩, _, l1, rfl, ⟨c, rfl, _⟩, _, l2, rfl, ⟨k, rfl, _⟩, _, l3, rfl, ⟨s, rfl, _⟩, _, l4, rfl, ⟨th, rfl⟩, _, l5, rfl, ⟨n, rfl, _⟩, _, l6, rfl, ⟨tm, rfl, _⟩, _, l7, rfl, ⟨a, rfl, _⟩, _, l8, rfl, ⟨b, rfl, _⟩, rfl⟩ := hlf
  obtain ⟨r, rfl, rfl, rfl, wr⟩ := open_string Tryz.underlying9 (hval 1 9 v1 rfl rfl) h1
  clear hA0 hval0
  simp only [List.append_nil] at hW'
  refine (call3 dd c k n tm a b s r th W hsh).mono fun e W' ⟨he, hw⟩ => ?_
  subst he
  exact ⟨_, rfl, post_below (pa := []) (pv := []) hW' (fun _ _ _ => trodAll_mk1 (shut_bool Tryz.underlying4 _)) (fun sp _ => trodAll_mk2 (hsame _ _ _ _) (shut_string Tryz.underlying9 wr)) (fun _ _ => rfl) rfl hw
    (ok_one (by kernel_rfl) rfl (okWide_bool_mk Tryz.underlying4 _))⟩
end Go.Proofs.YtcideebbbdjlgaaGreatDoor
