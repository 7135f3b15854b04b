/-
  A step of the proof of this seat's statement. No condition.
-/
import Derived.Test.YtbdpfpjpmilpbaaGreatDoorPB
namespace Go.Proofs.YtbdpfpjpmilpbaaGreatDoor
open Go Go.Rk
set_option maxRecDepth 1000000
set_option linter.unusedVariables false
set_option linter.unusedSimpArgs false
set_option linter.constructorNameAsVariable false
set_option linter.unusedSectionVars false
theorem map1 (out : List UInt8) (b : UInt8) : (out ++ [b]).map u8 = out.map u8 ++ [u8 b] := by simp
theorem len1 (out : List UInt8) (b : UInt8) : (out ++ [b]).length = out.length + 1 := by simp
theorem mapA (out s : List UInt8) : (out ++ s).map u8 = out.map u8 ++ s.map u8 := by simp
theorem lenA (out s : List UInt8) : (out ++ s).length = out.length + s.length := by simp
theorem flat8 : ∀ {s : List UInt8}, flat (s.map u8) = true
  | [] => rfl
  | a :: l => flat8 (s := l)
theorem below8 {n : Nat} : ∀ {l : List UInt8}, belowVs n (l.map u8) = true
  | [] => rfl
  | a :: l => by simpa [belowVs, belowV, u8] using below8 (n := n) (l := l)
/-- memory: the builder, the runes, what was written, and more -/
def HWS (S n : Nat) (rs cs : List AV) (m g : Nat) (ex : List (Nat × AObj)) : Heap := heapOf n ((oB2, .cells [.ptr oB2 0 0, .slice S g 0 m m 1 false] tY40 0 0 false) :: (oB3, .cells rs tY21 0 0 false) :: (S, .cells cs tY5 g 0 false) :: (ex ++ tabs))
abbrev HO (S n : Nat) (rs : List AV) (out : List UInt8) (g : Nat) (ex : List (Nat × AObj)) : Heap := HWS S n rs (out.map u8) out.length g ex
def HN (n : Nat) (rs : List AV) (ex : List (Nat × AObj)) : Heap := heapOf n ((oB2, .cells [.nilp, .slice0] tY40 0 0 false) :: (oB3, .cells rs tY21 0 0 false) :: (ex ++ tabs))
abbrev sn (out : List UInt8) (b : UInt8) : List UInt8 := out ++ [b]
section
variable (rs : List AV)

theorem wb_7_8_4_5_6 (out : List UInt8) (g : Nat) (b : UInt8) (o4 o5 o6 : AObj) (hl : out.length ≤ 100000000) : CallT P kF19 [.ptr oB2 0 0, u8 b] (HO oB7 oB8 rs out g [(oB4, o4), (oB5, o5), (oB6, o6)]) (.ret .nilIface (HO oB7 oB9 rs (sn out b) (g + 1) [(oB4, o4), (oB5, o5), (oB6, o6), (oB8, .cells [u8 b] tY5 0 0 false)]) none) := by
  unfold HO sn
  rw [map1, len1]
  exact callT_hC hF [(14, .u .undef)] dF19 (c := bodyOf cF19) (by kernel_rfl) (by kernel_rfl) (by kernel_rfl) (by kernel_rfl)
    (ofK (b := ((0 = 0 ∧ 1 ≤ 1) ∧ out.length < out.length + 1 ∧ (out.length + 1) * 2 ≤ 274877906944 ∧ 1 = 1 ∧ g = g ∧ 0 + out.length * 1 = (out.map u8).length ∧ tY5 = tY5 ∧ 0 ≤ (out.map u8).length ∧ true = true) ∧ CR.ret .nilIface (HWS oB7 oB9 rs (out.map u8 ++ [u8 b]) (out.length + 1) (g + 1) [(oB4, o4), (oB5, o5), (oB6, o6), (oB8, .cells [u8 b] tY5 0 0 false)]) none = .ret .nilIface (HWS oB7 oB9 rs (out.map u8 ++ [u8 b]) (out.length + 1) (g + 1) [(oB4, o4), (oB5, o5), (oB6, o6), (oB8, .cells [u8 b] tY5 0 0 false)]) none) (by kernel_rfl)
      ⟨⟨⟨rfl, Nat.le_refl _⟩, by omega, by omega, rfl, rfl, by simp, rfl, Nat.zero_le _, rfl⟩, rfl⟩)

theorem wb_7_9_4_5_6_8 (out : List UInt8) (g : Nat) (b : UInt8) (o4 o5 o6 o8 : AObj) (hl : out.length ≤ 100000000) : CallT P kF19 [.ptr oB2 0 0, u8 b] (HO oB7 oB9 rs out g [(oB4, o4), (oB5, o5), (oB6, o6), (oB8, o8)]) (.ret .nilIface (HO oB7 oB10 rs (sn out b) (g + 1) [(oB4, o4), (oB5, o5), (oB6, o6), (oB8, o8), (oB9, .cells [u8 b] tY5 0 0 false)]) none) := by
  unfold HO sn
  rw [map1, len1]
  exact callT_hC hF [(14, .u .undef)] dF19 (c := bodyOf cF19) (by kernel_rfl) (by kernel_rfl) (by kernel_rfl) (by kernel_rfl)
    (ofK (b := ((0 = 0 ∧ 1 ≤ 1) ∧ out.length < out.length + 1 ∧ (out.length + 1) * 2 ≤ 274877906944 ∧ 1 = 1 ∧ g = g ∧ 0 + out.length * 1 = (out.map u8).length ∧ tY5 = tY5 ∧ 0 ≤ (out.map u8).length ∧ true = true) ∧ CR.ret .nilIface (HWS oB7 oB10 rs (out.map u8 ++ [u8 b]) (out.length + 1) (g + 1) [(oB4, o4), (oB5, o5), (oB6, o6), (oB8, o8), (oB9, .cells [u8 b] tY5 0 0 false)]) none = .ret .nilIface (HWS oB7 oB10 rs (out.map u8 ++ [u8 b]) (out.length + 1) (g + 1) [(oB4, o4), (oB5, o5), (oB6, o6), (oB8, o8), (oB9, .cells [u8 b] tY5 0 0 false)]) none) (by kernel_rfl)
      ⟨⟨⟨rfl, Nat.le_refl _⟩, by omega, by omega, rfl, rfl, by simp, rfl, Nat.zero_le _, rfl⟩, rfl⟩)

theorem wb_7_8_4_5 (out : List UInt8) (g : Nat) (b : UInt8) (o4 o5 : AObj) (hl : out.length ≤ 100000000) : CallT P kF19 [.ptr oB2 0 0, u8 b] (HO oB7 oB8 rs out g [(oB4, o4), (oB5, o5)]) (.ret .nilIface (HO oB7 oB9 rs (sn out b) (g + 1) [(oB4, o4), (oB5, o5), (oB8, .cells [u8 b] tY5 0 0 false)]) none) := by
  unfold HO sn
  rw [map1, len1]
  exact callT_hC hF [(14, .u .undef)] dF19 (c := bodyOf cF19) (by kernel_rfl) (by kernel_rfl) (by kernel_rfl) (by kernel_rfl)
    (ofK (b := ((0 = 0 ∧ 1 ≤ 1) ∧ out.length < out.length + 1 ∧ (out.length + 1) * 2 ≤ 274877906944 ∧ 1 = 1 ∧ g = g ∧ 0 + out.length * 1 = (out.map u8).length ∧ tY5 = tY5 ∧ 0 ≤ (out.map u8).length ∧ true = true) ∧ CR.ret .nilIface (HWS oB7 oB9 rs (out.map u8 ++ [u8 b]) (out.length + 1) (g + 1) [(oB4, o4), (oB5, o5), (oB8, .cells [u8 b] tY5 0 0 false)]) none = .ret .nilIface (HWS oB7 oB9 rs (out.map u8 ++ [u8 b]) (out.length + 1) (g + 1) [(oB4, o4), (oB5, o5), (oB8, .cells [u8 b] tY5 0 0 false)]) none) (by kernel_rfl)
      ⟨⟨⟨rfl, Nat.le_refl _⟩, by omega, by omega, rfl, rfl, by simp, rfl, Nat.zero_le _, rfl⟩, rfl⟩)

theorem wb_7_9_4_5_8 (out : List UInt8) (g : Nat) (b : UInt8) (o4 o5 o8 : AObj) (hl : out.length ≤ 100000000) : CallT P kF19 [.ptr oB2 0 0, u8 b] (HO oB7 oB9 rs out g [(oB4, o4), (oB5, o5), (oB8, o8)]) (.ret .nilIface (HO oB7 oB10 rs (sn out b) (g + 1) [(oB4, o4), (oB5, o5), (oB8, o8), (oB9, .cells [u8 b] tY5 0 0 false)]) none) := by
  unfold HO sn
  rw [map1, len1]
  exact callT_hC hF [(14, .u .undef)] dF19 (c := bodyOf cF19) (by kernel_rfl) (by kernel_rfl) (by kernel_rfl) (by kernel_rfl)
    (ofK (b := ((0 = 0 ∧ 1 ≤ 1) ∧ out.length < out.length + 1 ∧ (out.length + 1) * 2 ≤ 274877906944 ∧ 1 = 1 ∧ g = g ∧ 0 + out.length * 1 = (out.map u8).length ∧ tY5 = tY5 ∧ 0 ≤ (out.map u8).length ∧ true = true) ∧ CR.ret .nilIface (HWS oB7 oB10 rs (out.map u8 ++ [u8 b]) (out.length + 1) (g + 1) [(oB4, o4), (oB5, o5), (oB8, o8), (oB9, .cells [u8 b] tY5 0 0 false)]) none = .ret .nilIface (HWS oB7 oB10 rs (out.map u8 ++ [u8 b]) (out.length + 1) (g + 1) [(oB4, o4), (oB5, o5), (oB8, o8), (oB9, .cells [u8 b] tY5 0 0 false)]) none) (by kernel_rfl)
      ⟨⟨⟨rfl, Nat.le_refl _⟩, by omega, by omega, rfl, rfl, by simp, rfl, Nat.zero_le _, rfl⟩, rfl⟩)

theorem wb_7_10_4_5_8_9 (out : List UInt8) (g : Nat) (b : UInt8) (o4 o5 o8 o9 : AObj) (hl : out.length ≤ 100000000) : CallT P kF19 [.ptr oB2 0 0, u8 b] (HO oB7 oB10 rs out g [(oB4, o4), (oB5, o5), (oB8, o8), (oB9, o9)]) (.ret .nilIface (HO oB7 oB11 rs (sn out b) (g + 1) [(oB4, o4), (oB5, o5), (oB8, o8), (oB9, o9), (oB10, .cells [u8 b] tY5 0 0 false)]) none) := by
  unfold HO sn
  rw [map1, len1]
  exact callT_hC hF [(14, .u .undef)] dF19 (c := bodyOf cF19) (by kernel_rfl) (by kernel_rfl) (by kernel_rfl) (by kernel_rfl)
    (ofK (b := ((0 = 0 ∧ 1 ≤ 1) ∧ out.length < out.length + 1 ∧ (out.length + 1) * 2 ≤ 274877906944 ∧ 1 = 1 ∧ g = g ∧ 0 + out.length * 1 = (out.map u8).length ∧ tY5 = tY5 ∧ 0 ≤ (out.map u8).length ∧ true = true) ∧ CR.ret .nilIface (HWS oB7 oB11 rs (out.map u8 ++ [u8 b]) (out.length + 1) (g + 1) [(oB4, o4), (oB5, o5), (oB8, o8), (oB9, o9), (oB10, .cells [u8 b] tY5 0 0 false)]) none = .ret .nilIface (HWS oB7 oB11 rs (out.map u8 ++ [u8 b]) (out.length + 1) (g + 1) [(oB4, o4), (oB5, o5), (oB8, o8), (oB9, o9), (oB10, .cells [u8 b] tY5 0 0 false)]) none) (by kernel_rfl)
      ⟨⟨⟨rfl, Nat.le_refl _⟩, by omega, by omega, rfl, rfl, by simp, rfl, Nat.zero_le _, rfl⟩, rfl⟩)

theorem wb_7_10_8_9 (out : List UInt8) (g : Nat) (b : UInt8) (o8 o9 : AObj) (hl : out.length ≤ 100000000) : CallT P kF19 [.ptr oB2 0 0, u8 b] (HO oB7 oB10 rs out g [(oB8, o8), (oB9, o9)]) (.ret .nilIface (HO oB7 oB11 rs (sn out b) (g + 1) [(oB8, o8), (oB9, o9), (oB10, .cells [u8 b] tY5 0 0 false)]) none) := by
  unfold HO sn
  rw [map1, len1]
  exact callT_hC hF [(14, .u .undef)] dF19 (c := bodyOf cF19) (by kernel_rfl) (by kernel_rfl) (by kernel_rfl) (by kernel_rfl)
    (ofK (b := ((0 = 0 ∧ 1 ≤ 1) ∧ out.length < out.length + 1 ∧ (out.length + 1) * 2 ≤ 274877906944 ∧ 1 = 1 ∧ g = g ∧ 0 + out.length * 1 = (out.map u8).length ∧ tY5 = tY5 ∧ 0 ≤ (out.map u8).length ∧ true = true) ∧ CR.ret .nilIface (HWS oB7 oB11 rs (out.map u8 ++ [u8 b]) (out.length + 1) (g + 1) [(oB8, o8), (oB9, o9), (oB10, .cells [u8 b] tY5 0 0 false)]) none = .ret .nilIface (HWS oB7 oB11 rs (out.map u8 ++ [u8 b]) (out.length + 1) (g + 1) [(oB8, o8), (oB9, o9), (oB10, .cells [u8 b] tY5 0 0 false)]) none) (by kernel_rfl)
      ⟨⟨⟨rfl, Nat.le_refl _⟩, by omega, by omega, rfl, rfl, by simp, rfl, Nat.zero_le _, rfl⟩, rfl⟩)

theorem wb_7_11_8_9_10 (out : List UInt8) (g : Nat) (b : UInt8) (o8 o9 o10 : AObj) (hl : out.length ≤ 100000000) : CallT P kF19 [.ptr oB2 0 0, u8 b] (HO oB7 oB11 rs out g [(oB8, o8), (oB9, o9), (oB10, o10)]) (.ret .nilIface (HO oB7 oB12 rs (sn out b) (g + 1) [(oB8, o8), (oB9, o9), (oB10, o10), (oB11, .cells [u8 b] tY5 0 0 false)]) none) := by
  unfold HO sn
  rw [map1, len1]
  exact callT_hC hF [(14, .u .undef)] dF19 (c := bodyOf cF19) (by kernel_rfl) (by kernel_rfl) (by kernel_rfl) (by kernel_rfl)
    (ofK (b := ((0 = 0 ∧ 1 ≤ 1) ∧ out.length < out.length + 1 ∧ (out.length + 1) * 2 ≤ 274877906944 ∧ 1 = 1 ∧ g = g ∧ 0 + out.length * 1 = (out.map u8).length ∧ tY5 = tY5 ∧ 0 ≤ (out.map u8).length ∧ true = true) ∧ CR.ret .nilIface (HWS oB7 oB12 rs (out.map u8 ++ [u8 b]) (out.length + 1) (g + 1) [(oB8, o8), (oB9, o9), (oB10, o10), (oB11, .cells [u8 b] tY5 0 0 false)]) none = .ret .nilIface (HWS oB7 oB12 rs (out.map u8 ++ [u8 b]) (out.length + 1) (g + 1) [(oB8, o8), (oB9, o9), (oB10, o10), (oB11, .cells [u8 b] tY5 0 0 false)]) none) (by kernel_rfl)
      ⟨⟨⟨rfl, Nat.le_refl _⟩, by omega, by omega, rfl, rfl, by simp, rfl, Nat.zero_le _, rfl⟩, rfl⟩)

theorem wb_7_12_8_9_10_11 (out : List UInt8) (g : Nat) (b : UInt8) (o8 o9 o10 o11 : AObj) (hl : out.length ≤ 100000000) : CallT P kF19 [.ptr oB2 0 0, u8 b] (HO oB7 oB12 rs out g [(oB8, o8), (oB9, o9), (oB10, o10), (oB11, o11)]) (.ret .nilIface (HO oB7 oB13 rs (sn out b) (g + 1) [(oB8, o8), (oB9, o9), (oB10, o10), (oB11, o11), (oB12, .cells [u8 b] tY5 0 0 false)]) none) := by
  unfold HO sn
  rw [map1, len1]
  exact callT_hC hF [(14, .u .undef)] dF19 (c := bodyOf cF19) (by kernel_rfl) (by kernel_rfl) (by kernel_rfl) (by kernel_rfl)
    (ofK (b := ((0 = 0 ∧ 1 ≤ 1) ∧ out.length < out.length + 1 ∧ (out.length + 1) * 2 ≤ 274877906944 ∧ 1 = 1 ∧ g = g ∧ 0 + out.length * 1 = (out.map u8).length ∧ tY5 = tY5 ∧ 0 ≤ (out.map u8).length ∧ true = true) ∧ CR.ret .nilIface (HWS oB7 oB13 rs (out.map u8 ++ [u8 b]) (out.length + 1) (g + 1) [(oB8, o8), (oB9, o9), (oB10, o10), (oB11, o11), (oB12, .cells [u8 b] tY5 0 0 false)]) none = .ret .nilIface (HWS oB7 oB13 rs (out.map u8 ++ [u8 b]) (out.length + 1) (g + 1) [(oB8, o8), (oB9, o9), (oB10, o10), (oB11, o11), (oB12, .cells [u8 b] tY5 0 0 false)]) none) (by kernel_rfl)
      ⟨⟨⟨rfl, Nat.le_refl _⟩, by omega, by omega, rfl, rfl, by simp, rfl, Nat.zero_le _, rfl⟩, rfl⟩)

theorem wb_5_8_6_7 (out : List UInt8) (g : Nat) (b : UInt8) (o6 o7 : AObj) (hl : out.length ≤ 100000000) : CallT P kF19 [.ptr oB2 0 0, u8 b] (HO oB5 oB8 rs out g [(oB6, o6), (oB7, o7)]) (.ret .nilIface (HO oB5 oB9 rs (sn out b) (g + 1) [(oB6, o6), (oB7, o7), (oB8, .cells [u8 b] tY5 0 0 false)]) none) := by
  unfold HO sn
  rw [map1, len1]
  exact callT_hC hF [(14, .u .undef)] dF19 (c := bodyOf cF19) (by kernel_rfl) (by kernel_rfl) (by kernel_rfl) (by kernel_rfl)
    (ofK (b := ((0 = 0 ∧ 1 ≤ 1) ∧ out.length < out.length + 1 ∧ (out.length + 1) * 2 ≤ 274877906944 ∧ 1 = 1 ∧ g = g ∧ 0 + out.length * 1 = (out.map u8).length ∧ tY5 = tY5 ∧ 0 ≤ (out.map u8).length ∧ true = true) ∧ CR.ret .nilIface (HWS oB5 oB9 rs (out.map u8 ++ [u8 b]) (out.length + 1) (g + 1) [(oB6, o6), (oB7, o7), (oB8, .cells [u8 b] tY5 0 0 false)]) none = .ret .nilIface (HWS oB5 oB9 rs (out.map u8 ++ [u8 b]) (out.length + 1) (g + 1) [(oB6, o6), (oB7, o7), (oB8, .cells [u8 b] tY5 0 0 false)]) none) (by kernel_rfl)
      ⟨⟨⟨rfl, Nat.le_refl _⟩, by omega, by omega, rfl, rfl, by simp, rfl, Nat.zero_le _, rfl⟩, rfl⟩)

theorem wb_5_9_6_7_8 (out : List UInt8) (g : Nat) (b : UInt8) (o6 o7 o8 : AObj) (hl : out.length ≤ 100000000) : CallT P kF19 [.ptr oB2 0 0, u8 b] (HO oB5 oB9 rs out g [(oB6, o6), (oB7, o7), (oB8, o8)]) (.ret .nilIface (HO oB5 oB10 rs (sn out b) (g + 1) [(oB6, o6), (oB7, o7), (oB8, o8), (oB9, .cells [u8 b] tY5 0 0 false)]) none) := by
  unfold HO sn
  rw [map1, len1]
  exact callT_hC hF [(14, .u .undef)] dF19 (c := bodyOf cF19) (by kernel_rfl) (by kernel_rfl) (by kernel_rfl) (by kernel_rfl)
    (ofK (b := ((0 = 0 ∧ 1 ≤ 1) ∧ out.length < out.length + 1 ∧ (out.length + 1) * 2 ≤ 274877906944 ∧ 1 = 1 ∧ g = g ∧ 0 + out.length * 1 = (out.map u8).length ∧ tY5 = tY5 ∧ 0 ≤ (out.map u8).length ∧ true = true) ∧ CR.ret .nilIface (HWS oB5 oB10 rs (out.map u8 ++ [u8 b]) (out.length + 1) (g + 1) [(oB6, o6), (oB7, o7), (oB8, o8), (oB9, .cells [u8 b] tY5 0 0 false)]) none = .ret .nilIface (HWS oB5 oB10 rs (out.map u8 ++ [u8 b]) (out.length + 1) (g + 1) [(oB6, o6), (oB7, o7), (oB8, o8), (oB9, .cells [u8 b] tY5 0 0 false)]) none) (by kernel_rfl)
      ⟨⟨⟨rfl, Nat.le_refl _⟩, by omega, by omega, rfl, rfl, by simp, rfl, Nat.zero_le _, rfl⟩, rfl⟩)

theorem wb_5_10_6_7_8_9 (out : List UInt8) (g : Nat) (b : UInt8) (o6 o7 o8 o9 : AObj) (hl : out.length ≤ 100000000) : CallT P kF19 [.ptr oB2 0 0, u8 b] (HO oB5 oB10 rs out g [(oB6, o6), (oB7, o7), (oB8, o8), (oB9, o9)]) (.ret .nilIface (HO oB5 oB11 rs (sn out b) (g + 1) [(oB6, o6), (oB7, o7), (oB8, o8), (oB9, o9), (oB10, .cells [u8 b] tY5 0 0 false)]) none) := by
  unfold HO sn
  rw [map1, len1]
  exact callT_hC hF [(14, .u .undef)] dF19 (c := bodyOf cF19) (by kernel_rfl) (by kernel_rfl) (by kernel_rfl) (by kernel_rfl)
    (ofK (b := ((0 = 0 ∧ 1 ≤ 1) ∧ out.length < out.length + 1 ∧ (out.length + 1) * 2 ≤ 274877906944 ∧ 1 = 1 ∧ g = g ∧ 0 + out.length * 1 = (out.map u8).length ∧ tY5 = tY5 ∧ 0 ≤ (out.map u8).length ∧ true = true) ∧ CR.ret .nilIface (HWS oB5 oB11 rs (out.map u8 ++ [u8 b]) (out.length + 1) (g + 1) [(oB6, o6), (oB7, o7), (oB8, o8), (oB9, o9), (oB10, .cells [u8 b] tY5 0 0 false)]) none = .ret .nilIface (HWS oB5 oB11 rs (out.map u8 ++ [u8 b]) (out.length + 1) (g + 1) [(oB6, o6), (oB7, o7), (oB8, o8), (oB9, o9), (oB10, .cells [u8 b] tY5 0 0 false)]) none) (by kernel_rfl)
      ⟨⟨⟨rfl, Nat.le_refl _⟩, by omega, by omega, rfl, rfl, by simp, rfl, Nat.zero_le _, rfl⟩, rfl⟩)

theorem ws_5_7 (out s : List UInt8) (g : Nat) (o6 : AObj) (hl : out.length ≤ 100000000) (hs : 0 < s.length) (hs' : s.length ≤ 100) : CallT P kF18 [.ptr oB2 0 0, .str s] (HO oB5 oB7 rs out g [(oB6, o6)]) (.ret (.tup [i64 s.length, .nilIface]) (HO oB5 oB7 rs (out ++ s) (g + 1) [(oB6, o6)]) none) := by
  unfold HO
  rw [mapA, lenA]
  exact callT_hC hF [(14, .u .undef)] dF18 (c := bodyOf cF18) (by kernel_rfl) (by kernel_rfl) (by kernel_rfl) (by kernel_rfl)
    (ofK (b := (True ∧ out.length < out.length + s.length ∧ (out.length + s.length) * 2 ≤ 274877906944 ∧ 1 = 1 ∧ g = g ∧ 0 + out.length * 1 = (out.map u8).length ∧ tY5 = tY5 ∧ 0 ≤ (out.map u8).length ∧ flat (s.map u8) = true) ∧ CR.ret (.tup [i64 s.length, .nilIface]) (HWS oB5 oB7 rs (out.map u8 ++ s.map u8) (out.length + s.length) (g + 1) [(oB6, o6)]) none = .ret (.tup [i64 s.length, .nilIface]) (HWS oB5 oB7 rs (out.map u8 ++ s.map u8) (out.length + s.length) (g + 1) [(oB6, o6)]) none) (by kernel_rfl)
      ⟨⟨trivial, by omega, by omega, rfl, rfl, by simp, rfl, Nat.zero_le _, flat8⟩, rfl⟩)

theorem ws_7_9 (out s : List UInt8) (g : Nat) (o8 : AObj) (hl : out.length ≤ 100000000) (hs : 0 < s.length) (hs' : s.length ≤ 100) : CallT P kF18 [.ptr oB2 0 0, .str s] (HO oB7 oB9 rs out g [(oB8, o8)]) (.ret (.tup [i64 s.length, .nilIface]) (HO oB7 oB9 rs (out ++ s) (g + 1) [(oB8, o8)]) none) := by
  unfold HO
  rw [mapA, lenA]
  exact callT_hC hF [(14, .u .undef)] dF18 (c := bodyOf cF18) (by kernel_rfl) (by kernel_rfl) (by kernel_rfl) (by kernel_rfl)
    (ofK (b := (True ∧ out.length < out.length + s.length ∧ (out.length + s.length) * 2 ≤ 274877906944 ∧ 1 = 1 ∧ g = g ∧ 0 + out.length * 1 = (out.map u8).length ∧ tY5 = tY5 ∧ 0 ≤ (out.map u8).length ∧ flat (s.map u8) = true) ∧ CR.ret (.tup [i64 s.length, .nilIface]) (HWS oB7 oB9 rs (out.map u8 ++ s.map u8) (out.length + s.length) (g + 1) [(oB8, o8)]) none = .ret (.tup [i64 s.length, .nilIface]) (HWS oB7 oB9 rs (out.map u8 ++ s.map u8) (out.length + s.length) (g + 1) [(oB8, o8)]) none) (by kernel_rfl)
      ⟨⟨trivial, by omega, by omega, rfl, rfl, by simp, rfl, Nat.zero_le _, flat8⟩, rfl⟩)

theorem ws_nil (s : List UInt8) (o4 : AObj) (hs : 0 < s.length) (hs' : s.length ≤ 100) : CallT P kF18 [.ptr oB2 0 0, .str s] (HN oB5 rs [(oB4, o4)]) (.ret (.tup [i64 s.length, .nilIface]) (HO oB5 oB6 rs s 0 [(oB4, o4)]) none) :=
  callT_hC hF [(14, .u .undef)] dF18 (c := bodyOf cF18) (by kernel_rfl) (by kernel_rfl) (by kernel_rfl) (by kernel_rfl)
    (ofK (b := (True ∧ 0 < s.length ∧ s.length * 2 ≤ 274877906944) ∧ CR.ret (.tup [i64 s.length, .nilIface]) (HO oB5 oB6 rs s 0 [(oB4, o4)]) none = .ret (.tup [i64 s.length, .nilIface]) (HO oB5 oB6 rs s 0 [(oB4, o4)]) none) (by kernel_rfl)
      ⟨⟨trivial, hs, by omega⟩, rfl⟩)

theorem wb_nil (b : UInt8) (o4 o5 : AObj) : CallT P kF19 [.ptr oB2 0 0, u8 b] (HN oB6 rs [(oB4, o4), (oB5, o5)]) (.ret .nilIface (HO oB7 oB8 rs [b] 0 [(oB4, o4), (oB5, o5), (oB6, .cells [u8 b] tY5 0 0 false)]) none) :=
  callT_hC hF [] dF19 (c := bodyOf cF19) (by kernel_rfl) (by kernel_rfl) (by kernel_rfl) (by kernel_rfl)
    (ofK (b := CR.ret .nilIface (HO oB7 oB8 rs [b] 0 [(oB4, o4), (oB5, o5), (oB6, .cells [u8 b] tY5 0 0 false)]) none = .ret .nilIface (HO oB7 oB8 rs [b] 0 [(oB4, o4), (oB5, o5), (oB6, .cells [u8 b] tY5 0 0 false)]) none) (by kernel_rfl) rfl)

end
end Go.Proofs.YtbdpfpjpmilpbaaGreatDoor

namespace Go.Proofs.YtbdpfpjpmilpbaaGreatDoor
open Go Go.Rk
set_option maxRecDepth 1000000
set_option linter.unusedVariables false
set_option linter.unusedSimpArgs false
set_option linter.constructorNameAsVariable false
set_option linter.unusedSectionVars false
def digs : List UInt8 := [48, 49, 50, 51, 52, 53, 54, 55, 56, 57, 65, 66, 67, 68, 69, 70]
def hexB (b : UInt8) : List UInt8 := [37, digs.getD (b.toNat / 16) 0, digs.getD (b.toNat % 16) 0]
theorem shr4 (b : UInt8) : by8 (b.toNat / 2 ^ 4) = by8 (b.toNat / 16) := rfl
theorem and15' (b : UInt8) : andI .u8 (Int.ofNat b.toNat) (Int.ofNat 15) = Int.ofNat (b.toNat % 16) := by rw [andU8 (bt b) (by omega), and15]
theorem cell8 {bl : List UInt8} {j : Nat} (h : j < bl.length) : (bl.map u8)[0 + j * 1]? = some (u8 (bl.getD j 0)) := by simp [h]
section
variable (rs : List AV) (s0 bl : List UInt8) (a k i : Nat) (r : Int)

abbrev Ei5_8 (j : Nat) : T := envOf [(0, .str s0), (1, by8 a), (4, .str []), (5, .ptr oB2 0 0), (13, .slice oB3 0 0 k k 1 false), (14, i64 k), (15, i64 i), (32, .slice oB7 0 0 bl.length bl.length 1 false), (33, i64 bl.length), (34, i64 j)]
abbrev Hi5_8 (out : List UInt8) (g : Nat) : Heap := HO oB5 oB8 rs out g [(oB6, .cells [i32 r] tY21 0 0 false), (oB7, .cells (bl.map u8) tY5 0 0 true)]
abbrev ki5_8 : Keep := [(oB2, some []), (oB3, some []), (oB5, some []), (oB6, some []), (oB7, some [])] ++ KT

theorem si5_8a (out : List UInt8) (g : Nat) (hb : belowVs oB8 rs = true) : Trip P 50 (lp cF9 1) (Ei5_8 s0 bl a k i bl.length) (Hi5_8 rs bl r out g) d0 (.exit 2 (Ei5_8 s0 bl a k i bl.length) (Hi5_8 rs bl r out g) d0) :=
  trip_shed hF (by rfl) [(35, .e (.bool false))] oB8 ki5_8 [0, 1, 4, 5, 13, 14, 15, 32, 33, 34]
    (ofK (b := AV.bool (ltI (Int.ofNat bl.length) (Int.ofNat bl.length)) = .bool false ∧ (true = true ∧ true = true ∧ belowVs oB8 rs = true ∧ belowVs oB8 (out.map u8) = true ∧ true = true ∧ belowVs oB8 (bl.map u8) = true ∧ true = true ∧ true = true ∧ True) ∧ XR.exit 2 (Ei5_8 s0 bl a k i bl.length) (Hi5_8 rs bl r out g) d0 = .exit 2 (Ei5_8 s0 bl a k i bl.length) (Hi5_8 rs bl r out g) d0) (by kernel_rfl)
      ⟨by rw [ltF (Nat.le_refl _)], ⟨rfl, rfl, hb, below8, rfl, below8, rfl, rfl, trivial⟩, rfl⟩)

theorem si5_8b (out : List UInt8) (g j : Nat) (hb : belowVs oB8 rs = true) (hj : j < bl.length) (hl : bl.length ≤ 100) (ho : out.length ≤ 90000000) (b : UInt8) (hbj : b = bl.getD j 0) : Trip P 50 (lp cF9 1) (Ei5_8 s0 bl a k i j) (Hi5_8 rs bl r out g) d0 (.nrm (Ei5_8 s0 bl a k i (j + 1)) (Hi5_8 rs bl r (sn (sn (sn out 37) (digs.getD (b.toNat / 16) 0)) (digs.getD (b.toNat % 16) 0)) (g + 1 + 1 + 1)) d0) :=
  trip_shed hF (by rfl) [(35, .e (.bool true)), (36, .u .undef), (37, .u (u8 b)), (38, .c (.ret .nilIface (HO oB5 oB9 rs (sn out 37) (g + 1) [(oB6, .cells [i32 r] tY21 0 0 false), (oB7, .cells (bl.map u8) tY5 0 0 true), (oB8, .cells [u8 37] tY5 0 0 false)]) none)), (40, .e (by8 (b.toNat / 16))), (41, .u .undef), (42, .c (.ret .nilIface (HO oB5 oB10 rs (sn (sn out 37) (digs.getD (b.toNat / 16) 0)) (g + 1 + 1) [(oB6, .cells [i32 r] tY21 0 0 false), (oB7, .cells (bl.map u8) tY5 0 0 true), (oB8, .cells [u8 37] tY5 0 0 false), (oB9, .cells [u8 (digs.getD (b.toNat / 16) 0)] tY5 0 0 false)]) none)), (44, .e (by8 (b.toNat % 16))), (45, .u .undef), (46, .c (.ret .nilIface (HO oB5 oB11 rs (sn (sn (sn out 37) (digs.getD (b.toNat / 16) 0)) (digs.getD (b.toNat % 16) 0)) (g + 1 + 1 + 1) [(oB6, .cells [i32 r] tY21 0 0 false), (oB7, .cells (bl.map u8) tY5 0 0 true), (oB8, .cells [u8 37] tY5 0 0 false), (oB9, .cells [u8 (digs.getD (b.toNat / 16) 0)] tY5 0 0 false), (oB10, .cells [u8 (digs.getD (b.toNat % 16) 0)] tY5 0 0 false)]) none)), (47, .e (i64 (j + 1)))] oB8 ki5_8 [0, 1, 4, 5, 13, 14, 15, 32, 33, 34]
    (ofK (b := AV.bool (ltI (Int.ofNat j) (Int.ofNat bl.length)) = .bool true ∧ j < bl.length ∧ (0 = 0 ∧ (bl.map u8)[0 + j * 1]? = some (u8 b)) ∧ CallI P kF19 [.ptr oB2 0 0, u8 37] (HO oB5 oB8 rs out g [(oB6, .cells [i32 r] tY21 0 0 false), (oB7, .cells (bl.map u8) tY5 0 0 true)]) (.ret .nilIface (HO oB5 oB9 rs (sn out 37) (g + 1) [(oB6, .cells [i32 r] tY21 0 0 false), (oB7, .cells (bl.map u8) tY5 0 0 true), (oB8, .cells [u8 37] tY5 0 0 false)]) none) ∧
        by8 (b.toNat / 2 ^ 4) = by8 (b.toNat / 16) ∧ b.toNat / 16 < digs.length ∧ CallI P kF19 [.ptr oB2 0 0, u8 (digs.getD (b.toNat / 16) 0)] (HO oB5 oB9 rs (sn out 37) (g + 1) [(oB6, .cells [i32 r] tY21 0 0 false), (oB7, .cells (bl.map u8) tY5 0 0 true), (oB8, .cells [u8 37] tY5 0 0 false)]) (.ret .nilIface (HO oB5 oB10 rs (sn (sn out 37) (digs.getD (b.toNat / 16) 0)) (g + 1 + 1) [(oB6, .cells [i32 r] tY21 0 0 false), (oB7, .cells (bl.map u8) tY5 0 0 true), (oB8, .cells [u8 37] tY5 0 0 false), (oB9, .cells [u8 (digs.getD (b.toNat / 16) 0)] tY5 0 0 false)]) none) ∧
        AV.int .u8 (andI .u8 (Int.ofNat b.toNat) (Int.ofNat 15)) = by8 (b.toNat % 16) ∧ b.toNat % 16 < digs.length ∧ CallI P kF19 [.ptr oB2 0 0, u8 (digs.getD (b.toNat % 16) 0)] (HO oB5 oB10 rs (sn (sn out 37) (digs.getD (b.toNat / 16) 0)) (g + 1 + 1) [(oB6, .cells [i32 r] tY21 0 0 false), (oB7, .cells (bl.map u8) tY5 0 0 true), (oB8, .cells [u8 37] tY5 0 0 false), (oB9, .cells [u8 (digs.getD (b.toNat / 16) 0)] tY5 0 0 false)]) (.ret .nilIface (HO oB5 oB11 rs (sn (sn (sn out 37) (digs.getD (b.toNat / 16) 0)) (digs.getD (b.toNat % 16) 0)) (g + 1 + 1 + 1) [(oB6, .cells [i32 r] tY21 0 0 false), (oB7, .cells (bl.map u8) tY5 0 0 true), (oB8, .cells [u8 37] tY5 0 0 false), (oB9, .cells [u8 (digs.getD (b.toNat / 16) 0)] tY5 0 0 false), (oB10, .cells [u8 (digs.getD (b.toNat % 16) 0)] tY5 0 0 false)]) none) ∧
        AV.int .i64 (wrapF .i64 (Int.ofNat (j + 1))) = i64 (j + 1) ∧ (true = true ∧ true = true ∧ belowVs oB8 rs = true ∧ belowVs oB8 ((sn (sn (sn out 37) (digs.getD (b.toNat / 16) 0)) (digs.getD (b.toNat % 16) 0)).map u8) = true ∧ true = true ∧ belowVs oB8 (bl.map u8) = true ∧ true = true ∧ true = true ∧ True) ∧ XR.nrm (Ei5_8 s0 bl a k i (j + 1)) (Hi5_8 rs bl r (sn (sn (sn out 37) (digs.getD (b.toNat / 16) 0)) (digs.getD (b.toNat % 16) 0)) (g + 1 + 1 + 1)) d0 = .nrm (Ei5_8 s0 bl a k i (j + 1)) (Hi5_8 rs bl r (sn (sn (sn out 37) (digs.getD (b.toNat / 16) 0)) (digs.getD (b.toNat % 16) 0)) (g + 1 + 1 + 1)) d0) (by kernel_rfl)
      ⟨by rw [ltT hj], hj, ⟨rfl, by rw [hbj]; exact cell8 hj⟩, ⟨wb_5_8_6_7 rs out g 37 _ _ (by omega)⟩, shr4 b, (by have := bt b; show b.toNat / 16 < 16; omega), ⟨wb_5_9_6_7_8 rs _ _ _ _ _ _ (by simp only [sn, List.length_append, List.length_cons, List.length_nil]; omega)⟩,
        by rw [and15'], (by show b.toNat % 16 < 16; omega), ⟨wb_5_10_6_7_8_9 rs _ _ _ _ _ _ _ (by simp only [sn, List.length_append, List.length_cons, List.length_nil]; omega)⟩, by rw [wrapI64 (by omega)], ⟨rfl, rfl, hb, below8, rfl, below8, rfl, rfl, trivial⟩, rfl⟩)

theorem li5_8 (hb : belowVs oB8 rs = true) (hl : bl.length ≤ 100) : ∀ (m j : Nat) (out : List UInt8) (g : Nat), bl.length = j + m → out.length + 3 * m ≤ 90000000 → TripL P 50 (lp cF9 1) (Ei5_8 s0 bl a k i j) (Hi5_8 rs bl r out g) d0 (.exit 2 (Ei5_8 s0 bl a k i bl.length) (Hi5_8 rs bl r (out ++ (bl.drop j).flatMap hexB) (g + 3 * m)) d0)
  | 0, j, out, g, hj, ho => by
    have e : j = bl.length := by omega
    subst e
    have : out ++ (bl.drop bl.length).flatMap hexB = out := by simp
    rw [this]
    exact TripL.stop rfl (si5_8a rs s0 bl a k i r out g hb)
  | m + 1, j, out, g, hj, ho => by
    have hlt : j < bl.length := by omega
    have hd : bl.drop j = bl.getD j 0 :: bl.drop (j + 1) := by
      rw [List.drop_eq_getElem_cons hlt]; simp [hlt]
    have ih := li5_8 hb hl m (j + 1) (sn (sn (sn out 37) (digs.getD ((bl.getD j 0).toNat / 16) 0)) (digs.getD ((bl.getD j 0).toNat % 16) 0)) (g + 1 + 1 + 1) (by omega) (by simp only [sn, List.length_append, List.length_cons, List.length_nil]; omega)
    have e1 : (sn (sn (sn out 37) (digs.getD ((bl.getD j 0).toNat / 16) 0)) (digs.getD ((bl.getD j 0).toNat % 16) 0)) ++ (bl.drop (j + 1)).flatMap hexB = out ++ (bl.drop j).flatMap hexB := by
      rw [hd, List.flatMap_cons]
      simp only [sn, hexB, List.append_assoc, List.cons_append, List.nil_append]
    have e2 : g + 1 + 1 + 1 + 3 * m = g + 3 * (m + 1) := by omega
    rw [e1, e2] at ih
    exact TripL.next (si5_8b rs s0 bl a k i r out g j hb hlt hl (by omega) _ rfl) ih

abbrev Ei7_10 (j : Nat) : T := envOf [(0, .str s0), (1, by8 a), (4, .str []), (5, .ptr oB2 0 0), (13, .slice oB3 0 0 k k 1 false), (14, i64 k), (15, i64 i), (32, .slice oB9 0 0 bl.length bl.length 1 false), (33, i64 bl.length), (34, i64 j)]
abbrev Hi7_10 (out : List UInt8) (g : Nat) : Heap := HO oB7 oB10 rs out g [(oB8, .cells [i32 r] tY21 0 0 false), (oB9, .cells (bl.map u8) tY5 0 0 true)]
abbrev ki7_10 : Keep := [(oB2, some []), (oB3, some []), (oB7, some []), (oB8, some []), (oB9, some [])] ++ KT

theorem si7_10a (out : List UInt8) (g : Nat) (hb : belowVs oB10 rs = true) : Trip P 50 (lp cF9 1) (Ei7_10 s0 bl a k i bl.length) (Hi7_10 rs bl r out g) d0 (.exit 2 (Ei7_10 s0 bl a k i bl.length) (Hi7_10 rs bl r out g) d0) :=
  trip_shed hF (by rfl) [(35, .e (.bool false))] oB10 ki7_10 [0, 1, 4, 5, 13, 14, 15, 32, 33, 34]
    (ofK (b := AV.bool (ltI (Int.ofNat bl.length) (Int.ofNat bl.length)) = .bool false ∧ (true = true ∧ true = true ∧ belowVs oB10 rs = true ∧ belowVs oB10 (out.map u8) = true ∧ true = true ∧ belowVs oB10 (bl.map u8) = true ∧ true = true ∧ true = true ∧ True) ∧ XR.exit 2 (Ei7_10 s0 bl a k i bl.length) (Hi7_10 rs bl r out g) d0 = .exit 2 (Ei7_10 s0 bl a k i bl.length) (Hi7_10 rs bl r out g) d0) (by kernel_rfl)
      ⟨by rw [ltF (Nat.le_refl _)], ⟨rfl, rfl, hb, below8, rfl, below8, rfl, rfl, trivial⟩, rfl⟩)

theorem si7_10b (out : List UInt8) (g j : Nat) (hb : belowVs oB10 rs = true) (hj : j < bl.length) (hl : bl.length ≤ 100) (ho : out.length ≤ 90000000) (b : UInt8) (hbj : b = bl.getD j 0) : Trip P 50 (lp cF9 1) (Ei7_10 s0 bl a k i j) (Hi7_10 rs bl r out g) d0 (.nrm (Ei7_10 s0 bl a k i (j + 1)) (Hi7_10 rs bl r (sn (sn (sn out 37) (digs.getD (b.toNat / 16) 0)) (digs.getD (b.toNat % 16) 0)) (g + 1 + 1 + 1)) d0) :=
  trip_shed hF (by rfl) [(35, .e (.bool true)), (36, .u .undef), (37, .u (u8 b)), (38, .c (.ret .nilIface (HO oB7 oB11 rs (sn out 37) (g + 1) [(oB8, .cells [i32 r] tY21 0 0 false), (oB9, .cells (bl.map u8) tY5 0 0 true), (oB10, .cells [u8 37] tY5 0 0 false)]) none)), (40, .e (by8 (b.toNat / 16))), (41, .u .undef), (42, .c (.ret .nilIface (HO oB7 oB12 rs (sn (sn out 37) (digs.getD (b.toNat / 16) 0)) (g + 1 + 1) [(oB8, .cells [i32 r] tY21 0 0 false), (oB9, .cells (bl.map u8) tY5 0 0 true), (oB10, .cells [u8 37] tY5 0 0 false), (oB11, .cells [u8 (digs.getD (b.toNat / 16) 0)] tY5 0 0 false)]) none)), (44, .e (by8 (b.toNat % 16))), (45, .u .undef), (46, .c (.ret .nilIface (HO oB7 oB13 rs (sn (sn (sn out 37) (digs.getD (b.toNat / 16) 0)) (digs.getD (b.toNat % 16) 0)) (g + 1 + 1 + 1) [(oB8, .cells [i32 r] tY21 0 0 false), (oB9, .cells (bl.map u8) tY5 0 0 true), (oB10, .cells [u8 37] tY5 0 0 false), (oB11, .cells [u8 (digs.getD (b.toNat / 16) 0)] tY5 0 0 false), (oB12, .cells [u8 (digs.getD (b.toNat % 16) 0)] tY5 0 0 false)]) none)), (47, .e (i64 (j + 1)))] oB10 ki7_10 [0, 1, 4, 5, 13, 14, 15, 32, 33, 34]
    (ofK (b := AV.bool (ltI (Int.ofNat j) (Int.ofNat bl.length)) = .bool true ∧ j < bl.length ∧ (0 = 0 ∧ (bl.map u8)[0 + j * 1]? = some (u8 b)) ∧ CallI P kF19 [.ptr oB2 0 0, u8 37] (HO oB7 oB10 rs out g [(oB8, .cells [i32 r] tY21 0 0 false), (oB9, .cells (bl.map u8) tY5 0 0 true)]) (.ret .nilIface (HO oB7 oB11 rs (sn out 37) (g + 1) [(oB8, .cells [i32 r] tY21 0 0 false), (oB9, .cells (bl.map u8) tY5 0 0 true), (oB10, .cells [u8 37] tY5 0 0 false)]) none) ∧
        by8 (b.toNat / 2 ^ 4) = by8 (b.toNat / 16) ∧ b.toNat / 16 < digs.length ∧ CallI P kF19 [.ptr oB2 0 0, u8 (digs.getD (b.toNat / 16) 0)] (HO oB7 oB11 rs (sn out 37) (g + 1) [(oB8, .cells [i32 r] tY21 0 0 false), (oB9, .cells (bl.map u8) tY5 0 0 true), (oB10, .cells [u8 37] tY5 0 0 false)]) (.ret .nilIface (HO oB7 oB12 rs (sn (sn out 37) (digs.getD (b.toNat / 16) 0)) (g + 1 + 1) [(oB8, .cells [i32 r] tY21 0 0 false), (oB9, .cells (bl.map u8) tY5 0 0 true), (oB10, .cells [u8 37] tY5 0 0 false), (oB11, .cells [u8 (digs.getD (b.toNat / 16) 0)] tY5 0 0 false)]) none) ∧
        AV.int .u8 (andI .u8 (Int.ofNat b.toNat) (Int.ofNat 15)) = by8 (b.toNat % 16) ∧ b.toNat % 16 < digs.length ∧ CallI P kF19 [.ptr oB2 0 0, u8 (digs.getD (b.toNat % 16) 0)] (HO oB7 oB12 rs (sn (sn out 37) (digs.getD (b.toNat / 16) 0)) (g + 1 + 1) [(oB8, .cells [i32 r] tY21 0 0 false), (oB9, .cells (bl.map u8) tY5 0 0 true), (oB10, .cells [u8 37] tY5 0 0 false), (oB11, .cells [u8 (digs.getD (b.toNat / 16) 0)] tY5 0 0 false)]) (.ret .nilIface (HO oB7 oB13 rs (sn (sn (sn out 37) (digs.getD (b.toNat / 16) 0)) (digs.getD (b.toNat % 16) 0)) (g + 1 + 1 + 1) [(oB8, .cells [i32 r] tY21 0 0 false), (oB9, .cells (bl.map u8) tY5 0 0 true), (oB10, .cells [u8 37] tY5 0 0 false), (oB11, .cells [u8 (digs.getD (b.toNat / 16) 0)] tY5 0 0 false), (oB12, .cells [u8 (digs.getD (b.toNat % 16) 0)] tY5 0 0 false)]) none) ∧
        AV.int .i64 (wrapF .i64 (Int.ofNat (j + 1))) = i64 (j + 1) ∧ (true = true ∧ true = true ∧ belowVs oB10 rs = true ∧ belowVs oB10 ((sn (sn (sn out 37) (digs.getD (b.toNat / 16) 0)) (digs.getD (b.toNat % 16) 0)).map u8) = true ∧ true = true ∧ belowVs oB10 (bl.map u8) = true ∧ true = true ∧ true = true ∧ True) ∧ XR.nrm (Ei7_10 s0 bl a k i (j + 1)) (Hi7_10 rs bl r (sn (sn (sn out 37) (digs.getD (b.toNat / 16) 0)) (digs.getD (b.toNat % 16) 0)) (g + 1 + 1 + 1)) d0 = .nrm (Ei7_10 s0 bl a k i (j + 1)) (Hi7_10 rs bl r (sn (sn (sn out 37) (digs.getD (b.toNat / 16) 0)) (digs.getD (b.toNat % 16) 0)) (g + 1 + 1 + 1)) d0) (by kernel_rfl)
      ⟨by rw [ltT hj], hj, ⟨rfl, by rw [hbj]; exact cell8 hj⟩, ⟨wb_7_10_8_9 rs out g 37 _ _ (by omega)⟩, shr4 b, (by have := bt b; show b.toNat / 16 < 16; omega), ⟨wb_7_11_8_9_10 rs _ _ _ _ _ _ (by simp only [sn, List.length_append, List.length_cons, List.length_nil]; omega)⟩,
        by rw [and15'], (by show b.toNat % 16 < 16; omega), ⟨wb_7_12_8_9_10_11 rs _ _ _ _ _ _ _ (by simp only [sn, List.length_append, List.length_cons, List.length_nil]; omega)⟩, by rw [wrapI64 (by omega)], ⟨rfl, rfl, hb, below8, rfl, below8, rfl, rfl, trivial⟩, rfl⟩)

theorem li7_10 (hb : belowVs oB10 rs = true) (hl : bl.length ≤ 100) : ∀ (m j : Nat) (out : List UInt8) (g : Nat), bl.length = j + m → out.length + 3 * m ≤ 90000000 → TripL P 50 (lp cF9 1) (Ei7_10 s0 bl a k i j) (Hi7_10 rs bl r out g) d0 (.exit 2 (Ei7_10 s0 bl a k i bl.length) (Hi7_10 rs bl r (out ++ (bl.drop j).flatMap hexB) (g + 3 * m)) d0)
  | 0, j, out, g, hj, ho => by
    have e : j = bl.length := by omega
    subst e
    have : out ++ (bl.drop bl.length).flatMap hexB = out := by simp
    rw [this]
    exact TripL.stop rfl (si7_10a rs s0 bl a k i r out g hb)
  | m + 1, j, out, g, hj, ho => by
    have hlt : j < bl.length := by omega
    have hd : bl.drop j = bl.getD j 0 :: bl.drop (j + 1) := by
      rw [List.drop_eq_getElem_cons hlt]; simp [hlt]
    have ih := li7_10 hb hl m (j + 1) (sn (sn (sn out 37) (digs.getD ((bl.getD j 0).toNat / 16) 0)) (digs.getD ((bl.getD j 0).toNat % 16) 0)) (g + 1 + 1 + 1) (by omega) (by simp only [sn, List.length_append, List.length_cons, List.length_nil]; omega)
    have e1 : (sn (sn (sn out 37) (digs.getD ((bl.getD j 0).toNat / 16) 0)) (digs.getD ((bl.getD j 0).toNat % 16) 0)) ++ (bl.drop (j + 1)).flatMap hexB = out ++ (bl.drop j).flatMap hexB := by
      rw [hd, List.flatMap_cons]
      simp only [sn, hexB, List.append_assoc, List.cons_append, List.nil_append]
    have e2 : g + 1 + 1 + 1 + 3 * m = g + 3 * (m + 1) := by omega
    rw [e1, e2] at ih
    exact TripL.next (si7_10b rs s0 bl a k i r out g j hb hlt hl (by omega) _ rfl) ih

abbrev Ei7_8 (j : Nat) : T := envOf [(0, .str s0), (1, by8 a), (4, .str []), (5, .ptr oB2 0 0), (13, .slice oB3 0 0 k k 1 false), (14, i64 k), (15, i64 i), (32, .slice oB5 0 0 bl.length bl.length 1 false), (33, i64 bl.length), (34, i64 j)]
abbrev Hi7_8 (out : List UInt8) (g : Nat) : Heap := HO oB7 oB8 rs out g [(oB4, .cells [i32 r] tY21 0 0 false), (oB5, .cells (bl.map u8) tY5 0 0 true)]
abbrev ki7_8 : Keep := [(oB2, some []), (oB3, some []), (oB7, some []), (oB4, some []), (oB5, some [])] ++ KT

theorem si7_8a (out : List UInt8) (g : Nat) (hb : belowVs oB8 rs = true) : Trip P 50 (lp cF9 1) (Ei7_8 s0 bl a k i bl.length) (Hi7_8 rs bl r out g) d0 (.exit 2 (Ei7_8 s0 bl a k i bl.length) (Hi7_8 rs bl r out g) d0) :=
  trip_shed hF (by rfl) [(35, .e (.bool false))] oB8 ki7_8 [0, 1, 4, 5, 13, 14, 15, 32, 33, 34]
    (ofK (b := AV.bool (ltI (Int.ofNat bl.length) (Int.ofNat bl.length)) = .bool false ∧ (true = true ∧ true = true ∧ belowVs oB8 rs = true ∧ belowVs oB8 (out.map u8) = true ∧ true = true ∧ belowVs oB8 (bl.map u8) = true ∧ true = true ∧ true = true ∧ True) ∧ XR.exit 2 (Ei7_8 s0 bl a k i bl.length) (Hi7_8 rs bl r out g) d0 = .exit 2 (Ei7_8 s0 bl a k i bl.length) (Hi7_8 rs bl r out g) d0) (by kernel_rfl)
      ⟨by rw [ltF (Nat.le_refl _)], ⟨rfl, rfl, hb, below8, rfl, below8, rfl, rfl, trivial⟩, rfl⟩)

theorem si7_8b (out : List UInt8) (g j : Nat) (hb : belowVs oB8 rs = true) (hj : j < bl.length) (hl : bl.length ≤ 100) (ho : out.length ≤ 90000000) (b : UInt8) (hbj : b = bl.getD j 0) : Trip P 50 (lp cF9 1) (Ei7_8 s0 bl a k i j) (Hi7_8 rs bl r out g) d0 (.nrm (Ei7_8 s0 bl a k i (j + 1)) (Hi7_8 rs bl r (sn (sn (sn out 37) (digs.getD (b.toNat / 16) 0)) (digs.getD (b.toNat % 16) 0)) (g + 1 + 1 + 1)) d0) :=
  trip_shed hF (by rfl) [(35, .e (.bool true)), (36, .u .undef), (37, .u (u8 b)), (38, .c (.ret .nilIface (HO oB7 oB9 rs (sn out 37) (g + 1) [(oB4, .cells [i32 r] tY21 0 0 false), (oB5, .cells (bl.map u8) tY5 0 0 true), (oB8, .cells [u8 37] tY5 0 0 false)]) none)), (40, .e (by8 (b.toNat / 16))), (41, .u .undef), (42, .c (.ret .nilIface (HO oB7 oB10 rs (sn (sn out 37) (digs.getD (b.toNat / 16) 0)) (g + 1 + 1) [(oB4, .cells [i32 r] tY21 0 0 false), (oB5, .cells (bl.map u8) tY5 0 0 true), (oB8, .cells [u8 37] tY5 0 0 false), (oB9, .cells [u8 (digs.getD (b.toNat / 16) 0)] tY5 0 0 false)]) none)), (44, .e (by8 (b.toNat % 16))), (45, .u .undef), (46, .c (.ret .nilIface (HO oB7 oB11 rs (sn (sn (sn out 37) (digs.getD (b.toNat / 16) 0)) (digs.getD (b.toNat % 16) 0)) (g + 1 + 1 + 1) [(oB4, .cells [i32 r] tY21 0 0 false), (oB5, .cells (bl.map u8) tY5 0 0 true), (oB8, .cells [u8 37] tY5 0 0 false), (oB9, .cells [u8 (digs.getD (b.toNat / 16) 0)] tY5 0 0 false), (oB10, .cells [u8 (digs.getD (b.toNat % 16) 0)] tY5 0 0 false)]) none)), (47, .e (i64 (j + 1)))] oB8 ki7_8 [0, 1, 4, 5, 13, 14, 15, 32, 33, 34]
    (ofK (b := AV.bool (ltI (Int.ofNat j) (Int.ofNat bl.length)) = .bool true ∧ j < bl.length ∧ (0 = 0 ∧ (bl.map u8)[0 + j * 1]? = some (u8 b)) ∧ CallI P kF19 [.ptr oB2 0 0, u8 37] (HO oB7 oB8 rs out g [(oB4, .cells [i32 r] tY21 0 0 false), (oB5, .cells (bl.map u8) tY5 0 0 true)]) (.ret .nilIface (HO oB7 oB9 rs (sn out 37) (g + 1) [(oB4, .cells [i32 r] tY21 0 0 false), (oB5, .cells (bl.map u8) tY5 0 0 true), (oB8, .cells [u8 37] tY5 0 0 false)]) none) ∧
        by8 (b.toNat / 2 ^ 4) = by8 (b.toNat / 16) ∧ b.toNat / 16 < digs.length ∧ CallI P kF19 [.ptr oB2 0 0, u8 (digs.getD (b.toNat / 16) 0)] (HO oB7 oB9 rs (sn out 37) (g + 1) [(oB4, .cells [i32 r] tY21 0 0 false), (oB5, .cells (bl.map u8) tY5 0 0 true), (oB8, .cells [u8 37] tY5 0 0 false)]) (.ret .nilIface (HO oB7 oB10 rs (sn (sn out 37) (digs.getD (b.toNat / 16) 0)) (g + 1 + 1) [(oB4, .cells [i32 r] tY21 0 0 false), (oB5, .cells (bl.map u8) tY5 0 0 true), (oB8, .cells [u8 37] tY5 0 0 false), (oB9, .cells [u8 (digs.getD (b.toNat / 16) 0)] tY5 0 0 false)]) none) ∧
        AV.int .u8 (andI .u8 (Int.ofNat b.toNat) (Int.ofNat 15)) = by8 (b.toNat % 16) ∧ b.toNat % 16 < digs.length ∧ CallI P kF19 [.ptr oB2 0 0, u8 (digs.getD (b.toNat % 16) 0)] (HO oB7 oB10 rs (sn (sn out 37) (digs.getD (b.toNat / 16) 0)) (g + 1 + 1) [(oB4, .cells [i32 r] tY21 0 0 false), (oB5, .cells (bl.map u8) tY5 0 0 true), (oB8, .cells [u8 37] tY5 0 0 false), (oB9, .cells [u8 (digs.getD (b.toNat / 16) 0)] tY5 0 0 false)]) (.ret .nilIface (HO oB7 oB11 rs (sn (sn (sn out 37) (digs.getD (b.toNat / 16) 0)) (digs.getD (b.toNat % 16) 0)) (g + 1 + 1 + 1) [(oB4, .cells [i32 r] tY21 0 0 false), (oB5, .cells (bl.map u8) tY5 0 0 true), (oB8, .cells [u8 37] tY5 0 0 false), (oB9, .cells [u8 (digs.getD (b.toNat / 16) 0)] tY5 0 0 false), (oB10, .cells [u8 (digs.getD (b.toNat % 16) 0)] tY5 0 0 false)]) none) ∧
        AV.int .i64 (wrapF .i64 (Int.ofNat (j + 1))) = i64 (j + 1) ∧ (true = true ∧ true = true ∧ belowVs oB8 rs = true ∧ belowVs oB8 ((sn (sn (sn out 37) (digs.getD (b.toNat / 16) 0)) (digs.getD (b.toNat % 16) 0)).map u8) = true ∧ true = true ∧ belowVs oB8 (bl.map u8) = true ∧ true = true ∧ true = true ∧ True) ∧ XR.nrm (Ei7_8 s0 bl a k i (j + 1)) (Hi7_8 rs bl r (sn (sn (sn out 37) (digs.getD (b.toNat / 16) 0)) (digs.getD (b.toNat % 16) 0)) (g + 1 + 1 + 1)) d0 = .nrm (Ei7_8 s0 bl a k i (j + 1)) (Hi7_8 rs bl r (sn (sn (sn out 37) (digs.getD (b.toNat / 16) 0)) (digs.getD (b.toNat % 16) 0)) (g + 1 + 1 + 1)) d0) (by kernel_rfl)
      ⟨by rw [ltT hj], hj, ⟨rfl, by rw [hbj]; exact cell8 hj⟩, ⟨wb_7_8_4_5 rs out g 37 _ _ (by omega)⟩, shr4 b, (by have := bt b; show b.toNat / 16 < 16; omega), ⟨wb_7_9_4_5_8 rs _ _ _ _ _ _ (by simp only [sn, List.length_append, List.length_cons, List.length_nil]; omega)⟩,
        by rw [and15'], (by show b.toNat % 16 < 16; omega), ⟨wb_7_10_4_5_8_9 rs _ _ _ _ _ _ _ (by simp only [sn, List.length_append, List.length_cons, List.length_nil]; omega)⟩, by rw [wrapI64 (by omega)], ⟨rfl, rfl, hb, below8, rfl, below8, rfl, rfl, trivial⟩, rfl⟩)

theorem li7_8 (hb : belowVs oB8 rs = true) (hl : bl.length ≤ 100) : ∀ (m j : Nat) (out : List UInt8) (g : Nat), bl.length = j + m → out.length + 3 * m ≤ 90000000 → TripL P 50 (lp cF9 1) (Ei7_8 s0 bl a k i j) (Hi7_8 rs bl r out g) d0 (.exit 2 (Ei7_8 s0 bl a k i bl.length) (Hi7_8 rs bl r (out ++ (bl.drop j).flatMap hexB) (g + 3 * m)) d0)
  | 0, j, out, g, hj, ho => by
    have e : j = bl.length := by omega
    subst e
    have : out ++ (bl.drop bl.length).flatMap hexB = out := by simp
    rw [this]
    exact TripL.stop rfl (si7_8a rs s0 bl a k i r out g hb)
  | m + 1, j, out, g, hj, ho => by
    have hlt : j < bl.length := by omega
    have hd : bl.drop j = bl.getD j 0 :: bl.drop (j + 1) := by
      rw [List.drop_eq_getElem_cons hlt]; simp [hlt]
    have ih := li7_8 hb hl m (j + 1) (sn (sn (sn out 37) (digs.getD ((bl.getD j 0).toNat / 16) 0)) (digs.getD ((bl.getD j 0).toNat % 16) 0)) (g + 1 + 1 + 1) (by omega) (by simp only [sn, List.length_append, List.length_cons, List.length_nil]; omega)
    have e1 : (sn (sn (sn out 37) (digs.getD ((bl.getD j 0).toNat / 16) 0)) (digs.getD ((bl.getD j 0).toNat % 16) 0)) ++ (bl.drop (j + 1)).flatMap hexB = out ++ (bl.drop j).flatMap hexB := by
      rw [hd, List.flatMap_cons]
      simp only [sn, hexB, List.append_assoc, List.cons_append, List.nil_append]
    have e2 : g + 1 + 1 + 1 + 3 * m = g + 3 * (m + 1) := by omega
    rw [e1, e2] at ih
    exact TripL.next (si7_8b rs s0 bl a k i r out g j hb hlt hl (by omega) _ rfl) ih

end
end Go.Proofs.YtbdpfpjpmilpbaaGreatDoor

namespace Go.Proofs.YtbdpfpjpmilpbaaGreatDoor
open Go Go.Rk
set_option maxRecDepth 1000000
set_option linter.unusedVariables false
set_option linter.unusedSimpArgs false
set_option linter.constructorNameAsVariable false
set_option linter.unusedSectionVars false
/-! what a set has -/
def inS (c a : Nat) : Bool := Nat.ble a 6 && (decide (c < 32) || decide (126 < c) || hasF (Int.ofNat c) (moreS a) (moreS a).length 0)
theorem in_T {c a : Nat} (h : Heap) : CallT P kF10 [i32 (Int.ofNat c), by8 a] h (.ret (.bool (inS c a)) h none) := by
  by_cases h6 : a ≤ 6
  · by_cases h32 : c < 32
    · have : inS c a = true := by simp [inS, h6, h32]
      rw [this]
      exact pure_hC tabOK hF (by rfl) (by rfl) [(6, .e (.bool true)), (9, .e (.bool true))] dF10 (by kernel_rfl)
        (ofK (b := AV.bool (!ltI (Int.ofNat 6) (Int.ofNat a)) = .bool true ∧ AV.bool (ltI (Int.ofNat c) (Int.ofNat 32)) = .bool true ∧ AV.bool true = .bool true) (by kernel_rfl) ⟨by rw [ltF h6]; rfl, by rw [ltT h32], rfl⟩) h
    · by_cases h126 : 126 < c
      · have : inS c a = true := by simp [inS, h6, h126]
        rw [this]
        exact pure_hC tabOK hF (by rfl) (by rfl) [(6, .e (.bool true)), (9, .e (.bool false)), (12, .e (.bool true))] dF10 (by kernel_rfl)
          (ofK (b := AV.bool (!ltI (Int.ofNat 6) (Int.ofNat a)) = .bool true ∧ AV.bool (ltI (Int.ofNat c) (Int.ofNat 32)) = .bool false ∧ AV.bool (ltI (Int.ofNat 126) (Int.ofNat c)) = .bool true ∧ AV.bool true = .bool true) (by kernel_rfl)
            ⟨by rw [ltF h6]; rfl, by rw [ltF (by omega)], by rw [ltT h126], rfl⟩) h
      · have : inS c a = hasF (Int.ofNat c) (moreS a) (moreS a).length 0 := by simp [inS, h6, h32, h126]
        rw [this]
        generalize hb : hasF (Int.ofNat c) (moreS a) (moreS a).length 0 = b
        exact pure_hC tabOK hF (by rfl) (by rfl) [(6, .e (.bool true)), (9, .e (.bool false)), (12, .e (.bool false)), (16, .c (.ret (.str (moreS a)) (hpT P) none)), (18, .c (.ret (.bool b) (hpT P) none))] dF10 (by kernel_rfl)
          (ofK (b := AV.bool (!ltI (Int.ofNat 6) (Int.ofNat a)) = .bool true ∧ AV.bool (ltI (Int.ofNat c) (Int.ofNat 32)) = .bool false ∧ AV.bool (ltI (Int.ofNat 126) (Int.ofNat c)) = .bool false ∧ CallI P kF22 [by8 a] (hpT P) (.ret (.str (moreS a)) (hpT P) none) ∧
              CallI P kF21 [.str (moreS a), i32 (Int.ofNat c)] (hpT P) (.ret (.bool b) (hpT P) none) ∧ AV.bool b = .bool b) (by kernel_rfl)
            ⟨by rw [ltF h6]; rfl, by rw [ltF (by omega)], by rw [ltF (by omega)], ⟨more_T h6 _⟩, ⟨by rw [← hb]; exact hasRune_T _ _ _⟩, rfl⟩) h
  · have : inS c a = false := by
      have : Nat.ble a 6 = false := ble_f (by omega)
      simp [inS, h6]
    rw [this]
    exact pure_hC tabOK hF (by rfl) (by rfl) [(6, .e (.bool false))] dF10 (by kernel_rfl)
      (ofK (b := AV.bool (!ltI (Int.ofNat 6) (Int.ofNat a)) = .bool false ∧ AV.bool false = .bool false) (by kernel_rfl) ⟨by rw [ltT (by omega)]; rfl, rfl⟩) h
theorem encB_len (c : Nat) : 1 ≤ (encB c).length ∧ (encB c).length ≤ 4 := by
  unfold encB encN
  repeat' split
  all_goals simp
section
variable (rs : List AV) (s0 : List UInt8) (a k : Nat)
abbrev E9 (i : Nat) : T := envOf [(0, .str s0), (1, by8 a), (4, .str []), (5, .ptr oB2 0 0), (13, .slice oB3 0 0 k k 1 false), (14, i64 k), (15, i64 i)]
abbrev rb (c : Nat) : AObj := .cells [i32 (Int.ofNat c)] tY21 0 0 false
abbrev bb (l : List UInt8) : AObj := .cells (l.map u8) tY5 0 0 true

abbrev ko5 : Keep := [(oB2, some []), (oB3, some []), (oB5, some [])] ++ KT
theorem so5a (out : List UInt8) (g i : Nat) (hb : belowVs oB6 rs = true) (hi : ¬ i < k) : Trip P 50 (lp cF9 0) (E9 s0 a k i) (HO oB5 oB6 rs out g []) d0 (.exit 0 (E9 s0 a k i) (HO oB5 oB6 rs out g []) d0) :=
  trip_shed hF (by rfl) [(16, .e (.bool false))] oB6 ko5 [0, 1, 4, 5, 13, 14, 15]
    (ofK (b := AV.bool (ltI (Int.ofNat i) (Int.ofNat k)) = .bool false ∧ (true = true ∧ true = true ∧ belowVs oB6 rs = true ∧ belowVs oB6 (out.map u8) = true ∧ true = true ∧ true = true ∧ True) ∧ XR.exit 0 (E9 s0 a k i) (HO oB5 oB6 rs out g []) d0 = .exit 0 (E9 s0 a k i) (HO oB5 oB6 rs out g []) d0) (by kernel_rfl)
      ⟨by rw [ltF (by omega)], ⟨rfl, rfl, hb, below8, rfl, rfl, trivial⟩, rfl⟩)
theorem so5b (out : List UInt8) (g i c : Nat) (hb : belowVs oB6 rs = true) (hi : i < k) (hc : rs[0 + i * 1]? = some (i32 (Int.ofNat c))) (hv : valid c) (hin : inS c a = false) (ho : out.length ≤ 80000000) (hk : k ≤ 1000000) :
    Trip P 50 (lp cF9 0) (E9 s0 a k i) (HO oB5 oB6 rs out g []) d0 (.nrm (E9 s0 a k (i + 1)) (HO oB5 oB6 rs (out ++ encB c) (g + 1) []) d0) :=
  trip_shed hF (by rfl) [(16, .e (.bool true)), (17, .u .undef), (18, .u (i32 (Int.ofNat c))), (22, .c (.ret (.tup [.str (encB c), i64 0]) (HO oB5 oB7 rs out g [(oB6, rb c)]) none)), (27, .c (.ret (.bool false) (HO oB5 oB7 rs out g [(oB6, rb c)]) none)),
      (30, .c (.ret (.tup [i64 (encB c).length, .nilIface]) (HO oB5 oB7 rs (out ++ encB c) (g + 1) [(oB6, rb c)]) none)), (48, .e (i64 (i + 1)))] oB6 ko5 [0, 1, 4, 5, 13, 14, 15]
    (ofK (b := AV.bool (ltI (Int.ofNat i) (Int.ofNat k)) = .bool true ∧ i < k ∧ (0 = 0 ∧ rs[0 + i * 1]? = some (i32 (Int.ofNat c))) ∧ CallI P kF17 [.slice oB6 0 0 1 1 1 true] (HO oB5 oB7 rs out g [(oB6, rb c)]) (.ret (.tup [.str (encB c), i64 0]) (HO oB5 oB7 rs out g [(oB6, rb c)]) none) ∧
        CallI P kF10 [i32 (Int.ofNat c), by8 a] (HO oB5 oB7 rs out g [(oB6, rb c)]) (.ret (.bool false) (HO oB5 oB7 rs out g [(oB6, rb c)]) none) ∧
        CallI P kF18 [.ptr oB2 0 0, .str (encB c)] (HO oB5 oB7 rs out g [(oB6, rb c)]) (.ret (.tup [i64 (encB c).length, .nilIface]) (HO oB5 oB7 rs (out ++ encB c) (g + 1) [(oB6, rb c)]) none) ∧
        AV.int .i64 (wrapF .i64 (Int.ofNat (i + 1))) = i64 (i + 1) ∧ (true = true ∧ true = true ∧ belowVs oB6 rs = true ∧ belowVs oB6 ((out ++ encB c).map u8) = true ∧ true = true ∧ true = true ∧ True) ∧
        XR.nrm (E9 s0 a k (i + 1)) (HO oB5 oB6 rs (out ++ encB c) (g + 1) []) d0 = .nrm (E9 s0 a k (i + 1)) (HO oB5 oB6 rs (out ++ encB c) (g + 1) []) d0) (by kernel_rfl)
      ⟨by rw [ltT hi], hi, ⟨rfl, hc⟩, ⟨encode1_T hv (g := 0) (fz := 0) (Nat.le_of_ble_eq_true (by kernel_rfl)) _ (by kernel_rfl)⟩, ⟨by rw [← hin]; exact in_T _⟩, ⟨ws_5_7 rs out (encB c) g _ (by omega) (encB_len c).1 (by have := (encB_len c).2; omega)⟩, by rw [wrapI64 (by omega)], ⟨rfl, rfl, hb, below8, rfl, rfl, trivial⟩, rfl⟩)
theorem so5c (out : List UInt8) (g i c : Nat) (hb : belowVs oB6 rs = true) (hb2 : belowVs oB8 rs = true) (hi : i < k) (hc : rs[0 + i * 1]? = some (i32 (Int.ofNat c))) (hv : valid c) (hin : inS c a = true) (ho : out.length ≤ 80000000) (hk : k ≤ 1000000) :
    Trip P 50 (lp cF9 0) (E9 s0 a k i) (HO oB5 oB6 rs out g []) d0 (.nrm (E9 s0 a k (i + 1)) (HO oB5 oB6 rs (out ++ (encB c).flatMap hexB) (g + 3 * (encB c).length) []) d0) := by
  have hl := li5_8 rs s0 (encB c) a k i (Int.ofNat c) hb2 (by have := (encB_len c).2; omega) (encB c).length 0 out g (by omega) (by have := (encB_len c).2; omega)
  rw [List.drop_zero] at hl
  exact trip_shed hF (by rfl) [(16, .e (.bool true)), (17, .u .undef), (18, .u (i32 (Int.ofNat c))), (22, .c (.ret (.tup [.str (encB c), i64 0]) (HO oB5 oB7 rs out g [(oB6, rb c)]) none)), (27, .c (.ret (.bool true) (HO oB5 oB7 rs out g [(oB6, rb c)]) none)),
      (99, .l [0, 1, 4, 5, 13, 14, 15, 32, 33, 34] (.exit 2 (Ei5_8 s0 (encB c) a k i (encB c).length) (Hi5_8 rs (encB c) (Int.ofNat c) (out ++ (encB c).flatMap hexB) (g + 3 * (encB c).length)) d0)), (48, .e (i64 (i + 1)))] oB6 ko5 [0, 1, 4, 5, 13, 14, 15]
    (ofK (b := AV.bool (ltI (Int.ofNat i) (Int.ofNat k)) = .bool true ∧ i < k ∧ (0 = 0 ∧ rs[0 + i * 1]? = some (i32 (Int.ofNat c))) ∧ CallI P kF17 [.slice oB6 0 0 1 1 1 true] (HO oB5 oB7 rs out g [(oB6, rb c)]) (.ret (.tup [.str (encB c), i64 0]) (HO oB5 oB7 rs out g [(oB6, rb c)]) none) ∧
        CallI P kF10 [i32 (Int.ofNat c), by8 a] (HO oB5 oB7 rs out g [(oB6, rb c)]) (.ret (.bool true) (HO oB5 oB7 rs out g [(oB6, rb c)]) none) ∧
        TripI P 50 (.loop (lp cF9 1)) (Ei5_8 s0 (encB c) a k i 0) (Hi5_8 rs (encB c) (Int.ofNat c) out g) d0 (.exit 2 (Ei5_8 s0 (encB c) a k i (encB c).length) (Hi5_8 rs (encB c) (Int.ofNat c) (out ++ (encB c).flatMap hexB) (g + 3 * (encB c).length)) d0) ∧
        AV.int .i64 (wrapF .i64 (Int.ofNat (i + 1))) = i64 (i + 1) ∧ (true = true ∧ true = true ∧ belowVs oB6 rs = true ∧ belowVs oB6 ((out ++ (encB c).flatMap hexB).map u8) = true ∧ true = true ∧ true = true ∧ True) ∧
        XR.nrm (E9 s0 a k (i + 1)) (HO oB5 oB6 rs (out ++ (encB c).flatMap hexB) (g + 3 * (encB c).length) []) d0 = .nrm (E9 s0 a k (i + 1)) (HO oB5 oB6 rs (out ++ (encB c).flatMap hexB) (g + 3 * (encB c).length) []) d0) (by kernel_rfl)
      ⟨by rw [ltT hi], hi, ⟨rfl, hc⟩, ⟨encode1_T hv (g := 0) (fz := 0) (Nat.le_of_ble_eq_true (by kernel_rfl)) _ (by kernel_rfl)⟩, ⟨by rw [← hin]; exact in_T _⟩, ⟨hl.trip⟩, by rw [wrapI64 (by omega)], ⟨rfl, rfl, hb, below8, rfl, rfl, trivial⟩, rfl⟩)

abbrev ko7 : Keep := [(oB2, some []), (oB3, some []), (oB7, some [])] ++ KT
theorem so7a (out : List UInt8) (g i : Nat) (hb : belowVs oB8 rs = true) (hi : ¬ i < k) : Trip P 50 (lp cF9 0) (E9 s0 a k i) (HO oB7 oB8 rs out g []) d0 (.exit 0 (E9 s0 a k i) (HO oB7 oB8 rs out g []) d0) :=
  trip_shed hF (by rfl) [(16, .e (.bool false))] oB8 ko7 [0, 1, 4, 5, 13, 14, 15]
    (ofK (b := AV.bool (ltI (Int.ofNat i) (Int.ofNat k)) = .bool false ∧ (true = true ∧ true = true ∧ belowVs oB8 rs = true ∧ belowVs oB8 (out.map u8) = true ∧ true = true ∧ true = true ∧ True) ∧ XR.exit 0 (E9 s0 a k i) (HO oB7 oB8 rs out g []) d0 = .exit 0 (E9 s0 a k i) (HO oB7 oB8 rs out g []) d0) (by kernel_rfl)
      ⟨by rw [ltF (by omega)], ⟨rfl, rfl, hb, below8, rfl, rfl, trivial⟩, rfl⟩)
theorem so7b (out : List UInt8) (g i c : Nat) (hb : belowVs oB8 rs = true) (hi : i < k) (hc : rs[0 + i * 1]? = some (i32 (Int.ofNat c))) (hv : valid c) (hin : inS c a = false) (ho : out.length ≤ 80000000) (hk : k ≤ 1000000) :
    Trip P 50 (lp cF9 0) (E9 s0 a k i) (HO oB7 oB8 rs out g []) d0 (.nrm (E9 s0 a k (i + 1)) (HO oB7 oB8 rs (out ++ encB c) (g + 1) []) d0) :=
  trip_shed hF (by rfl) [(16, .e (.bool true)), (17, .u .undef), (18, .u (i32 (Int.ofNat c))), (22, .c (.ret (.tup [.str (encB c), i64 0]) (HO oB7 oB9 rs out g [(oB8, rb c)]) none)), (27, .c (.ret (.bool false) (HO oB7 oB9 rs out g [(oB8, rb c)]) none)),
      (30, .c (.ret (.tup [i64 (encB c).length, .nilIface]) (HO oB7 oB9 rs (out ++ encB c) (g + 1) [(oB8, rb c)]) none)), (48, .e (i64 (i + 1)))] oB8 ko7 [0, 1, 4, 5, 13, 14, 15]
    (ofK (b := AV.bool (ltI (Int.ofNat i) (Int.ofNat k)) = .bool true ∧ i < k ∧ (0 = 0 ∧ rs[0 + i * 1]? = some (i32 (Int.ofNat c))) ∧ CallI P kF17 [.slice oB8 0 0 1 1 1 true] (HO oB7 oB9 rs out g [(oB8, rb c)]) (.ret (.tup [.str (encB c), i64 0]) (HO oB7 oB9 rs out g [(oB8, rb c)]) none) ∧
        CallI P kF10 [i32 (Int.ofNat c), by8 a] (HO oB7 oB9 rs out g [(oB8, rb c)]) (.ret (.bool false) (HO oB7 oB9 rs out g [(oB8, rb c)]) none) ∧
        CallI P kF18 [.ptr oB2 0 0, .str (encB c)] (HO oB7 oB9 rs out g [(oB8, rb c)]) (.ret (.tup [i64 (encB c).length, .nilIface]) (HO oB7 oB9 rs (out ++ encB c) (g + 1) [(oB8, rb c)]) none) ∧
        AV.int .i64 (wrapF .i64 (Int.ofNat (i + 1))) = i64 (i + 1) ∧ (true = true ∧ true = true ∧ belowVs oB8 rs = true ∧ belowVs oB8 ((out ++ encB c).map u8) = true ∧ true = true ∧ true = true ∧ True) ∧
        XR.nrm (E9 s0 a k (i + 1)) (HO oB7 oB8 rs (out ++ encB c) (g + 1) []) d0 = .nrm (E9 s0 a k (i + 1)) (HO oB7 oB8 rs (out ++ encB c) (g + 1) []) d0) (by kernel_rfl)
      ⟨by rw [ltT hi], hi, ⟨rfl, hc⟩, ⟨encode1_T hv (g := 0) (fz := 0) (Nat.le_of_ble_eq_true (by kernel_rfl)) _ (by kernel_rfl)⟩, ⟨by rw [← hin]; exact in_T _⟩, ⟨ws_7_9 rs out (encB c) g _ (by omega) (encB_len c).1 (by have := (encB_len c).2; omega)⟩, by rw [wrapI64 (by omega)], ⟨rfl, rfl, hb, below8, rfl, rfl, trivial⟩, rfl⟩)
theorem so7c (out : List UInt8) (g i c : Nat) (hb : belowVs oB8 rs = true) (hb2 : belowVs oB10 rs = true) (hi : i < k) (hc : rs[0 + i * 1]? = some (i32 (Int.ofNat c))) (hv : valid c) (hin : inS c a = true) (ho : out.length ≤ 80000000) (hk : k ≤ 1000000) :
    Trip P 50 (lp cF9 0) (E9 s0 a k i) (HO oB7 oB8 rs out g []) d0 (.nrm (E9 s0 a k (i + 1)) (HO oB7 oB8 rs (out ++ (encB c).flatMap hexB) (g + 3 * (encB c).length) []) d0) := by
  have hl := li7_10 rs s0 (encB c) a k i (Int.ofNat c) hb2 (by have := (encB_len c).2; omega) (encB c).length 0 out g (by omega) (by have := (encB_len c).2; omega)
  rw [List.drop_zero] at hl
  exact trip_shed hF (by rfl) [(16, .e (.bool true)), (17, .u .undef), (18, .u (i32 (Int.ofNat c))), (22, .c (.ret (.tup [.str (encB c), i64 0]) (HO oB7 oB9 rs out g [(oB8, rb c)]) none)), (27, .c (.ret (.bool true) (HO oB7 oB9 rs out g [(oB8, rb c)]) none)),
      (99, .l [0, 1, 4, 5, 13, 14, 15, 32, 33, 34] (.exit 2 (Ei7_10 s0 (encB c) a k i (encB c).length) (Hi7_10 rs (encB c) (Int.ofNat c) (out ++ (encB c).flatMap hexB) (g + 3 * (encB c).length)) d0)), (48, .e (i64 (i + 1)))] oB8 ko7 [0, 1, 4, 5, 13, 14, 15]
    (ofK (b := AV.bool (ltI (Int.ofNat i) (Int.ofNat k)) = .bool true ∧ i < k ∧ (0 = 0 ∧ rs[0 + i * 1]? = some (i32 (Int.ofNat c))) ∧ CallI P kF17 [.slice oB8 0 0 1 1 1 true] (HO oB7 oB9 rs out g [(oB8, rb c)]) (.ret (.tup [.str (encB c), i64 0]) (HO oB7 oB9 rs out g [(oB8, rb c)]) none) ∧
        CallI P kF10 [i32 (Int.ofNat c), by8 a] (HO oB7 oB9 rs out g [(oB8, rb c)]) (.ret (.bool true) (HO oB7 oB9 rs out g [(oB8, rb c)]) none) ∧
        TripI P 50 (.loop (lp cF9 1)) (Ei7_10 s0 (encB c) a k i 0) (Hi7_10 rs (encB c) (Int.ofNat c) out g) d0 (.exit 2 (Ei7_10 s0 (encB c) a k i (encB c).length) (Hi7_10 rs (encB c) (Int.ofNat c) (out ++ (encB c).flatMap hexB) (g + 3 * (encB c).length)) d0) ∧
        AV.int .i64 (wrapF .i64 (Int.ofNat (i + 1))) = i64 (i + 1) ∧ (true = true ∧ true = true ∧ belowVs oB8 rs = true ∧ belowVs oB8 ((out ++ (encB c).flatMap hexB).map u8) = true ∧ true = true ∧ true = true ∧ True) ∧
        XR.nrm (E9 s0 a k (i + 1)) (HO oB7 oB8 rs (out ++ (encB c).flatMap hexB) (g + 3 * (encB c).length) []) d0 = .nrm (E9 s0 a k (i + 1)) (HO oB7 oB8 rs (out ++ (encB c).flatMap hexB) (g + 3 * (encB c).length) []) d0) (by kernel_rfl)
      ⟨by rw [ltT hi], hi, ⟨rfl, hc⟩, ⟨encode1_T hv (g := 0) (fz := 0) (Nat.le_of_ble_eq_true (by kernel_rfl)) _ (by kernel_rfl)⟩, ⟨by rw [← hin]; exact in_T _⟩, ⟨hl.trip⟩, by rw [wrapI64 (by omega)], ⟨rfl, rfl, hb, below8, rfl, rfl, trivial⟩, rfl⟩)

theorem sn_a (i : Nat) (hb : belowVs oB4 rs = true) (hi : ¬ i < k) : Trip P 50 (lp cF9 0) (E9 s0 a k i) (HN oB4 rs []) d0 (.exit 0 (E9 s0 a k i) (HN oB4 rs []) d0) :=
  trip_shed hF (by rfl) [(16, .e (.bool false))] oB4 ([(oB2, some []), (oB3, some [])] ++ KT) [0, 1, 4, 5, 13, 14, 15]
    (ofK (b := AV.bool (ltI (Int.ofNat i) (Int.ofNat k)) = .bool false ∧ (true = true ∧ true = true ∧ belowVs oB4 rs = true ∧ true = true ∧ true = true ∧ True) ∧ XR.exit 0 (E9 s0 a k i) (HN oB4 rs []) d0 = .exit 0 (E9 s0 a k i) (HN oB4 rs []) d0) (by kernel_rfl)
      ⟨by rw [ltF (by omega)], ⟨rfl, rfl, hb, rfl, rfl, trivial⟩, rfl⟩)
theorem sn_b (i c : Nat) (hb : belowVs oB6 rs = true) (hi : i < k) (hc : rs[0 + i * 1]? = some (i32 (Int.ofNat c))) (hv : valid c) (hin : inS c a = false) (hk : k ≤ 1000000) :
    Trip P 50 (lp cF9 0) (E9 s0 a k i) (HN oB4 rs []) d0 (.nrm (E9 s0 a k (i + 1)) (HO oB5 oB6 rs (encB c) 0 []) d0) :=
  trip_shed hF (by rfl) [(16, .e (.bool true)), (17, .u .undef), (18, .u (i32 (Int.ofNat c))), (22, .c (.ret (.tup [.str (encB c), i64 0]) (HN oB5 rs [(oB4, rb c)]) none)), (27, .c (.ret (.bool false) (HN oB5 rs [(oB4, rb c)]) none)),
      (30, .c (.ret (.tup [i64 (encB c).length, .nilIface]) (HO oB5 oB6 rs (encB c) 0 [(oB4, rb c)]) none)), (48, .e (i64 (i + 1)))] oB6 ko5 [0, 1, 4, 5, 13, 14, 15]
    (ofK (b := AV.bool (ltI (Int.ofNat i) (Int.ofNat k)) = .bool true ∧ i < k ∧ (0 = 0 ∧ rs[0 + i * 1]? = some (i32 (Int.ofNat c))) ∧ CallI P kF17 [.slice oB4 0 0 1 1 1 true] (HN oB5 rs [(oB4, rb c)]) (.ret (.tup [.str (encB c), i64 0]) (HN oB5 rs [(oB4, rb c)]) none) ∧
        CallI P kF10 [i32 (Int.ofNat c), by8 a] (HN oB5 rs [(oB4, rb c)]) (.ret (.bool false) (HN oB5 rs [(oB4, rb c)]) none) ∧
        CallI P kF18 [.ptr oB2 0 0, .str (encB c)] (HN oB5 rs [(oB4, rb c)]) (.ret (.tup [i64 (encB c).length, .nilIface]) (HO oB5 oB6 rs (encB c) 0 [(oB4, rb c)]) none) ∧
        AV.int .i64 (wrapF .i64 (Int.ofNat (i + 1))) = i64 (i + 1) ∧ (true = true ∧ true = true ∧ belowVs oB6 rs = true ∧ belowVs oB6 ((encB c).map u8) = true ∧ true = true ∧ true = true ∧ True) ∧
        XR.nrm (E9 s0 a k (i + 1)) (HO oB5 oB6 rs (encB c) 0 []) d0 = .nrm (E9 s0 a k (i + 1)) (HO oB5 oB6 rs (encB c) 0 []) d0) (by kernel_rfl)
      ⟨by rw [ltT hi], hi, ⟨rfl, hc⟩, ⟨encode1_T hv (g := 0) (fz := 0) (Nat.le_of_ble_eq_true (by kernel_rfl)) _ (by kernel_rfl)⟩, ⟨by rw [← hin]; exact in_T _⟩, ⟨ws_nil rs (encB c) _ (encB_len c).1 (by have := (encB_len c).2; omega)⟩, by rw [wrapI64 (by omega)], ⟨rfl, rfl, hb, below8, rfl, rfl, trivial⟩, rfl⟩)
theorem si0 (bl : List UInt8) (i : Nat) (r : Int) (hb : belowVs oB8 rs = true) (hj : 0 < bl.length) (b : UInt8) (hbj : b = bl.getD 0 0) : Trip P 50 (lp cF9 1) (Ei7_8 s0 bl a k i 0) (HN oB6 rs [(oB4, .cells [i32 r] tY21 0 0 false), (oB5, bb bl)]) d0
    (.nrm (Ei7_8 s0 bl a k i 1) (Hi7_8 rs bl r (sn (sn [37] (digs.getD (b.toNat / 16) 0)) (digs.getD (b.toNat % 16) 0)) (0 + 1 + 1)) d0) :=
  trip_shed hF (by rfl) [(35, .e (.bool true)), (36, .u .undef), (37, .u (u8 b)), (38, .c (.ret .nilIface (HO oB7 oB8 rs [37] 0 [(oB4, .cells [i32 r] tY21 0 0 false), (oB5, bb bl), (oB6, .cells [u8 37] tY5 0 0 false)]) none)), (40, .e (by8 (b.toNat / 16))), (41, .u .undef),
      (42, .c (.ret .nilIface (HO oB7 oB9 rs (sn [37] (digs.getD (b.toNat / 16) 0)) (0 + 1) [(oB4, .cells [i32 r] tY21 0 0 false), (oB5, bb bl), (oB6, .cells [u8 37] tY5 0 0 false), (oB8, .cells [u8 (digs.getD (b.toNat / 16) 0)] tY5 0 0 false)]) none)), (44, .e (by8 (b.toNat % 16))), (45, .u .undef),
      (46, .c (.ret .nilIface (HO oB7 oB10 rs (sn (sn [37] (digs.getD (b.toNat / 16) 0)) (digs.getD (b.toNat % 16) 0)) (0 + 1 + 1) [(oB4, .cells [i32 r] tY21 0 0 false), (oB5, bb bl), (oB6, .cells [u8 37] tY5 0 0 false), (oB8, .cells [u8 (digs.getD (b.toNat / 16) 0)] tY5 0 0 false), (oB9, .cells [u8 (digs.getD (b.toNat % 16) 0)] tY5 0 0 false)]) none))] oB8 ki7_8 [0, 1, 4, 5, 13, 14, 15, 32, 33, 34]
    (ofK (b := AV.bool (ltI (Int.ofNat 0) (Int.ofNat bl.length)) = .bool true ∧ 0 < bl.length ∧ (0 = 0 ∧ (bl.map u8)[0 + 0 * 1]? = some (u8 b)) ∧ CallI P kF19 [.ptr oB2 0 0, u8 37] (HN oB6 rs [(oB4, .cells [i32 r] tY21 0 0 false), (oB5, bb bl)]) (.ret .nilIface (HO oB7 oB8 rs [37] 0 [(oB4, .cells [i32 r] tY21 0 0 false), (oB5, bb bl), (oB6, .cells [u8 37] tY5 0 0 false)]) none) ∧
        by8 (b.toNat / 2 ^ 4) = by8 (b.toNat / 16) ∧ b.toNat / 16 < digs.length ∧ CallI P kF19 [.ptr oB2 0 0, u8 (digs.getD (b.toNat / 16) 0)] (HO oB7 oB8 rs [37] 0 [(oB4, .cells [i32 r] tY21 0 0 false), (oB5, bb bl), (oB6, .cells [u8 37] tY5 0 0 false)])
          (.ret .nilIface (HO oB7 oB9 rs (sn [37] (digs.getD (b.toNat / 16) 0)) (0 + 1) [(oB4, .cells [i32 r] tY21 0 0 false), (oB5, bb bl), (oB6, .cells [u8 37] tY5 0 0 false), (oB8, .cells [u8 (digs.getD (b.toNat / 16) 0)] tY5 0 0 false)]) none) ∧
        AV.int .u8 (andI .u8 (Int.ofNat b.toNat) (Int.ofNat 15)) = by8 (b.toNat % 16) ∧ b.toNat % 16 < digs.length ∧ CallI P kF19 [.ptr oB2 0 0, u8 (digs.getD (b.toNat % 16) 0)] (HO oB7 oB9 rs (sn [37] (digs.getD (b.toNat / 16) 0)) (0 + 1) [(oB4, .cells [i32 r] tY21 0 0 false), (oB5, bb bl), (oB6, .cells [u8 37] tY5 0 0 false), (oB8, .cells [u8 (digs.getD (b.toNat / 16) 0)] tY5 0 0 false)])
          (.ret .nilIface (HO oB7 oB10 rs (sn (sn [37] (digs.getD (b.toNat / 16) 0)) (digs.getD (b.toNat % 16) 0)) (0 + 1 + 1) [(oB4, .cells [i32 r] tY21 0 0 false), (oB5, bb bl), (oB6, .cells [u8 37] tY5 0 0 false), (oB8, .cells [u8 (digs.getD (b.toNat / 16) 0)] tY5 0 0 false), (oB9, .cells [u8 (digs.getD (b.toNat % 16) 0)] tY5 0 0 false)]) none) ∧
        (true = true ∧ true = true ∧ belowVs oB8 rs = true ∧ belowVs oB8 ((sn (sn [37] (digs.getD (b.toNat / 16) 0)) (digs.getD (b.toNat % 16) 0)).map u8) = true ∧ true = true ∧ belowVs oB8 (bl.map u8) = true ∧ true = true ∧ true = true ∧ True) ∧
        XR.nrm (Ei7_8 s0 bl a k i 1) (Hi7_8 rs bl r (sn (sn [37] (digs.getD (b.toNat / 16) 0)) (digs.getD (b.toNat % 16) 0)) (0 + 1 + 1)) d0 = .nrm (Ei7_8 s0 bl a k i 1) (Hi7_8 rs bl r (sn (sn [37] (digs.getD (b.toNat / 16) 0)) (digs.getD (b.toNat % 16) 0)) (0 + 1 + 1)) d0) (by kernel_rfl)
      ⟨by rw [ltT hj], hj, ⟨rfl, by rw [hbj]; exact cell8 hj⟩, ⟨wb_nil rs 37 _ _⟩, shr4 b, (by have := bt b; show b.toNat / 16 < 16; omega), ⟨wb_7_8_4_5_6 rs _ _ _ _ _ _ (by simp)⟩, by rw [and15'], (by show b.toNat % 16 < 16; omega), ⟨wb_7_9_4_5_6_8 rs _ _ _ _ _ _ _ (by simp)⟩, ⟨rfl, rfl, hb, below8, rfl, below8, rfl, rfl, trivial⟩, rfl⟩)
theorem sn_c (i c : Nat) (hb : belowVs oB8 rs = true) (hi : i < k) (hc : rs[0 + i * 1]? = some (i32 (Int.ofNat c))) (hv : valid c) (hin : inS c a = true) (hk : k ≤ 1000000) :
    Trip P 50 (lp cF9 0) (E9 s0 a k i) (HN oB4 rs []) d0 (.nrm (E9 s0 a k (i + 1)) (HO oB7 oB8 rs ((encB c).flatMap hexB) (3 * (encB c).length - 1) []) d0) := by
  have hlen := encB_len c
  have hd : encB c = (encB c).getD 0 0 :: (encB c).drop 1 := by
    cases e : encB c with
    | nil => rw [e] at hlen; simp at hlen
    | cons b t => rfl
  have hl := li7_8 rs s0 (encB c) a k i (Int.ofNat c) hb (by omega) ((encB c).length - 1) 1 (sn (sn [37] (digs.getD (((encB c).getD 0 0).toNat / 16) 0)) (digs.getD (((encB c).getD 0 0).toNat % 16) 0)) (0 + 1 + 1) (by omega) (by simp; omega)
  have e1 : sn (sn [37] (digs.getD (((encB c).getD 0 0).toNat / 16) 0)) (digs.getD (((encB c).getD 0 0).toNat % 16) 0) ++ ((encB c).drop 1).flatMap hexB = (encB c).flatMap hexB := by
    conv => rhs; rw [hd, List.flatMap_cons]
    simp only [sn, hexB, List.append_assoc, List.cons_append, List.nil_append]
  have e2 : 0 + 1 + 1 + 3 * ((encB c).length - 1) = 3 * (encB c).length - 1 := by omega
  rw [e1, e2] at hl
  have hT := (TripL.next (si0 rs s0 a k (encB c) i (Int.ofNat c) hb (by omega) _ rfl) hl).trip
  exact trip_shed hF (by rfl) [(16, .e (.bool true)), (17, .u .undef), (18, .u (i32 (Int.ofNat c))), (22, .c (.ret (.tup [.str (encB c), i64 0]) (HN oB5 rs [(oB4, rb c)]) none)), (27, .c (.ret (.bool true) (HN oB5 rs [(oB4, rb c)]) none)),
      (99, .l [0, 1, 4, 5, 13, 14, 15, 32, 33, 34] (.exit 2 (Ei7_8 s0 (encB c) a k i (encB c).length) (Hi7_8 rs (encB c) (Int.ofNat c) ((encB c).flatMap hexB) (3 * (encB c).length - 1)) d0)), (48, .e (i64 (i + 1)))] oB8 ko7 [0, 1, 4, 5, 13, 14, 15]
    (ofK (b := AV.bool (ltI (Int.ofNat i) (Int.ofNat k)) = .bool true ∧ i < k ∧ (0 = 0 ∧ rs[0 + i * 1]? = some (i32 (Int.ofNat c))) ∧ CallI P kF17 [.slice oB4 0 0 1 1 1 true] (HN oB5 rs [(oB4, rb c)]) (.ret (.tup [.str (encB c), i64 0]) (HN oB5 rs [(oB4, rb c)]) none) ∧
        CallI P kF10 [i32 (Int.ofNat c), by8 a] (HN oB5 rs [(oB4, rb c)]) (.ret (.bool true) (HN oB5 rs [(oB4, rb c)]) none) ∧
        TripI P 50 (.loop (lp cF9 1)) (Ei7_8 s0 (encB c) a k i 0) (HN oB6 rs [(oB4, rb c), (oB5, bb (encB c))]) d0 (.exit 2 (Ei7_8 s0 (encB c) a k i (encB c).length) (Hi7_8 rs (encB c) (Int.ofNat c) ((encB c).flatMap hexB) (3 * (encB c).length - 1)) d0) ∧
        AV.int .i64 (wrapF .i64 (Int.ofNat (i + 1))) = i64 (i + 1) ∧ (true = true ∧ true = true ∧ belowVs oB8 rs = true ∧ belowVs oB8 (((encB c).flatMap hexB).map u8) = true ∧ true = true ∧ true = true ∧ True) ∧
        XR.nrm (E9 s0 a k (i + 1)) (HO oB7 oB8 rs ((encB c).flatMap hexB) (3 * (encB c).length - 1) []) d0 = .nrm (E9 s0 a k (i + 1)) (HO oB7 oB8 rs ((encB c).flatMap hexB) (3 * (encB c).length - 1) []) d0) (by kernel_rfl)
      ⟨by rw [ltT hi], hi, ⟨rfl, hc⟩, ⟨encode1_T hv (g := 0) (fz := 0) (Nat.le_of_ble_eq_true (by kernel_rfl)) _ (by kernel_rfl)⟩, ⟨by rw [← hin]; exact in_T _⟩, ⟨hT⟩, by rw [wrapI64 (by omega)], ⟨rfl, rfl, hb, below8, rfl, rfl, trivial⟩, rfl⟩)

end
end Go.Proofs.YtbdpfpjpmilpbaaGreatDoor

namespace Go.Proofs.YtbdpfpjpmilpbaaGreatDoor
open Go Go.Rk
set_option maxRecDepth 1000000
set_option linter.unusedVariables false
set_option linter.unusedSimpArgs false
set_option linter.constructorNameAsVariable false
set_option linter.unusedSectionVars false
/-! the scalars that are read may be -/
theorem whole_valid {s : List UInt8} {n : Nat} (h : Whole s n) : valid (valOf (s.take n)) := by
  cases h with
  | one h0 => exact .inl (show _ < 55296 by simp [valOf]; omega)
  | two h1 h2 h3 h4 => refine .inl ?_; simp only [List.take_succ_cons, List.take_zero, valOf, r2]; omega
  | three h1 h2 h3 h4 h5 h6 =>
    rename_i b0 b1 b2 t
    simp only [List.take_succ_cons, List.take_zero, valOf, r3, valid]
    by_cases e1 : b0.toNat = 224
    · omega
    · rw [if_neg e1] at h3
      by_cases e2 : b0.toNat = 237
      · rw [if_pos e2] at h4; omega
      · rw [if_neg e2] at h4; omega
  | four h1 h2 h3 h4 h5 h6 h7 h8 =>
    rename_i b0 b1 b2 b3 t
    simp only [List.take_succ_cons, List.take_zero, valOf, r4, valid]
    by_cases e1 : b0.toNat = 240
    · rw [if_pos e1] at h3; rw [if_neg (by omega)] at h4; omega
    · rw [if_neg e1] at h3
      by_cases e2 : b0.toNat = 244
      · rw [if_pos e2] at h4; omega
      · omega
theorem nxt_cases (b : UInt8) (t : List UInt8) : (∃ n, Whole (b :: t) n ∧ nxt (b :: t) = (valOf ((b :: t).take n), n, true)) ∨ (∃ n, nxt (b :: t) = (65533, n, false) ∧ n ≠ (roomN b.toNat).2.2) := by
  have hw := whole_of (b0 := b) (t := t)
  unfold nxt
  simp only []
  cases e : Nat.beq (contN (b :: t) (roomN b.toNat).2.2 4 (roomN b.toNat).1 (roomN b.toNat).2.1 1) (roomN b.toNat).2.2 with
  | true => exact .inl ⟨_, hw (Nat.eq_of_beq_eq_true e), rfl⟩
  | false => exact .inr ⟨_, rfl, fun h => by rw [h] at e; simp at e⟩
theorem nxt_valid (b : UInt8) (t : List UInt8) : valid (nxt (b :: t)).1 := by
  rcases nxt_cases b t with ⟨n, h1, h2⟩ | ⟨n, h2, _⟩
  · rw [h2]; exact whole_valid h1
  · rw [h2]; exact .inr ⟨by show 57343 < 65533; omega, by show 65533 ≤ 1114111; omega⟩
theorem decF_valid : ∀ {f : Nat} {s : List UInt8}, ∀ c ∈ decF f s, valid c
  | 0, _, c, h => by simp [decF] at h
  | f + 1, [], c, h => by simp [decF] at h
  | f + 1, b :: t, c, h => by
    rw [decF] at h
    rcases List.mem_cons.1 h with h1 | h1
    · rw [h1]; exact nxt_valid b t
    · exact decF_valid c h1
theorem decF_len : ∀ {f : Nat} {s : List UInt8}, (decF f s).length ≤ f
  | 0, _ => Nat.le_refl _
  | f + 1, [] => Nat.zero_le _
  | f + 1, b :: t => by rw [decF, List.length_cons]; exact Nat.succ_le_succ decF_len
/-- one scalar, told by a set -/
def one (a c : Nat) : List UInt8 := bif inS c a then (encB c).flatMap hexB else encB c
/-- P9.2 -/
def encS (s : List UInt8) (a : Nat) : List UInt8 := (decL s).flatMap (one a)
theorem flat_len : ∀ (l : List UInt8), (l.flatMap hexB).length = 3 * l.length
  | [] => rfl
  | b :: t => by rw [List.flatMap_cons, List.length_append, flat_len t]; simp [hexB]; omega
theorem one_len (a c : Nat) : 1 ≤ (one a c).length ∧ (one a c).length ≤ 12 := by
  have := encB_len c
  unfold one
  cases inS c a with
  | true => rw [cond_true, flat_len]; omega
  | false => rw [cond_false]; omega
section
variable (s0 : List UInt8) (a : Nat)
theorem rune_at {l : List Nat} {i : Nat} (hi : i < l.length) : (runeV l)[0 + i * 1]? = some (i32 (Int.ofNat (l.getD i 0))) := by simp [runeV, hi]
theorem runeV_len (l : List Nat) : (runeV l).length = l.length := by simp [runeV]
theorem getD_mem {l : List Nat} {i : Nat} (h : i < l.length) : l.getD i 0 ∈ l := by
  rw [List.getD_eq_getElem?_getD, List.getElem?_eq_getElem h]
  exact List.getElem_mem h
theorem drop_at {l : List Nat} {i : Nat} (hi : i < l.length) : l.drop i = l.getD i 0 :: l.drop (i + 1) := by
  rw [List.drop_eq_getElem_cons hi]; simp [hi]

theorem lo5 (l : List Nat) (hl : l.length ≤ 1000000) (hv : ∀ c ∈ l, valid c) : ∀ (m i : Nat) (out : List UInt8) (g : Nat), l.length = i + m → out.length + 12 * m ≤ 80000000 →
    ∃ g', TripL P 50 (lp cF9 0) (E9 s0 a l.length i) (HO oB5 oB6 (runeV l) out g []) d0 (.exit 0 (E9 s0 a l.length l.length) (HO oB5 oB6 (runeV l) (out ++ (l.drop i).flatMap (one a)) g' []) d0)
  | 0, i, out, g, hi, ho => by
    have e : i = l.length := by omega
    subst e
    have : out ++ (l.drop l.length).flatMap (one a) = out := by simp
    rw [this]
    exact ⟨g, TripL.stop rfl (so5a (runeV l) s0 a l.length out g l.length runeV_below (by omega))⟩
  | m + 1, i, out, g, hi, ho => by
    have hlt : i < l.length := by omega
    have hd := drop_at hlt
    have hvc : valid (l.getD i 0) := hv _ (getD_mem hlt)
    have hol := one_len a (l.getD i 0)
    cases hin : inS (l.getD i 0) a with
    | true =>
      have h1 : one a (l.getD i 0) = (encB (l.getD i 0)).flatMap hexB := by unfold one; rw [hin]; rfl
      obtain ⟨g', ih⟩ := lo5 l hl hv m (i + 1) (out ++ (encB (l.getD i 0)).flatMap hexB) (g + 3 * (encB (l.getD i 0)).length) (by omega) (by rw [← h1]; simp only [List.length_append]; omega)
      refine ⟨g', ?_⟩
      rw [hd, List.flatMap_cons, h1, ← List.append_assoc]
      exact TripL.next (so5c (runeV l) s0 a l.length out g i (l.getD i 0) runeV_below runeV_below hlt (rune_at hlt) hvc hin (by omega) hl) ih
    | false =>
      have h1 : one a (l.getD i 0) = encB (l.getD i 0) := by unfold one; rw [hin]; rfl
      obtain ⟨g', ih⟩ := lo5 l hl hv m (i + 1) (out ++ encB (l.getD i 0)) (g + 1) (by omega) (by rw [← h1]; simp only [List.length_append]; omega)
      refine ⟨g', ?_⟩
      rw [hd, List.flatMap_cons, h1, ← List.append_assoc]
      exact TripL.next (so5b (runeV l) s0 a l.length out g i (l.getD i 0) runeV_below hlt (rune_at hlt) hvc hin (by omega) hl) ih
theorem str5 (rs : List AV) (x : UInt8) (o : List UInt8) (g : Nat) (hl : (x :: o).length ≤ 100000000) : CallT P kF20 [.ptr oB2 0 0] (HO oB5 oB6 rs (x :: o) g []) (.ret (.str (x :: o)) (heapOf oB7 ((oB2, .cells [.ptr oB2 0 0, .slice oB5 g 0 (x :: o).length (x :: o).length 1 false] tY40 0 0 false) :: (oB3, .cells rs tY21 0 0 false) :: (oB5, .cells ((x :: o).map u8) tY5 g (0 + (x :: o).length) false) :: tabs)) none) :=
  callT_hC hF [(13, .u (.str (x :: o)))] dF20 (c := bodyOf cF20) (by kernel_rfl) (by kernel_rfl) (by kernel_rfl) (by kernel_rfl)
    (ofK (b := (beqV (.slice oB5 g 0 (x :: o).length (x :: o).length 1 false) (.slice oB5 g 0 (x :: o).length (x :: o).length 1 false) && true) = true ∧ (g = g ∧ 0 < (x :: o).length ∧ 0 + (x :: o).length ≤ ((x :: o).map u8).length ∧ false = false ∧ tY5 = tY5 ∧ (x :: o).length ≤ 9223372036854775807 ∧ 0 ≤ ((x :: o).map u8).length ∧ takeN ((x :: o).map u8) 0 (x :: o).length = (x :: o).map u8) ∧
        CR.ret (.str (x :: o)) (heapOf oB7 ((oB2, .cells [.ptr oB2 0 0, .slice oB5 g 0 (x :: o).length (x :: o).length 1 false] tY40 0 0 false) :: (oB3, .cells rs tY21 0 0 false) :: (oB5, .cells ((x :: o).map u8) tY5 g (0 + (x :: o).length) false) :: tabs)) none
         = .ret (.str (x :: o)) (heapOf oB7 ((oB2, .cells [.ptr oB2 0 0, .slice oB5 g 0 (x :: o).length (x :: o).length 1 false] tY40 0 0 false) :: (oB3, .cells rs tY21 0 0 false) :: (oB5, .cells ((x :: o).map u8) tY5 g (0 + (x :: o).length) false) :: tabs)) none) (by kernel_rfl)
      ⟨by simp [beqV], ⟨rfl, by simp, by simp, rfl, rfl, by omega, Nat.zero_le _, by unfold takeN; rw [List.drop_zero]; exact List.take_of_length_le (by simp)⟩, rfl⟩)
theorem enc5 (b : UInt8) (t : List UInt8) (hlen : (b :: t).length ≤ 1000000) (x : UInt8) (o : List UInt8) (g : Nat) (hx : encS (b :: t) a = x :: o)
    (hT : TripL P 50 (lp cF9 0) (E9 (b :: t) a (decL (b :: t)).length 0) (HN oB4 (runeV (decL (b :: t))) []) d0 (.exit 0 (E9 (b :: t) a (decL (b :: t)).length (decL (b :: t)).length) (HO oB5 oB6 (runeV (decL (b :: t))) (x :: o) g []) d0)) (hol : (x :: o).length ≤ 100000000) (h : Heap) :
    CallT P kF9 [.str (b :: t), by8 a] h (.ret (.str (encS (b :: t) a)) h none) := by
  rw [hx]
  have hdec := decode_T b t hlen (heapOf oB3 ((oB2, .cells [.nilp, .slice0] tY40 0 0 false) :: tabs))
  have e : (heapOf oB3 ((oB2, .cells [.nilp, .slice0] tY40 0 0 false) :: tabs)).new (.cells (runeV (decL (b :: t))) tY21 0 0 false) = HN oB4 (runeV (decL (b :: t))) [] := by kernel_rfl
  rw [e] at hdec
  exact pure_hC tabOK hF (by rfl) (by rfl) [(13, .c (.ret (.slice oB3 0 0 (decL (b :: t)).length (decL (b :: t)).length 1 false) (HN oB4 (runeV (decL (b :: t))) []) none)), (99, .l [0, 1, 4, 5, 13, 14, 15] (.exit 0 (E9 (b :: t) a (decL (b :: t)).length (decL (b :: t)).length) (HO oB5 oB6 (runeV (decL (b :: t))) (x :: o) g []) d0)),
      (49, .c (.ret (.str (x :: o)) (heapOf oB7 ((oB2, .cells [.ptr oB2 0 0, .slice oB5 g 0 (x :: o).length (x :: o).length 1 false] tY40 0 0 false) :: (oB3, .cells (runeV (decL (b :: t))) tY21 0 0 false) :: (oB5, .cells ((x :: o).map u8) tY5 g (0 + (x :: o).length) false) :: tabs)) none))] dF9 (by kernel_rfl)
    (ofK (b := CallI P kF16 [.str (b :: t)] (heapOf oB3 ((oB2, .cells [.nilp, .slice0] tY40 0 0 false) :: tabs)) (.ret (.slice oB3 0 0 (decL (b :: t)).length (decL (b :: t)).length 1 false) (HN oB4 (runeV (decL (b :: t))) []) none) ∧
        TripI P 50 (.loop (lp cF9 0)) (E9 (b :: t) a (decL (b :: t)).length 0) (HN oB4 (runeV (decL (b :: t))) []) d0 (.exit 0 (E9 (b :: t) a (decL (b :: t)).length (decL (b :: t)).length) (HO oB5 oB6 (runeV (decL (b :: t))) (x :: o) g []) d0) ∧
        CallI P kF20 [.ptr oB2 0 0] (HO oB5 oB6 (runeV (decL (b :: t))) (x :: o) g []) (.ret (.str (x :: o)) (heapOf oB7 ((oB2, .cells [.ptr oB2 0 0, .slice oB5 g 0 (x :: o).length (x :: o).length 1 false] tY40 0 0 false) :: (oB3, .cells (runeV (decL (b :: t))) tY21 0 0 false) :: (oB5, .cells ((x :: o).map u8) tY5 g (0 + (x :: o).length) false) :: tabs)) none) ∧
        AV.str (x :: o) = .str (x :: o)) (by kernel_rfl)
      ⟨⟨hdec⟩, ⟨hT.trip⟩, ⟨str5 _ x o g hol⟩, rfl⟩) h

theorem lo7 (l : List Nat) (hl : l.length ≤ 1000000) (hv : ∀ c ∈ l, valid c) : ∀ (m i : Nat) (out : List UInt8) (g : Nat), l.length = i + m → out.length + 12 * m ≤ 80000000 →
    ∃ g', TripL P 50 (lp cF9 0) (E9 s0 a l.length i) (HO oB7 oB8 (runeV l) out g []) d0 (.exit 0 (E9 s0 a l.length l.length) (HO oB7 oB8 (runeV l) (out ++ (l.drop i).flatMap (one a)) g' []) d0)
  | 0, i, out, g, hi, ho => by
    have e : i = l.length := by omega
    subst e
    have : out ++ (l.drop l.length).flatMap (one a) = out := by simp
    rw [this]
    exact ⟨g, TripL.stop rfl (so7a (runeV l) s0 a l.length out g l.length runeV_below (by omega))⟩
  | m + 1, i, out, g, hi, ho => by
    have hlt : i < l.length := by omega
    have hd := drop_at hlt
    have hvc : valid (l.getD i 0) := hv _ (getD_mem hlt)
    have hol := one_len a (l.getD i 0)
    cases hin : inS (l.getD i 0) a with
    | true =>
      have h1 : one a (l.getD i 0) = (encB (l.getD i 0)).flatMap hexB := by unfold one; rw [hin]; rfl
      obtain ⟨g', ih⟩ := lo7 l hl hv m (i + 1) (out ++ (encB (l.getD i 0)).flatMap hexB) (g + 3 * (encB (l.getD i 0)).length) (by omega) (by rw [← h1]; simp only [List.length_append]; omega)
      refine ⟨g', ?_⟩
      rw [hd, List.flatMap_cons, h1, ← List.append_assoc]
      exact TripL.next (so7c (runeV l) s0 a l.length out g i (l.getD i 0) runeV_below runeV_below hlt (rune_at hlt) hvc hin (by omega) hl) ih
    | false =>
      have h1 : one a (l.getD i 0) = encB (l.getD i 0) := by unfold one; rw [hin]; rfl
      obtain ⟨g', ih⟩ := lo7 l hl hv m (i + 1) (out ++ encB (l.getD i 0)) (g + 1) (by omega) (by rw [← h1]; simp only [List.length_append]; omega)
      refine ⟨g', ?_⟩
      rw [hd, List.flatMap_cons, h1, ← List.append_assoc]
      exact TripL.next (so7b (runeV l) s0 a l.length out g i (l.getD i 0) runeV_below hlt (rune_at hlt) hvc hin (by omega) hl) ih
theorem str7 (rs : List AV) (x : UInt8) (o : List UInt8) (g : Nat) (hl : (x :: o).length ≤ 100000000) : CallT P kF20 [.ptr oB2 0 0] (HO oB7 oB8 rs (x :: o) g []) (.ret (.str (x :: o)) (heapOf oB9 ((oB2, .cells [.ptr oB2 0 0, .slice oB7 g 0 (x :: o).length (x :: o).length 1 false] tY40 0 0 false) :: (oB3, .cells rs tY21 0 0 false) :: (oB7, .cells ((x :: o).map u8) tY5 g (0 + (x :: o).length) false) :: tabs)) none) :=
  callT_hC hF [(13, .u (.str (x :: o)))] dF20 (c := bodyOf cF20) (by kernel_rfl) (by kernel_rfl) (by kernel_rfl) (by kernel_rfl)
    (ofK (b := (beqV (.slice oB7 g 0 (x :: o).length (x :: o).length 1 false) (.slice oB7 g 0 (x :: o).length (x :: o).length 1 false) && true) = true ∧ (g = g ∧ 0 < (x :: o).length ∧ 0 + (x :: o).length ≤ ((x :: o).map u8).length ∧ false = false ∧ tY5 = tY5 ∧ (x :: o).length ≤ 9223372036854775807 ∧ 0 ≤ ((x :: o).map u8).length ∧ takeN ((x :: o).map u8) 0 (x :: o).length = (x :: o).map u8) ∧
        CR.ret (.str (x :: o)) (heapOf oB9 ((oB2, .cells [.ptr oB2 0 0, .slice oB7 g 0 (x :: o).length (x :: o).length 1 false] tY40 0 0 false) :: (oB3, .cells rs tY21 0 0 false) :: (oB7, .cells ((x :: o).map u8) tY5 g (0 + (x :: o).length) false) :: tabs)) none
         = .ret (.str (x :: o)) (heapOf oB9 ((oB2, .cells [.ptr oB2 0 0, .slice oB7 g 0 (x :: o).length (x :: o).length 1 false] tY40 0 0 false) :: (oB3, .cells rs tY21 0 0 false) :: (oB7, .cells ((x :: o).map u8) tY5 g (0 + (x :: o).length) false) :: tabs)) none) (by kernel_rfl)
      ⟨by simp [beqV], ⟨rfl, by simp, by simp, rfl, rfl, by omega, Nat.zero_le _, by unfold takeN; rw [List.drop_zero]; exact List.take_of_length_le (by simp)⟩, rfl⟩)
theorem enc7 (b : UInt8) (t : List UInt8) (hlen : (b :: t).length ≤ 1000000) (x : UInt8) (o : List UInt8) (g : Nat) (hx : encS (b :: t) a = x :: o)
    (hT : TripL P 50 (lp cF9 0) (E9 (b :: t) a (decL (b :: t)).length 0) (HN oB4 (runeV (decL (b :: t))) []) d0 (.exit 0 (E9 (b :: t) a (decL (b :: t)).length (decL (b :: t)).length) (HO oB7 oB8 (runeV (decL (b :: t))) (x :: o) g []) d0)) (hol : (x :: o).length ≤ 100000000) (h : Heap) :
    CallT P kF9 [.str (b :: t), by8 a] h (.ret (.str (encS (b :: t) a)) h none) := by
  rw [hx]
  have hdec := decode_T b t hlen (heapOf oB3 ((oB2, .cells [.nilp, .slice0] tY40 0 0 false) :: tabs))
  have e : (heapOf oB3 ((oB2, .cells [.nilp, .slice0] tY40 0 0 false) :: tabs)).new (.cells (runeV (decL (b :: t))) tY21 0 0 false) = HN oB4 (runeV (decL (b :: t))) [] := by kernel_rfl
  rw [e] at hdec
  exact pure_hC tabOK hF (by rfl) (by rfl) [(13, .c (.ret (.slice oB3 0 0 (decL (b :: t)).length (decL (b :: t)).length 1 false) (HN oB4 (runeV (decL (b :: t))) []) none)), (99, .l [0, 1, 4, 5, 13, 14, 15] (.exit 0 (E9 (b :: t) a (decL (b :: t)).length (decL (b :: t)).length) (HO oB7 oB8 (runeV (decL (b :: t))) (x :: o) g []) d0)),
      (49, .c (.ret (.str (x :: o)) (heapOf oB9 ((oB2, .cells [.ptr oB2 0 0, .slice oB7 g 0 (x :: o).length (x :: o).length 1 false] tY40 0 0 false) :: (oB3, .cells (runeV (decL (b :: t))) tY21 0 0 false) :: (oB7, .cells ((x :: o).map u8) tY5 g (0 + (x :: o).length) false) :: tabs)) none))] dF9 (by kernel_rfl)
    (ofK (b := CallI P kF16 [.str (b :: t)] (heapOf oB3 ((oB2, .cells [.nilp, .slice0] tY40 0 0 false) :: tabs)) (.ret (.slice oB3 0 0 (decL (b :: t)).length (decL (b :: t)).length 1 false) (HN oB4 (runeV (decL (b :: t))) []) none) ∧
        TripI P 50 (.loop (lp cF9 0)) (E9 (b :: t) a (decL (b :: t)).length 0) (HN oB4 (runeV (decL (b :: t))) []) d0 (.exit 0 (E9 (b :: t) a (decL (b :: t)).length (decL (b :: t)).length) (HO oB7 oB8 (runeV (decL (b :: t))) (x :: o) g []) d0) ∧
        CallI P kF20 [.ptr oB2 0 0] (HO oB7 oB8 (runeV (decL (b :: t))) (x :: o) g []) (.ret (.str (x :: o)) (heapOf oB9 ((oB2, .cells [.ptr oB2 0 0, .slice oB7 g 0 (x :: o).length (x :: o).length 1 false] tY40 0 0 false) :: (oB3, .cells (runeV (decL (b :: t))) tY21 0 0 false) :: (oB7, .cells ((x :: o).map u8) tY5 g (0 + (x :: o).length) false) :: tabs)) none) ∧
        AV.str (x :: o) = .str (x :: o)) (by kernel_rfl)
      ⟨⟨hdec⟩, ⟨hT.trip⟩, ⟨str7 _ x o g hol⟩, rfl⟩) h

theorem encode_T (s : List UInt8) (hlen : s.length ≤ 1000000) (h : Heap) : CallT P kF9 [.str s, by8 a] h (.ret (.str (encS s a)) h none) := by
  cases s with
  | nil =>
    exact pure_hC tabOK hF (by rfl) (by rfl) [(13, .c (.ret .slice0 (heapOf oB3 ((oB2, .cells [.nilp, .slice0] tY40 0 0 false) :: tabs)) none))] dF9 (by kernel_rfl)
      (ofK (b := CallI P kF16 [.str []] (heapOf oB3 ((oB2, .cells [.nilp, .slice0] tY40 0 0 false) :: tabs)) (.ret .slice0 (heapOf oB3 ((oB2, .cells [.nilp, .slice0] tY40 0 0 false) :: tabs)) none) ∧ AV.str [] = .str []) (by kernel_rfl) ⟨⟨decode_nil _⟩, rfl⟩) h
  | cons b t =>
    have hll : (decL (b :: t)).length ≤ 1000000 := Nat.le_trans decF_len hlen
    have hp := decL_pos b t
    have hv : ∀ c ∈ decL (b :: t), valid c := decF_valid
    have hd := drop_at (l := decL (b :: t)) (i := 0) hp
    rw [List.drop_zero] at hd
    have hvc : valid ((decL (b :: t)).getD 0 0) := hv _ (getD_mem hp)
    have hol := one_len a ((decL (b :: t)).getD 0 0)
    have htot : ∀ l : List Nat, (l.flatMap (one a)).length ≤ 12 * l.length := by
      intro l
      induction l with
      | nil => simp
      | cons c l ih => rw [List.flatMap_cons, List.length_append, List.length_cons]; have := (one_len a c).2; omega
    have hE : encS (b :: t) a = one a ((decL (b :: t)).getD 0 0) ++ ((decL (b :: t)).drop 1).flatMap (one a) := by
      unfold encS
      conv => lhs; rw [hd, List.flatMap_cons]
    have hlE : (encS (b :: t) a).length ≤ 100000000 := by
      have := htot (decL (b :: t))
      unfold encS; omega
    cases hx : encS (b :: t) a with
    | nil =>
      rw [hx] at hE
      have := congrArg List.length hE
      simp only [List.length_nil, List.length_append] at this
      omega
    | cons x o =>
      rw [hx] at hlE
      cases hin : inS ((decL (b :: t)).getD 0 0) a with
      | true =>
        have h1 : one a ((decL (b :: t)).getD 0 0) = (encB ((decL (b :: t)).getD 0 0)).flatMap hexB := by unfold one; rw [hin]; rfl
        rw [h1] at hE hol
        obtain ⟨g', hT⟩ := lo7 (b :: t) a (decL (b :: t)) hll hv ((decL (b :: t)).length - 1) 1 ((encB ((decL (b :: t)).getD 0 0)).flatMap hexB) (3 * (encB ((decL (b :: t)).getD 0 0)).length - 1) (by omega) (by omega)
        rw [← hE, hx] at hT
        rw [← hx]
        exact enc7 a b t hlen x o g' hx (TripL.next (sn_c (runeV (decL (b :: t))) (b :: t) a _ 0 _ runeV_below hp (rune_at hp) hvc hin hll) hT) hlE h
      | false =>
        have h1 : one a ((decL (b :: t)).getD 0 0) = encB ((decL (b :: t)).getD 0 0) := by unfold one; rw [hin]; rfl
        rw [h1] at hE hol
        obtain ⟨g', hT⟩ := lo5 (b :: t) a (decL (b :: t)) hll hv ((decL (b :: t)).length - 1) 1 (encB ((decL (b :: t)).getD 0 0)) 0 (by omega) (by omega)
        rw [← hE, hx] at hT
        rw [← hx]
        exact enc5 a b t hlen x o g' hx (TripL.next (sn_b (runeV (decL (b :: t))) (b :: t) a _ 0 _ runeV_below hp (rune_at hp) hvc hin hll) hT) hlE h
end
end Go.Proofs.YtbdpfpjpmilpbaaGreatDoor
