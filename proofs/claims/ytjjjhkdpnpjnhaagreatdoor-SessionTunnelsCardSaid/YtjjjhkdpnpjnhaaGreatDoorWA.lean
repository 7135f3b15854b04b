/-
  A step of the proof of this seat's statement. No condition.
-/
import Derived.Test.YtjjjhkdpnpjnhaaGreatDoorProg
import Derived.KernelRfl
import Derived.Test.YtjjjhkdpnpjnhaaGreatDoorD
import Derived.Test.YtjjjhkdpnpjnhaaGreatDoorG
namespace Go.Proofs.YtjjjhkdpnpjnhaaGreatDoor
open Go Go.Rk
set_option maxRecDepth 1000000
set_option linter.unusedVariables false
set_option linter.unusedSimpArgs false
set_option linter.constructorNameAsVariable false
set_option linter.unusedSectionVars false
/-- what is known of memory: the library's MaxLen, the powers of ten -/
def pw : List Nat := [1, 10, 100, 1000, 10000, 100000, 1000000, 10000000, 100000000, 1000000000, 10000000000, 100000000000, 1000000000000, 10000000000000, 100000000000000, 1000000000000000, 10000000000000000, 100000000000000000, 1000000000000000000, 10000000000000000000]
def u64s : List Nat → List AV
  | [] => []
  | n :: l => .int .u64 (Int.ofNat n) :: u64s l
abbrev tMx (M : Int) : Nat × AObj := (0, .cells [.int .i64 M] 3 0 2 false)
abbrev tPw : Nat × AObj := (2, .cells (u64s pw) 271 0 21 false)
abbrev tb (M : Int) : TabC := ⟨[tMx M, tPw], fun x hx => by
  simp only [List.mem_cons, List.mem_nil_iff, or_false] at hx
  rcases hx with rfl | rfl <;> rfl⟩
theorem tabOK (M : Int) : @TabOK Tryz.prog (tb M) := fun x hx => by
  have hx : x ∈ [tMx M, tPw] := hx
  simp only [List.mem_cons, List.mem_nil_iff, or_false] at hx
  have h6 : 3 ≤ Tryz.prog.globals.size := Nat.le_of_ble_eq_true (show Nat.ble 3 Tryz.prog.globals.size = true by kernel_rfl)
  rcases hx with rfl | rfl
  · exact ⟨rfl, Nat.lt_of_lt_of_le (show 0 < 3 by omega) h6⟩
  · exact ⟨rfl, Nat.lt_of_lt_of_le (show 2 < 3 by omega) h6⟩
abbrev kn0 : Known := []
theorem orc0 (M : Int) : @OrcOK Tryz.prog (tb M) (knownOrc kn0) := @orcOK_nil (tb M) _
def l1 : List (List AV × AV) := [([.str [71, 69, 84, 32, 104, 116, 116, 112, 58, 47, 47, 97, 47, 32, 72, 84, 84, 80, 47, 49, 46, 49], .str [32]], .int .i64 3),
  ([.str [104, 116, 116, 112, 58, 47, 47, 97, 47, 32, 72, 84, 84, 80, 47, 49, 46, 49], .str [32]], .int .i64 9),
  ([.str [104, 111, 115, 116, 58, 32, 97], .str [58]], .int .i64 4),
  ([.str [104, 116, 116, 112, 58, 47, 47, 97, 47], .str [58, 47, 47]], .int .i64 4),
  ([.str [104, 116, 116, 112, 58, 47, 47, 97, 47], .str [58]], .int .i64 4),
  ([.str [], .str [37, 50, 101]], .int .i64 (-1)),
  ([.str [], .str [37, 50, 69]], .int .i64 (-1))]
abbrev kn1 : Known := (157, l1) :: kn0
theorem good1 (M : Int) : @goodK Tryz.prog (fnsO Tryz.prog (knownOrc kn0) 1000) (tb M) 157 l1 = true := by
  cases M with
  | negSucc m => kernel_rfl
  | ofNat m =>
    cases m with
    | zero => kernel_rfl
    | succ m =>
      cases m with
      | zero => kernel_rfl
      | succ m =>
        cases m with
        | zero => kernel_rfl
        | succ m =>
          kernel_rfl
theorem orc1 (M : Int) : @OrcOK Tryz.prog (tb M) (knownOrc kn1) := @orcOK_cons (tb M) _ _ _ 1000 _ (orc0 M) (tabOK M) (by kernel_rfl) (good1 M)
def l2 : List (List AV × AV) := [([.int .i32 97], .agg [.int .i32 97, .int .i32 122, .int .u8 1, .int .u8 2, .int .u8 1, .int .u8 0, .int .u8 0, .bool false])]
abbrev kn2 : Known := (288, l2) :: kn1
theorem good2 (M : Int) : @goodK Tryz.prog (fnsO Tryz.prog (knownOrc kn1) 1000) (tb M) 288 l2 = true := by kernel_rfl
theorem orc2 (M : Int) : @OrcOK Tryz.prog (tb M) (knownOrc kn2) := @orcOK_cons (tb M) _ _ _ 1000 _ (orc1 M) (tabOK M) (by kernel_rfl) (good2 M)
def l3 : List (List AV × AV) := [([.int .i32 97], .slice0)]
abbrev kn3 : Known := (341, l3) :: kn2
theorem good3 (M : Int) : @goodK Tryz.prog (fnsO Tryz.prog (knownOrc kn2) 1000) (tb M) 341 l3 = true := by kernel_rfl
theorem orc3 (M : Int) : @OrcOK Tryz.prog (tb M) (knownOrc kn3) := @orcOK_cons (tb M) _ _ _ 1000 _ (orc2 M) (tabOK M) (by kernel_rfl) (good3 M)
def l4 : List (List AV × AV) := [([], .agg [.bool false, .bool false, .bool false, .bool false, .bool false, .bool false, .bool false, .bool false, .bool false, .bool false, .bool false, .bool false, .bool false, .bool false, .bool false, .bool false, .bool false, .bool false, .bool false, .bool false, .bool false, .bool false, .bool false, .bool false, .bool false, .bool false, .bool false, .bool false, .bool false, .bool false, .bool false, .bool false, .bool false, .bool true, .bool false, .bool true, .bool true, .bool true, .bool true, .bool true, .bool false, .bool false, .bool true, .bool true, .bool false, .bool true, .bool true, .bool false, .bool true, .bool true, .bool true, .bool true, .bool true, .bool true, .bool true, .bool true, .bool true, .bool true, .bool false, .bool false, .bool false, .bool false, .bool false, .bool false, .bool false, .bool true, .bool true, .bool true, .bool true, .bool true, .bool true, .bool true, .bool true, .bool true, .bool true, .bool true, .bool true, .bool true, .bool true, .bool true, .bool true, .bool true, .bool true, .bool true, .bool true, .bool true, .bool true, .bool true, .bool true, .bool true, .bool true, .bool false, .bool false, .bool false, .bool true, .bool true, .bool true, .bool true, .bool true, .bool true, .bool true, .bool true, .bool true, .bool true, .bool true, .bool true, .bool true, .bool true, .bool true, .bool true, .bool true, .bool true, .bool true, .bool true, .bool true, .bool true, .bool true, .bool true, .bool true, .bool true, .bool true, .bool true, .bool true, .bool false, .bool true, .bool false, .bool true, .bool false, .bool false, .bool false, .bool false, .bool false, .bool false, .bool false, .bool false, .bool false, .bool false, .bool false, .bool false, .bool false, .bool false, .bool false, .bool false, .bool false, .bool false, .bool false, .bool false, .bool false, .bool false, .bool false, .bool false, .bool false, .bool false, .bool false, .bool false, .bool false, .bool false, .bool false, .bool false, .bool false, .bool false, .bool false, .bool false, .bool false, .bool false, .bool false, .bool false, .bool false, .bool false, .bool false, .bool false, .bool false, .bool false, .bool false, .bool false, .bool false, .bool false, .bool false, .bool false, .bool false, .bool false, .bool false, .bool false, .bool false, .bool false, .bool false, .bool false, .bool false, .bool false, .bool false, .bool false, .bool false, .bool false, .bool false, .bool false, .bool false, .bool false, .bool false, .bool false, .bool false, .bool false, .bool false, .bool false, .bool false, .bool false, .bool false, .bool false, .bool false, .bool false, .bool false, .bool false, .bool false, .bool false, .bool false, .bool false, .bool false, .bool false, .bool false, .bool false, .bool false, .bool false, .bool false, .bool false, .bool false, .bool false, .bool false, .bool false, .bool false, .bool false, .bool false, .bool false, .bool false, .bool false, .bool false, .bool false, .bool false, .bool false, .bool false, .bool false, .bool false, .bool false, .bool false, .bool false, .bool false, .bool false, .bool false, .bool false, .bool false, .bool false, .bool false, .bool false, .bool false, .bool false, .bool false, .bool false, .bool false])]
abbrev kn4 : Known := (94, l4) :: kn3
theorem good4 (M : Int) : @goodK Tryz.prog (fnsO Tryz.prog (knownOrc kn3) 1000) (tb M) 94 l4 = true := by kernel_rfl
theorem orc4 (M : Int) : @OrcOK Tryz.prog (tb M) (knownOrc kn4) := @orcOK_cons (tb M) _ _ _ 1000 _ (orc3 M) (tabOK M) (by kernel_rfl) (good4 M)
def l5 : List (List AV × AV) := [([.str [104, 116, 116, 112, 58, 47, 47, 97, 47]], .str [104, 116, 116, 112, 58, 47, 47, 97, 47])]
abbrev kn5 : Known := (122, l5) :: kn4
theorem good5 (M : Int) : @goodK Tryz.prog (fnsO Tryz.prog (knownOrc kn4) 1000) (tb M) 122 l5 = true := by kernel_rfl
theorem orc5 (M : Int) : @OrcOK Tryz.prog (tb M) (knownOrc kn5) := @orcOK_cons (tb M) _ _ _ 1000 _ (orc4 M) (tabOK M) (by kernel_rfl) (good5 M)
def l6 : List (List AV × AV) := [([.str [97], .bool true], .tup [.agg [.int .u8 1, .str [97], .int .u32 0, .int .u16 0, .int .u16 0, .int .u16 0, .int .u16 0, .int .u16 0, .int .u16 0, .int .u16 0, .int .u16 0], .int .i64 0])]
abbrev kn6 : Known := (66, l6) :: kn5
theorem good6 (M : Int) : @goodK Tryz.prog (fnsO Tryz.prog (knownOrc kn5) 1000) (tb M) 66 l6 = true := by kernel_rfl
theorem orc6 (M : Int) : @OrcOK Tryz.prog (tb M) (knownOrc kn6) := @orcOK_cons (tb M) _ _ _ 1000 _ (orc5 M) (tabOK M) (by kernel_rfl) (good6 M)
def l7 : List (List AV × AV) := [([.agg [.int .u8 1, .str [97], .int .u32 0, .int .u16 0, .int .u16 0, .int .u16 0, .int .u16 0, .int .u16 0, .int .u16 0, .int .u16 0, .int .u16 0]], .tup [.agg [.int .u8 1, .str [97], .int .u32 0, .int .u16 0, .int .u16 0, .int .u16 0, .int .u16 0, .int .u16 0, .int .u16 0, .int .u16 0, .int .u16 0], .int .i64 0])]
abbrev kn7 : Known := (67, l7) :: kn6
theorem good7 (M : Int) : @goodK Tryz.prog (fnsO Tryz.prog (knownOrc kn6) 1000) (tb M) 67 l7 = true := by kernel_rfl
theorem orc7 (M : Int) : @OrcOK Tryz.prog (tb M) (knownOrc kn7) := @orcOK_cons (tb M) _ _ _ 1000 _ (orc6 M) (tabOK M) (by kernel_rfl) (good7 M)
def l8 : List (List AV × AV) := [([.str [104, 116, 116, 112, 58, 47, 47, 97, 47]], .tup [.agg [.int .u8 1, .str [97], .int .u32 0, .int .u16 0, .int .u16 0, .int .u16 0, .int .u16 0, .int .u16 0, .int .u16 0, .int .u16 0, .int .u16 0, .int .u16 80], .int .i64 0])]
abbrev kn8 : Known := (35, l8) :: kn7
theorem good8 (M : Int) : @goodK Tryz.prog (fnsO Tryz.prog (knownOrc kn7) 1000) (tb M) 35 l8 = true := by kernel_rfl
theorem orc8 (M : Int) : @OrcOK Tryz.prog (tb M) (knownOrc kn8) := @orcOK_cons (tb M) _ _ _ 1000 _ (orc7 M) (tabOK M) (by kernel_rfl) (good8 M)
def l9 : List (List AV × AV) := [([.str [104, 111, 115, 116, 58, 32, 97]], .tup [.agg [.str [104, 111, 115, 116], .str [97]], .bool true])]
abbrev kn9 : Known := (248, l9) :: kn8
theorem good9 (M : Int) : @goodK Tryz.prog (fnsO Tryz.prog (knownOrc kn8) 1000) (tb M) 248 l9 = true := by kernel_rfl
theorem orc9 (M : Int) : @OrcOK Tryz.prog (tb M) (knownOrc kn9) := @orcOK_cons (tb M) _ _ _ 1000 _ (orc8 M) (tabOK M) (by kernel_rfl) (good9 M)
def l10 : List (List AV × AV) := [([.str [97, 58, 49], .int .u16 0], .tup [.agg [.int .u8 1, .str [97], .int .u32 0, .int .u16 0, .int .u16 0, .int .u16 0, .int .u16 0, .int .u16 0, .int .u16 0, .int .u16 0, .int .u16 0, .int .u16 1], .int .i64 0])]
abbrev kn10 : Known := (34, l10) :: kn9
theorem good10 (M : Int) : @goodK Tryz.prog (fnsO Tryz.prog (knownOrc kn9) 1000) (tb M) 34 l10 = true := by kernel_rfl
theorem orc10 (M : Int) : @OrcOK Tryz.prog (tb M) (knownOrc kn10) := @orcOK_cons (tb M) _ _ _ 1000 _ (orc9 M) (tabOK M) (by kernel_rfl) (good10 M)
def l11 : List (List AV × AV) := [([], .bool true)]
abbrev kn11 : Known := (4, l11) :: kn10
theorem good11 (M : Int) : @goodK Tryz.prog (fnsO Tryz.prog (knownOrc kn10) 1000) (tb M) 4 l11 = true := by kernel_rfl
theorem orc11 (M : Int) : @OrcOK Tryz.prog (tb M) (knownOrc kn11) := @orcOK_cons (tb M) _ _ _ 1000 _ (orc10 M) (tabOK M) (by kernel_rfl) (good11 M)
noncomputable abbrev P : Program := Tryz.prog
noncomputable abbrev FW : Fns := fnsO P (knownOrc kn11) 1000
theorem hFWM (M : Int) : @FOK (tb M) P FW := have h := @fnsO_all (tb M) _ _ (orc11 M) 1000; @FOK.mk (tb M) _ _ h.1 h.2.1 h.2.2
end Go.Proofs.YtjjjhkdpnpjnhaaGreatDoor
