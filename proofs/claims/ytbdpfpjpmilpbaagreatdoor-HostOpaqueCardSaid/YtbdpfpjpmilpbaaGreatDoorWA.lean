/-
  A step of the proof of this seat's statement. No condition.
-/
import Derived.Test.YtbdpfpjpmilpbaaGreatDoorProg
import Derived.KernelRfl
import Derived.Test.YtbdpfpjpmilpbaaGreatDoorD
import Derived.Test.YtbdpfpjpmilpbaaGreatDoorG
namespace Go.Proofs.YtbdpfpjpmilpbaaGreatDoor
open Go Go.Rk
set_option maxRecDepth 1000000
set_option linter.unusedVariables false
set_option linter.unusedSimpArgs false
set_option linter.constructorNameAsVariable false
set_option linter.unusedSectionVars false
/-- what is known of memory: the powers of ten -/
def pw : List Nat := [1, 10, 100, 1000, 10000, 100000, 1000000, 10000000, 100000000, 1000000000, 10000000000, 100000000000, 1000000000000, 10000000000000, 100000000000000, 1000000000000000, 10000000000000000, 100000000000000000, 1000000000000000000, 10000000000000000000]
def u64s : List Nat → List AV
  | [] => []
  | n :: l => .int .u64 (Int.ofNat n) :: u64s l
abbrev tPw : Nat × AObj := (1, .cells (u64s pw) 174 0 21 false)
def db : List Nat := [0, 1, 56, 2, 57, 49, 28, 3, 61, 58, 42, 50, 38, 29, 17, 4, 62, 47, 59, 36, 45, 43, 51, 22, 53, 39, 33, 30, 24, 18, 12, 5, 63, 55, 48, 27, 60, 41, 37, 16, 46, 35, 44, 21, 52, 32, 23, 11, 54, 26, 40, 15, 34, 20, 31, 10, 25, 14, 19, 9, 13, 8, 7, 6]
def u8sW : List Nat → List AV
  | [] => []
  | n :: l => .int .u8 (Int.ofNat n) :: u8sW l
abbrev tDb : Nat × AObj := (5, .cells (u8sW db) 228 0 65 false)
abbrev tbW (_ : Int) : TabC := ⟨[tPw, tDb], fun x hx => by
  simp only [List.mem_cons, List.mem_nil_iff, or_false] at hx
  rcases hx with rfl | rfl <;> rfl⟩
theorem tabOKW (M : Int) : @TabOK Tryz.prog (tbW M) := fun x hx => by
  have hx : x ∈ [tPw, tDb] := hx
  simp only [List.mem_cons, List.mem_nil_iff, or_false] at hx
  have h6 : 6 ≤ Tryz.prog.globals.size := Nat.le_of_ble_eq_true (show Nat.ble 6 Tryz.prog.globals.size = true by kernel_rfl)
  rcases hx with rfl | rfl
  · exact ⟨rfl, Nat.lt_of_lt_of_le (show 1 < 6 by omega) h6⟩
  · exact ⟨rfl, Nat.lt_of_lt_of_le (show 5 < 6 by omega) h6⟩
abbrev knW0 : Known := []
theorem orcW0 (M : Int) : @OrcOK Tryz.prog (tbW M) (knownOrc knW0) := @orcOK_nil (tbW M) _
def lW1 : List (List AV × AV) := [([.str [101, 120, 97, 109, 112, 108, 101, 46, 99, 111, 109], .str [46]], .int .i64 7),
  ([.str [48, 120, 55, 102, 46, 49], .str [46]], .int .i64 4)]
abbrev knW1 : Known := (186, lW1) :: knW0
theorem goodW1 (M : Int) : @goodK Tryz.prog (fnsO Tryz.prog (knownOrc knW0) 1000) (tbW M) 186 lW1 = true := by kernel_rfl
theorem orcW1 (M : Int) : @OrcOK Tryz.prog (tbW M) (knownOrc knW1) := @orcOK_cons (tbW M) _ _ _ 1000 _ (orcW0 M) (tabOKW M) (by kernel_rfl) (goodW1 M)
def lW2 : List (List AV × AV) := [([.int .i32 69], .agg [.int .i32 65, .int .i32 90, .int .u8 3, .int .u8 2, .int .u8 1, .int .u8 0, .int .u8 0, .bool false]),
  ([.int .i32 88], .agg [.int .i32 65, .int .i32 90, .int .u8 3, .int .u8 2, .int .u8 1, .int .u8 0, .int .u8 0, .bool false]),
  ([.int .i32 65], .agg [.int .i32 65, .int .i32 90, .int .u8 3, .int .u8 2, .int .u8 1, .int .u8 0, .int .u8 0, .bool false]),
  ([.int .i32 77], .agg [.int .i32 65, .int .i32 90, .int .u8 3, .int .u8 2, .int .u8 1, .int .u8 0, .int .u8 0, .bool false]),
  ([.int .i32 80], .agg [.int .i32 65, .int .i32 90, .int .u8 3, .int .u8 2, .int .u8 1, .int .u8 0, .int .u8 0, .bool false]),
  ([.int .i32 76], .agg [.int .i32 65, .int .i32 90, .int .u8 3, .int .u8 2, .int .u8 1, .int .u8 0, .int .u8 0, .bool false]),
  ([.int .i32 46], .agg [.int .i32 46, .int .i32 46, .int .u8 1, .int .u8 0, .int .u8 6, .int .u8 0, .int .u8 0, .bool false]),
  ([.int .i32 99], .agg [.int .i32 97, .int .i32 122, .int .u8 1, .int .u8 2, .int .u8 1, .int .u8 0, .int .u8 0, .bool false]),
  ([.int .i32 111], .agg [.int .i32 97, .int .i32 122, .int .u8 1, .int .u8 2, .int .u8 1, .int .u8 0, .int .u8 0, .bool false]),
  ([.int .i32 109], .agg [.int .i32 97, .int .i32 122, .int .u8 1, .int .u8 2, .int .u8 1, .int .u8 0, .int .u8 0, .bool false]),
  ([.int .i32 101], .agg [.int .i32 97, .int .i32 122, .int .u8 1, .int .u8 2, .int .u8 1, .int .u8 0, .int .u8 0, .bool false]),
  ([.int .i32 120], .agg [.int .i32 97, .int .i32 122, .int .u8 1, .int .u8 2, .int .u8 1, .int .u8 0, .int .u8 0, .bool false]),
  ([.int .i32 97], .agg [.int .i32 97, .int .i32 122, .int .u8 1, .int .u8 2, .int .u8 1, .int .u8 0, .int .u8 0, .bool false]),
  ([.int .i32 112], .agg [.int .i32 97, .int .i32 122, .int .u8 1, .int .u8 2, .int .u8 1, .int .u8 0, .int .u8 0, .bool false]),
  ([.int .i32 108], .agg [.int .i32 97, .int .i32 122, .int .u8 1, .int .u8 2, .int .u8 1, .int .u8 0, .int .u8 0, .bool false]),
  ([.int .i32 48], .agg [.int .i32 48, .int .i32 57, .int .u8 1, .int .u8 0, .int .u8 4, .int .u8 0, .int .u8 0, .bool false]),
  ([.int .i32 55], .agg [.int .i32 48, .int .i32 57, .int .u8 1, .int .u8 0, .int .u8 4, .int .u8 0, .int .u8 0, .bool false]),
  ([.int .i32 102], .agg [.int .i32 97, .int .i32 122, .int .u8 1, .int .u8 2, .int .u8 1, .int .u8 0, .int .u8 0, .bool false]),
  ([.int .i32 49], .agg [.int .i32 48, .int .i32 57, .int .u8 1, .int .u8 0, .int .u8 4, .int .u8 0, .int .u8 0, .bool false]),
  ([.int .i32 32], .agg [.int .i32 0, .int .i32 0, .int .u8 0, .int .u8 0, .int .u8 0, .int .u8 0, .int .u8 0, .bool false]),
  ([.int .i32 98], .agg [.int .i32 97, .int .i32 122, .int .u8 1, .int .u8 2, .int .u8 1, .int .u8 0, .int .u8 0, .bool false])]
abbrev knW2 : Known := (118, lW2) :: knW1
theorem goodW2 (M : Int) : @goodK Tryz.prog (fnsO Tryz.prog (knownOrc knW1) 1000) (tbW M) 118 lW2 = true := by kernel_rfl
theorem orcW2 (M : Int) : @OrcOK Tryz.prog (tbW M) (knownOrc knW2) := @orcOK_cons (tbW M) _ _ _ 1000 _ (orcW1 M) (tabOKW M) (by kernel_rfl) (goodW2 M)
def lW3 : List (List AV × AV) := [([.int .i32 101], .slice0),
  ([.int .i32 120], .slice0),
  ([.int .i32 97], .slice0),
  ([.int .i32 109], .slice0),
  ([.int .i32 112], .slice0),
  ([.int .i32 108], .slice0),
  ([.int .i32 46], .slice0),
  ([.int .i32 99], .slice0),
  ([.int .i32 111], .slice0),
  ([.int .i32 48], .slice0),
  ([.int .i32 55], .slice0),
  ([.int .i32 102], .slice0),
  ([.int .i32 49], .slice0),
  ([.int .i32 32], .slice0),
  ([.int .i32 98], .slice0)]
abbrev knW3 : Known := (190, lW3) :: knW2
theorem goodW3 (M : Int) : @goodK Tryz.prog (fnsO Tryz.prog (knownOrc knW2) 1000) (tbW M) 190 lW3 = true := by kernel_rfl
theorem orcW3 (M : Int) : @OrcOK Tryz.prog (tbW M) (knownOrc knW3) := @orcOK_cons (tbW M) _ _ _ 1000 _ (orcW2 M) (tabOKW M) (by kernel_rfl) (goodW3 M)
def lW4 : List (List AV × AV) := [([.int .i32 101], .int .u8 0),
  ([.int .i32 120], .int .u8 0),
  ([.int .i32 97], .int .u8 0),
  ([.int .i32 109], .int .u8 0),
  ([.int .i32 112], .int .u8 0),
  ([.int .i32 108], .int .u8 0),
  ([.int .i32 46], .int .u8 0),
  ([.int .i32 99], .int .u8 0),
  ([.int .i32 111], .int .u8 0),
  ([.int .i32 48], .int .u8 0),
  ([.int .i32 55], .int .u8 0),
  ([.int .i32 102], .int .u8 0),
  ([.int .i32 49], .int .u8 0),
  ([.int .i32 32], .int .u8 0),
  ([.int .i32 98], .int .u8 0)]
abbrev knW4 : Known := (121, lW4) :: knW3
theorem goodW4 (M : Int) : @goodK Tryz.prog (fnsO Tryz.prog (knownOrc knW3) 1000) (tbW M) 121 lW4 = true := by kernel_rfl
theorem orcW4 (M : Int) : @OrcOK Tryz.prog (tbW M) (knownOrc knW4) := @orcOK_cons (tbW M) _ _ _ 1000 _ (orcW3 M) (tabOKW M) (by kernel_rfl) (goodW4 M)
def lW5 : List (List AV × AV) := [([.int .i32 101, .int .i32 120], .tup [.int .i32 0, .bool false]),
  ([.int .i32 120, .int .i32 97], .tup [.int .i32 0, .bool false]),
  ([.int .i32 97, .int .i32 109], .tup [.int .i32 0, .bool false]),
  ([.int .i32 109, .int .i32 112], .tup [.int .i32 0, .bool false]),
  ([.int .i32 112, .int .i32 108], .tup [.int .i32 0, .bool false]),
  ([.int .i32 108, .int .i32 101], .tup [.int .i32 0, .bool false]),
  ([.int .i32 101, .int .i32 46], .tup [.int .i32 0, .bool false]),
  ([.int .i32 46, .int .i32 99], .tup [.int .i32 0, .bool false]),
  ([.int .i32 99, .int .i32 111], .tup [.int .i32 0, .bool false]),
  ([.int .i32 111, .int .i32 109], .tup [.int .i32 0, .bool false]),
  ([.int .i32 48, .int .i32 120], .tup [.int .i32 0, .bool false]),
  ([.int .i32 120, .int .i32 55], .tup [.int .i32 0, .bool false]),
  ([.int .i32 55, .int .i32 102], .tup [.int .i32 0, .bool false]),
  ([.int .i32 102, .int .i32 46], .tup [.int .i32 0, .bool false]),
  ([.int .i32 46, .int .i32 49], .tup [.int .i32 0, .bool false]),
  ([.int .i32 97, .int .i32 32], .tup [.int .i32 0, .bool false]),
  ([.int .i32 32, .int .i32 98], .tup [.int .i32 0, .bool false])]
abbrev knW5 : Known := (122, lW5) :: knW4
theorem goodW5 (M : Int) : @goodK Tryz.prog (fnsO Tryz.prog (knownOrc knW4) 1000) (tbW M) 122 lW5 = true := by kernel_rfl
theorem orcW5 (M : Int) : @OrcOK Tryz.prog (tbW M) (knownOrc knW5) := @orcOK_cons (tbW M) _ _ _ 1000 _ (orcW4 M) (tabOKW M) (by kernel_rfl) (goodW5 M)
def lW6 : List (List AV × AV) := [([.str [69, 88, 65, 77, 80, 76, 69, 46, 99, 111, 109], .bool false, .bool false], .tup [.str [101, 120, 97, 109, 112, 108, 101, 46, 99, 111, 109], .int .i64 0]),
  ([.str [48, 120, 55, 102, 46, 49], .bool false, .bool false], .tup [.str [48, 120, 55, 102, 46, 49], .int .i64 0]),
  ([.str [97, 32, 98], .bool false, .bool false], .tup [.str [], .int .i64 70])]
abbrev knW6 : Known := (15, lW6) :: knW5
theorem goodW6 (M : Int) : @goodK Tryz.prog (fnsO Tryz.prog (knownOrc knW5) 1000) (tbW M) 15 lW6 = true := by kernel_rfl
theorem orcW6 (M : Int) : @OrcOK Tryz.prog (tbW M) (knownOrc knW6) := @orcOK_cons (tbW M) _ _ _ 1000 _ (orcW5 M) (tabOKW M) (by kernel_rfl) (goodW6 M)
def lW7 : List (List AV × AV) := [([.str [69, 88, 65, 77, 80, 76, 69, 46, 99, 111, 109], .bool true], .tup [.agg [.int .u8 1, .str [101, 120, 97, 109, 112, 108, 101, 46, 99, 111, 109], .int .u32 0, .int .u16 0, .int .u16 0, .int .u16 0, .int .u16 0, .int .u16 0, .int .u16 0, .int .u16 0, .int .u16 0], .int .i64 0]),
  ([.str [48, 120, 55, 102, 46, 49], .bool true], .tup [.agg [.int .u8 2, .str [], .int .u32 2130706433, .int .u16 0, .int .u16 0, .int .u16 0, .int .u16 0, .int .u16 0, .int .u16 0, .int .u16 0, .int .u16 0], .int .i64 0]),
  ([.str [97, 32, 98], .bool true], .tup [.agg [.int .u8 0, .str [], .int .u32 0, .int .u16 0, .int .u16 0, .int .u16 0, .int .u16 0, .int .u16 0, .int .u16 0, .int .u16 0, .int .u16 0], .int .i64 70]),
  ([.str [91, 58, 58, 49, 93], .bool false], .tup [.agg [.int .u8 3, .str [], .int .u32 0, .int .u16 0, .int .u16 0, .int .u16 0, .int .u16 0, .int .u16 0, .int .u16 0, .int .u16 0, .int .u16 1], .int .i64 0])]
abbrev knW7 : Known := (5, lW7) :: knW6
theorem goodW7 (M : Int) : @goodK Tryz.prog (fnsO Tryz.prog (knownOrc knW6) 1000) (tbW M) 5 lW7 = true := by kernel_rfl
theorem orcW7 (M : Int) : @OrcOK Tryz.prog (tbW M) (knownOrc knW7) := @orcOK_cons (tbW M) _ _ _ 1000 _ (orcW6 M) (tabOKW M) (by kernel_rfl) (goodW7 M)
def lW8 : List (List AV × AV) := [([], .bool true)]
theorem goodW8 (M : Int) : @goodK Tryz.prog (fnsO Tryz.prog (knownOrc knW7) 1000) (tbW M) 4 lW8 = true := by kernel_rfl
theorem hFW (M : Int) : @FOK (tbW M) Tryz.prog (fnsO Tryz.prog (knownOrc knW7) 1000) := have h := @fnsO_all (tbW M) _ _ (orcW7 M) 1000; @FOK.mk (tbW M) _ _ h.1 h.2.1 h.2.2
theorem works_W (h : Heap) : @CallT (tbW 0) Tryz.prog 4 [] h (.ret (.bool true) h none) := @known_T (tbW 0) _ (tabOKW 0) _ (hFW 0) _ _ (goodW8 0) _ _ List.mem_cons_self h
end Go.Proofs.YtbdpfpjpmilpbaaGreatDoor
