/-
  A step of the proof of this seat's statement. No condition.
-/
import Derived.Test.YtpiklaibcliniaaGreatDoorRows
import Derived.KernelRfl
import Derived.Test.YtpiklaibcliniaaGreatDoorD
namespace Go.Proofs.YtpiklaibcliniaaGreatDoor
open Go Go.Rk
set_option maxRecDepth 1000000
set_option linter.unusedVariables false
/-- nothing of memory need be known -/
abbrev tb (_ : Int) : TabC := ⟨[], fun x hx => by cases hx⟩
theorem tabOK (M : Int) : @TabOK Tryz.prog (tb M) := fun x hx => by
  have hx : x ∈ ([] : List (Nat × AObj)) := hx
  cases hx
abbrev kn0 : Known := []
theorem orc0 (M : Int) : @OrcOK Tryz.prog (tb M) (knownOrc kn0) := @orcOK_nil (tb M) _
def l1 : List (List AV × AV) := [([.int .i32 112], .agg [.int .i32 97, .int .i32 122, .int .u8 1, .int .u8 2, .int .u8 1, .int .u8 0, .int .u8 0, .bool false]),
  ([.int .i32 97], .agg [.int .i32 97, .int .i32 122, .int .u8 1, .int .u8 2, .int .u8 1, .int .u8 0, .int .u8 0, .bool false]),
  ([.int .i32 121], .agg [.int .i32 97, .int .i32 122, .int .u8 1, .int .u8 2, .int .u8 1, .int .u8 0, .int .u8 0, .bool false]),
  ([.int .i32 108], .agg [.int .i32 97, .int .i32 122, .int .u8 1, .int .u8 2, .int .u8 1, .int .u8 0, .int .u8 0, .bool false]),
  ([.int .i32 46], .agg [.int .i32 46, .int .i32 46, .int .u8 1, .int .u8 0, .int .u8 6, .int .u8 0, .int .u8 0, .bool false]),
  ([.int .i32 99], .agg [.int .i32 97, .int .i32 122, .int .u8 1, .int .u8 2, .int .u8 1, .int .u8 0, .int .u8 0, .bool false]),
  ([.int .i32 111], .agg [.int .i32 97, .int .i32 122, .int .u8 1, .int .u8 2, .int .u8 1, .int .u8 0, .int .u8 0, .bool false]),
  ([.int .i32 109], .agg [.int .i32 97, .int .i32 122, .int .u8 1, .int .u8 2, .int .u8 1, .int .u8 0, .int .u8 0, .bool false]),
  ([.int .i32 98], .agg [.int .i32 97, .int .i32 122, .int .u8 1, .int .u8 2, .int .u8 1, .int .u8 0, .int .u8 0, .bool false]),
  ([.int .i32 49], .agg [.int .i32 48, .int .i32 57, .int .u8 1, .int .u8 0, .int .u8 4, .int .u8 0, .int .u8 0, .bool false]),
  ([.int .i32 48], .agg [.int .i32 48, .int .i32 57, .int .u8 1, .int .u8 0, .int .u8 4, .int .u8 0, .int .u8 0, .bool false]),
  ([.int .i32 114], .agg [.int .i32 97, .int .i32 122, .int .u8 1, .int .u8 2, .int .u8 1, .int .u8 0, .int .u8 0, .bool false]),
  ([.int .i32 110], .agg [.int .i32 97, .int .i32 122, .int .u8 1, .int .u8 2, .int .u8 1, .int .u8 0, .int .u8 0, .bool false]),
  ([.int .i32 55], .agg [.int .i32 48, .int .i32 57, .int .u8 1, .int .u8 0, .int .u8 4, .int .u8 0, .int .u8 0, .bool false])]
abbrev kn1 : Known := (188, l1) :: kn0
theorem good1 (M : Int) : @goodK Tryz.prog (fnsO Tryz.prog (knownOrc kn0) 1000) (tb M) 188 l1 = true := by kernel_rfl
theorem orc1 (M : Int) : @OrcOK Tryz.prog (tb M) (knownOrc kn1) := @orcOK_cons (tb M) _ _ _ 1000 _ (orc0 M) (tabOK M) (by kernel_rfl) (good1 M)
def l2 : List (List AV × AV) := [([.int .i32 112], .slice0),
  ([.int .i32 97], .slice0),
  ([.int .i32 121], .slice0),
  ([.int .i32 108], .slice0),
  ([.int .i32 46], .slice0),
  ([.int .i32 99], .slice0),
  ([.int .i32 111], .slice0),
  ([.int .i32 109], .slice0),
  ([.int .i32 98], .slice0),
  ([.int .i32 49], .slice0),
  ([.int .i32 48], .slice0),
  ([.int .i32 114], .slice0),
  ([.int .i32 110], .slice0),
  ([.int .i32 55], .slice0)]
abbrev kn2 : Known := (142, l2) :: kn1
theorem good2 (M : Int) : @goodK Tryz.prog (fnsO Tryz.prog (knownOrc kn1) 1000) (tb M) 142 l2 = true := by kernel_rfl
theorem orc2 (M : Int) : @OrcOK Tryz.prog (tb M) (knownOrc kn2) := @orcOK_cons (tb M) _ _ _ 1000 _ (orc1 M) (tabOK M) (by kernel_rfl) (good2 M)
def l3 : List (List AV × AV) := [([.int .i32 112, .int .i32 97], .tup [.int .i32 0, .bool false]),
  ([.int .i32 97, .int .i32 121], .tup [.int .i32 0, .bool false]),
  ([.int .i32 121, .int .i32 112], .tup [.int .i32 0, .bool false]),
  ([.int .i32 97, .int .i32 108], .tup [.int .i32 0, .bool false]),
  ([.int .i32 108, .int .i32 46], .tup [.int .i32 0, .bool false]),
  ([.int .i32 46, .int .i32 99], .tup [.int .i32 0, .bool false]),
  ([.int .i32 99, .int .i32 111], .tup [.int .i32 0, .bool false]),
  ([.int .i32 111, .int .i32 109], .tup [.int .i32 0, .bool false]),
  ([.int .i32 99, .int .i32 46], .tup [.int .i32 0, .bool false]),
  ([.int .i32 46, .int .i32 98], .tup [.int .i32 0, .bool false]),
  ([.int .i32 49, .int .i32 48], .tup [.int .i32 0, .bool false]),
  ([.int .i32 48, .int .i32 46], .tup [.int .i32 0, .bool false]),
  ([.int .i32 46, .int .i32 48], .tup [.int .i32 0, .bool false]),
  ([.int .i32 46, .int .i32 55], .tup [.int .i32 0, .bool false])]
abbrev kn3 : Known := (243, l3) :: kn2
theorem good3 (M : Int) : @goodK Tryz.prog (fnsO Tryz.prog (knownOrc kn2) 1000) (tb M) 243 l3 = true := by kernel_rfl
theorem orc3 (M : Int) : @OrcOK Tryz.prog (tb M) (knownOrc kn3) := @orcOK_cons (tb M) _ _ _ 1000 _ (orc2 M) (tabOK M) (by kernel_rfl) (good3 M)
def l4 : List (List AV × AV) := [([.str [112, 97, 121, 112, 97, 108, 46, 99, 111, 109], .bool true], .tup [.agg [.int .u8 1, .str [112, 97, 121, 112, 97, 108, 46, 99, 111, 109], .int .u32 0, .int .u16 0, .int .u16 0, .int .u16 0, .int .u16 0, .int .u16 0, .int .u16 0, .int .u16 0, .int .u16 0], .int .i64 0]),
  ([.str [98], .bool true], .tup [.agg [.int .u8 1, .str [98], .int .u32 0, .int .u16 0, .int .u16 0, .int .u16 0, .int .u16 0, .int .u16 0, .int .u16 0, .int .u16 0, .int .u16 0], .int .i64 0]),
  ([.str [99, 46, 98], .bool true], .tup [.agg [.int .u8 1, .str [99, 46, 98], .int .u32 0, .int .u16 0, .int .u16 0, .int .u16 0, .int .u16 0, .int .u16 0, .int .u16 0, .int .u16 0, .int .u16 0], .int .i64 0]),
  ([.str [49, 48, 46, 48, 46, 48, 46, 48], .bool true], .tup [.agg [.int .u8 2, .str [], .int .u32 167772160, .int .u16 0, .int .u16 0, .int .u16 0, .int .u16 0, .int .u16 0, .int .u16 0, .int .u16 0, .int .u16 0], .int .i64 0]),
  ([.str [49, 48, 46, 48, 46, 48, 46, 55], .bool true], .tup [.agg [.int .u8 2, .str [], .int .u32 167772167, .int .u16 0, .int .u16 0, .int .u16 0, .int .u16 0, .int .u16 0, .int .u16 0, .int .u16 0, .int .u16 0], .int .i64 0])]
abbrev kn4 : Known := (136, l4) :: kn3
theorem good4 (M : Int) : @goodK Tryz.prog (fnsO Tryz.prog (knownOrc kn3) 1000) (tb M) 136 l4 = true := by kernel_rfl
theorem orc4 (M : Int) : @OrcOK Tryz.prog (tb M) (knownOrc kn4) := @orcOK_cons (tb M) _ _ _ 1000 _ (orc3 M) (tabOK M) (by kernel_rfl) (good4 M)
def l5 : List (List AV × AV) := [([.str [112, 97, 121, 112, 97, 108, 46, 99, 111, 109], .bool false], .tup [.str [112, 97, 121, 112, 97, 108, 46, 99, 111, 109], .bool true]),
  ([.str [99, 46, 98], .bool false], .tup [.str [99, 46, 98], .bool true])]
abbrev kn5 : Known := (58, l5) :: kn4
theorem good5 (M : Int) : @goodK Tryz.prog (fnsO Tryz.prog (knownOrc kn4) 1000) (tb M) 58 l5 = true := by kernel_rfl
theorem orc5 (M : Int) : @OrcOK Tryz.prog (tb M) (knownOrc kn5) := @orcOK_cons (tb M) _ _ _ 1000 _ (orc4 M) (tabOK M) (by kernel_rfl) (good5 M)
def l6 : List (List AV × AV) := [([.agg [.int .u8 1, .str [112, 97, 121, 112, 97, 108, 46, 99, 111, 109], .int .u32 0, .int .u16 0, .int .u16 0, .int .u16 0, .int .u16 0, .int .u16 0, .int .u16 0, .int .u16 0, .int .u16 0]], .tup [.agg [.int .u8 1, .str [112, 97, 121, 112, 97, 108, 46, 99, 111, 109], .int .u32 0, .int .u16 0, .int .u16 0, .int .u16 0, .int .u16 0, .int .u16 0, .int .u16 0, .int .u16 0, .int .u16 0], .int .i64 0]),
  ([.agg [.int .u8 1, .str [98], .int .u32 0, .int .u16 0, .int .u16 0, .int .u16 0, .int .u16 0, .int .u16 0, .int .u16 0, .int .u16 0, .int .u16 0]], .tup [.agg [.int .u8 1, .str [98], .int .u32 0, .int .u16 0, .int .u16 0, .int .u16 0, .int .u16 0, .int .u16 0, .int .u16 0, .int .u16 0, .int .u16 0], .int .i64 0]),
  ([.agg [.int .u8 1, .str [99, 46, 98], .int .u32 0, .int .u16 0, .int .u16 0, .int .u16 0, .int .u16 0, .int .u16 0, .int .u16 0, .int .u16 0, .int .u16 0]], .tup [.agg [.int .u8 1, .str [99, 46, 98], .int .u32 0, .int .u16 0, .int .u16 0, .int .u16 0, .int .u16 0, .int .u16 0, .int .u16 0, .int .u16 0, .int .u16 0], .int .i64 0]),
  ([.agg [.int .u8 2, .str [], .int .u32 167772160, .int .u16 0, .int .u16 0, .int .u16 0, .int .u16 0, .int .u16 0, .int .u16 0, .int .u16 0, .int .u16 0]], .tup [.agg [.int .u8 2, .str [], .int .u32 167772160, .int .u16 0, .int .u16 0, .int .u16 0, .int .u16 0, .int .u16 0, .int .u16 0, .int .u16 0, .int .u16 0], .int .i64 0]),
  ([.agg [.int .u8 2, .str [], .int .u32 167772167, .int .u16 0, .int .u16 0, .int .u16 0, .int .u16 0, .int .u16 0, .int .u16 0, .int .u16 0, .int .u16 0]], .tup [.agg [.int .u8 2, .str [], .int .u32 167772167, .int .u16 0, .int .u16 0, .int .u16 0, .int .u16 0, .int .u16 0, .int .u16 0, .int .u16 0, .int .u16 0], .int .i64 0])]
abbrev kn6 : Known := (51, l6) :: kn5
theorem good6 (M : Int) : @goodK Tryz.prog (fnsO Tryz.prog (knownOrc kn5) 1000) (tb M) 51 l6 = true := by kernel_rfl
theorem orc6 (M : Int) : @OrcOK Tryz.prog (tb M) (knownOrc kn6) := @orcOK_cons (tb M) _ _ _ 1000 _ (orc5 M) (tabOK M) (by kernel_rfl) (good6 M)
def l7 : List (List AV × AV) := [([.str [112, 97, 121, 112, 97, 108, 46, 99, 111, 109]], .str [112, 97, 121, 112, 97, 108, 46, 99, 111, 114, 110]),
  ([.str [99, 46, 98]], .str [99, 46, 98])]
abbrev kn7 : Known := (28, l7) :: kn6
theorem good7 (M : Int) : @goodK Tryz.prog (fnsO Tryz.prog (knownOrc kn6) 1000) (tb M) 28 l7 = true := by kernel_rfl
theorem orc7 (M : Int) : @OrcOK Tryz.prog (tb M) (knownOrc kn7) := @orcOK_cons (tb M) _ _ _ 1000 _ (orc6 M) (tabOK M) (by kernel_rfl) (good7 M)
def l8 : List (List AV × AV) := [([.agg [.int .u8 1, .str [112, 97, 121, 112, 97, 108, 46, 99, 111, 109], .int .u32 0, .int .u16 0, .int .u16 0, .int .u16 0, .int .u16 0, .int .u16 0, .int .u16 0, .int .u16 0, .int .u16 0]], .str [112, 97, 121, 112, 97, 108, 46, 99, 111, 109]),
  ([.agg [.int .u8 1, .str [99, 46, 98], .int .u32 0, .int .u16 0, .int .u16 0, .int .u16 0, .int .u16 0, .int .u16 0, .int .u16 0, .int .u16 0, .int .u16 0]], .str [99, 46, 98])]
abbrev kn8 : Known := (29, l8) :: kn7
theorem good8 (M : Int) : @goodK Tryz.prog (fnsO Tryz.prog (knownOrc kn7) 1000) (tb M) 29 l8 = true := by kernel_rfl
theorem orc8 (M : Int) : @OrcOK Tryz.prog (tb M) (knownOrc kn8) := @orcOK_cons (tb M) _ _ _ 1000 _ (orc7 M) (tabOK M) (by kernel_rfl) (good8 M)
end Go.Proofs.YtpiklaibcliniaaGreatDoor
