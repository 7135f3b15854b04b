/-
  A step of the proof of this seat's statement. No condition.
-/
import Derived.Test.YtcideebbbdjlgaaGreatDoorRows
import Derived.KernelRfl
import Derived.Test.YtcideebbbdjlgaaGreatDoorD
namespace Go.Proofs.YtcideebbbdjlgaaGreatDoor
open Go Go.Rk
set_option maxRecDepth 1000000
set_option linter.unusedVariables false
/-- what is known of memory: the value of the library's MaxLen -/
abbrev tb (M : Int) : TabC := ⟨[(2, .cells [.int .i64 M] 3 0 2 false)], fun x hx => by
  simp only [List.mem_cons, List.mem_nil_iff, or_false] at hx
  subst hx; rfl⟩
theorem tabOK (M : Int) : @TabOK Tryz.prog (tb M) := fun x hx => by
  have hx : x ∈ [(2, AObj.cells [.int .i64 M] 3 0 2 false)] := hx
  simp only [List.mem_cons, List.mem_nil_iff, or_false] at hx
  subst hx
  exact ⟨rfl, Nat.lt_of_lt_of_le (Nat.lt_succ_self 2) (Nat.le_of_ble_eq_true (show Nat.ble 3 Tryz.prog.globals.size = true by kernel_rfl))⟩
abbrev kn0 : Known := []
theorem orc0 (M : Int) : @OrcOK Tryz.prog (tb M) (knownOrc kn0) := @orcOK_nil (tb M) _
def l1 : List (List AV × AV) := [([.str [97, 108, 108, 111, 119, 32, 104, 111, 115, 116, 32, 97], .str [10]], .int .i64 (-1)),
  ([.str [71, 69, 84, 32, 104, 116, 116, 112, 58, 47, 47, 97, 47, 32, 72, 84, 84, 80, 47, 49, 46, 49], .str [32]], .int .i64 3),
  ([.str [104, 116, 116, 112, 58, 47, 47, 97, 47, 32, 72, 84, 84, 80, 47, 49, 46, 49], .str [32]], .int .i64 9),
  ([.str [104, 111, 115, 116, 58, 32, 97], .str [58]], .int .i64 4),
  ([.str [104, 116, 116, 112, 58, 47, 47, 97, 47], .str [58, 47, 47]], .int .i64 4),
  ([.str [104, 116, 116, 112, 58, 47, 47, 97, 47], .str [58]], .int .i64 4),
  ([.str [], .str [37, 50, 101]], .int .i64 (-1)),
  ([.str [], .str [37, 50, 69]], .int .i64 (-1))]
abbrev kn1 : Known := (411, l1) :: kn0
theorem good1 (M : Int) : @goodK Tryz.prog (fnsO Tryz.prog (knownOrc kn0) 1000) (tb M) 411 l1 = true := by
  cases M with
  | negSucc m => kernel_rfl
  | ofNat m =>
    cases m with
    | zero => kernel_rfl
    | succ m =>
      cases m with
      | zero => kernel_rfl
      | succ m =>
        cases m with
        | zero => kernel_rfl
        | succ m =>
          kernel_rfl
theorem orc1 (M : Int) : @OrcOK Tryz.prog (tb M) (knownOrc kn1) := @orcOK_cons (tb M) _ _ _ 1000 _ (orc0 M) (tabOK M) (by kernel_rfl) (good1 M)
def l2 : List (List AV × AV) := [([.int .i32 97], .agg [.int .i32 97, .int .i32 122, .int .u8 1, .int .u8 2, .int .u8 1, .int .u8 0, .int .u8 0, .bool false])]
abbrev kn2 : Known := (503, l2) :: kn1
theorem good2 (M : Int) : @goodK Tryz.prog (fnsO Tryz.prog (knownOrc kn1) 1000) (tb M) 503 l2 = true := by kernel_rfl
theorem orc2 (M : Int) : @OrcOK Tryz.prog (tb M) (knownOrc kn2) := @orcOK_cons (tb M) _ _ _ 1000 _ (orc1 M) (tabOK M) (by kernel_rfl) (good2 M)
def l3 : List (List AV × AV) := [([.int .i32 97], .slice0)]
abbrev kn3 : Known := (424, l3) :: kn2
theorem good3 (M : Int) : @goodK Tryz.prog (fnsO Tryz.prog (knownOrc kn2) 1000) (tb M) 424 l3 = true := by kernel_rfl
theorem orc3 (M : Int) : @OrcOK Tryz.prog (tb M) (knownOrc kn3) := @orcOK_cons (tb M) _ _ _ 1000 _ (orc2 M) (tabOK M) (by kernel_rfl) (good3 M)
def l4 : List (List AV × AV) := [([.int .i32 97], .int .u8 0)]
abbrev kn4 : Known := (426, l4) :: kn3
theorem good4 (M : Int) : @goodK Tryz.prog (fnsO Tryz.prog (knownOrc kn3) 1000) (tb M) 426 l4 = true := by kernel_rfl
theorem orc4 (M : Int) : @OrcOK Tryz.prog (tb M) (knownOrc kn4) := @orcOK_cons (tb M) _ _ _ 1000 _ (orc3 M) (tabOK M) (by kernel_rfl) (good4 M)
def l5 : List (List AV × AV) := [([], .agg [.bool false, .bool false, .bool false, .bool false, .bool false, .bool false, .bool false, .bool false, .bool false, .bool false, .bool false, .bool false, .bool false, .bool false, .bool false, .bool false, .bool false, .bool false, .bool false, .bool false, .bool false, .bool false, .bool false, .bool false, .bool false, .bool false, .bool false, .bool false, .bool false, .bool false, .bool false, .bool false, .bool false, .bool true, .bool false, .bool true, .bool true, .bool true, .bool true, .bool true, .bool false, .bool false, .bool true, .bool true, .bool false, .bool true, .bool true, .bool false, .bool true, .bool true, .bool true, .bool true, .bool true, .bool true, .bool true, .bool true, .bool true, .bool true, .bool false, .bool false, .bool false, .bool false, .bool false, .bool false, .bool false, .bool true, .bool true, .bool true, .bool true, .bool true, .bool true, .bool true, .bool true, .bool true, .bool true, .bool true, .bool true, .bool true, .bool true, .bool true, .bool true, .bool true, .bool true, .bool true, .bool true, .bool true, .bool true, .bool true, .bool true, .bool true, .bool true, .bool false, .bool false, .bool false, .bool true, .bool true, .bool true, .bool true, .bool true, .bool true, .bool true, .bool true, .bool true, .bool true, .bool true, .bool true, .bool true, .bool true, .bool true, .bool true, .bool true, .bool true, .bool true, .bool true, .bool true, .bool true, .bool true, .bool true, .bool true, .bool true, .bool true, .bool true, .bool true, .bool false, .bool true, .bool false, .bool true, .bool false, .bool false, .bool false, .bool false, .bool false, .bool false, .bool false, .bool false, .bool false, .bool false, .bool false, .bool false, .bool false, .bool false, .bool false, .bool false, .bool false, .bool false, .bool false, .bool false, .bool false, .bool false, .bool false, .bool false, .bool false, .bool false, .bool false, .bool false, .bool false, .bool false, .bool false, .bool false, .bool false, .bool false, .bool false, .bool false, .bool false, .bool false, .bool false, .bool false, .bool false, .bool false, .bool false, .bool false, .bool false, .bool false, .bool false, .bool false, .bool false, .bool false, .bool false, .bool false, .bool false, .bool false, .bool false, .bool false, .bool false, .bool false, .bool false, .bool false, .bool false, .bool false, .bool false, .bool false, .bool false, .bool false, .bool false, .bool false, .bool false, .bool false, .bool false, .bool false, .bool false, .bool false, .bool false, .bool false, .bool false, .bool false, .bool false, .bool false, .bool false, .bool false, .bool false, .bool false, .bool false, .bool false, .bool false, .bool false, .bool false, .bool false, .bool false, .bool false, .bool false, .bool false, .bool false, .bool false, .bool false, .bool false, .bool false, .bool false, .bool false, .bool false, .bool false, .bool false, .bool false, .bool false, .bool false, .bool false, .bool false, .bool false, .bool false, .bool false, .bool false, .bool false, .bool false, .bool false, .bool false, .bool false, .bool false, .bool false, .bool false, .bool false, .bool false, .bool false, .bool false, .bool false, .bool false, .bool false, .bool false])]
abbrev kn5 : Known := (368, l5) :: kn4
theorem good5 (M : Int) : @goodK Tryz.prog (fnsO Tryz.prog (knownOrc kn4) 1000) (tb M) 368 l5 = true := by kernel_rfl
theorem orc5 (M : Int) : @OrcOK Tryz.prog (tb M) (knownOrc kn5) := @orcOK_cons (tb M) _ _ _ 1000 _ (orc4 M) (tabOK M) (by kernel_rfl) (good5 M)
def l6 : List (List AV × AV) := [([.int .u32 4294967266], .int .u32 1325104299),
  ([.int .u32 1325104299], .int .u32 1095401756),
  ([.int .u32 1095401756], .int .u32 339744462),
  ([.int .u32 339744462], .int .u32 2093526945),
  ([.int .u32 2093526945], .int .u32 2712493009),
  ([.int .u32 2093526944], .int .u32 3601492807),
  ([.int .u32 3601492807], .int .u32 3899555416),
  ([.int .u32 3899555416], .int .u32 1700313016),
  ([.int .u32 1700313016], .int .u32 3319751433),
  ([.int .u32 3319751433], .int .u32 2031708103),
  ([.int .u32 2031708103], .int .u32 91836020),
  ([.int .u32 91836020], .int .u32 1466813547),
  ([.int .u32 1466813547], .int .u32 3661092124),
  ([.int .u32 3661092124], .int .u32 349924250),
  ([.int .u32 3661092125], .int .u32 1675385612),
  ([.int .u32 1675385612], .int .u32 164991088),
  ([.int .u32 164991088], .int .u32 1343005868),
  ([.int .u32 1343005868], .int .u32 3744523111),
  ([.int .u32 3744523111], .int .u32 3540632600),
  ([.int .u32 3744523110], .int .u32 2752443534),
  ([.int .u32 2752443534], .int .u32 178561235),
  ([.int .u32 178561235], .int .u32 533735374),
  ([.int .u32 533735374], .int .u32 2093170576),
  ([.int .u32 2093170576], .int .u32 4034089083),
  ([.int .u32 4034089083], .int .u32 3341278180),
  ([.int .u32 3341278180], .int .u32 2812281274),
  ([.int .u32 2812281274], .int .u32 722729619),
  ([.int .u32 722729619], .int .u32 1764610308),
  ([.int .u32 722729667], .int .u32 38174960),
  ([.int .u32 38174960], .int .u32 3183457436),
  ([.int .u32 3183457436], .int .u32 4177813723),
  ([.int .u32 3183457437], .int .u32 2382581837),
  ([.int .u32 2382581837], .int .u32 149110397),
  ([.int .u32 2382581836], .int .u32 2145652459),
  ([.int .u32 2145652459], .int .u32 933748734),
  ([.int .u32 2145652362], .int .u32 219319856),
  ([.int .u32 219319856], .int .u32 651436578),
  ([.int .u32 219319859], .int .u32 3218961304),
  ([.int .u32 3218961304], .int .u32 4268475909),
  ([.int .u32 3218961375], .int .u32 382931510),
  ([.int .u32 382931510], .int .u32 3484173963),
  ([.int .u32 382931571], .int .u32 3373986708),
  ([.int .u32 3373986708], .int .u32 4155198894),
  ([.int .u32 3373986752], .int .u32 2611861571),
  ([.int .u32 2611861571], .int .u32 4014915058)]
abbrev kn6 : Known := (258, l6) :: kn5
theorem good6 (M : Int) : @goodK Tryz.prog (fnsO Tryz.prog (knownOrc kn5) 1000) (tb M) 258 l6 = true := by kernel_rfl
theorem orc6 (M : Int) : @OrcOK Tryz.prog (tb M) (knownOrc kn6) := @orcOK_cons (tb M) _ _ _ 1000 _ (orc5 M) (tabOK M) (by kernel_rfl) (good6 M)
def l7 : List (List AV × AV) := [([.agg [.int .u64 1, .int .u32 1, .int .u64 1, .int .u8 1, .str [97], .int .u32 0, .int .u16 0, .int .u16 0, .int .u16 0, .int .u16 0, .int .u16 0, .int .u16 0, .int .u16 0, .int .u16 0, .int .u16 80, .str [71, 69, 84]]], .tup [.str [1, 0, 0, 0, 0, 0, 0, 0, 1, 0, 0, 0, 1, 0, 0, 0, 0, 0, 0, 0, 80, 0, 1, 1, 97, 3, 71, 69, 84], .int .i64 0])]
abbrev kn7 : Known := (148, l7) :: kn6
theorem good7 (M : Int) : @goodK Tryz.prog (fnsO Tryz.prog (knownOrc kn6) 1000) (tb M) 148 l7 = true := by kernel_rfl
theorem orc7 (M : Int) : @OrcOK Tryz.prog (tb M) (knownOrc kn7) := @orcOK_cons (tb M) _ _ _ 1000 _ (orc6 M) (tabOK M) (by kernel_rfl) (good7 M)
def l8 : List (List AV × AV) := [([.str [97, 117, 100, 105, 116, 45, 48, 48, 48, 48, 48, 48, 48, 48, 48, 48, 48, 48, 48, 48, 48, 48, 48, 48, 48, 49]], .bool true)]
abbrev kn8 : Known := (222, l8) :: kn7
theorem good8 (M : Int) : @goodK Tryz.prog (fnsO Tryz.prog (knownOrc kn7) 1000) (tb M) 222 l8 = true := by kernel_rfl
theorem orc8 (M : Int) : @OrcOK Tryz.prog (tb M) (knownOrc kn8) := @orcOK_cons (tb M) _ _ _ 1000 _ (orc7 M) (tabOK M) (by kernel_rfl) (good8 M)
def l9 : List (List AV × AV) := [([.str [104, 116, 116, 112, 58, 47, 47, 97, 47]], .str [104, 116, 116, 112, 58, 47, 47, 97, 47])]
abbrev kn9 : Known := (352, l9) :: kn8
theorem good9 (M : Int) : @goodK Tryz.prog (fnsO Tryz.prog (knownOrc kn8) 1000) (tb M) 352 l9 = true := by kernel_rfl
theorem orc9 (M : Int) : @OrcOK Tryz.prog (tb M) (knownOrc kn9) := @orcOK_cons (tb M) _ _ _ 1000 _ (orc8 M) (tabOK M) (by kernel_rfl) (good9 M)
def l10 : List (List AV × AV) := [([.str [97], .bool true], .tup [.agg [.int .u8 1, .str [97], .int .u32 0, .int .u16 0, .int .u16 0, .int .u16 0, .int .u16 0, .int .u16 0, .int .u16 0, .int .u16 0, .int .u16 0], .int .i64 0])]
abbrev kn10 : Known := (307, l10) :: kn9
theorem good10 (M : Int) : @goodK Tryz.prog (fnsO Tryz.prog (knownOrc kn9) 1000) (tb M) 307 l10 = true := by kernel_rfl
theorem orc10 (M : Int) : @OrcOK Tryz.prog (tb M) (knownOrc kn10) := @orcOK_cons (tb M) _ _ _ 1000 _ (orc9 M) (tabOK M) (by kernel_rfl) (good10 M)
def l11 : List (List AV × AV) := [([.agg [.int .u8 1, .str [97], .int .u32 0, .int .u16 0, .int .u16 0, .int .u16 0, .int .u16 0, .int .u16 0, .int .u16 0, .int .u16 0, .int .u16 0]], .tup [.agg [.int .u8 1, .str [97], .int .u32 0, .int .u16 0, .int .u16 0, .int .u16 0, .int .u16 0, .int .u16 0, .int .u16 0, .int .u16 0, .int .u16 0], .int .i64 0])]
abbrev kn11 : Known := (308, l11) :: kn10
theorem good11 (M : Int) : @goodK Tryz.prog (fnsO Tryz.prog (knownOrc kn10) 1000) (tb M) 308 l11 = true := by kernel_rfl
theorem orc11 (M : Int) : @OrcOK Tryz.prog (tb M) (knownOrc kn11) := @orcOK_cons (tb M) _ _ _ 1000 _ (orc10 M) (tabOK M) (by kernel_rfl) (good11 M)
def l12 : List (List AV × AV) := [([.str [104, 116, 116, 112, 58, 47, 47, 97, 47]], .tup [.agg [.int .u8 1, .str [97], .int .u32 0, .int .u16 0, .int .u16 0, .int .u16 0, .int .u16 0, .int .u16 0, .int .u16 0, .int .u16 0, .int .u16 0, .int .u16 80], .int .i64 0])]
abbrev kn12 : Known := (225, l12) :: kn11
theorem good12 (M : Int) : @goodK Tryz.prog (fnsO Tryz.prog (knownOrc kn11) 1000) (tb M) 225 l12 = true := by kernel_rfl
theorem orc12 (M : Int) : @OrcOK Tryz.prog (tb M) (knownOrc kn12) := @orcOK_cons (tb M) _ _ _ 1000 _ (orc11 M) (tabOK M) (by kernel_rfl) (good12 M)
def l13 : List (List AV × AV) := [([.str [104, 111, 115, 116, 58, 32, 97]], .tup [.agg [.str [104, 111, 115, 116], .str [97]], .bool true])]
abbrev kn13 : Known := (462, l13) :: kn12
theorem good13 (M : Int) : @goodK Tryz.prog (fnsO Tryz.prog (knownOrc kn12) 1000) (tb M) 462 l13 = true := by kernel_rfl
theorem orc13 (M : Int) : @OrcOK Tryz.prog (tb M) (knownOrc kn13) := @orcOK_cons (tb M) _ _ _ 1000 _ (orc12 M) (tabOK M) (by kernel_rfl) (good13 M)
def l14 : List (List AV × AV) := [([.str [71, 69, 84]], .bool true),
  ([.str [104, 111, 115, 116]], .bool true)]
abbrev kn14 : Known := (279, l14) :: kn13
theorem good14 (M : Int) : @goodK Tryz.prog (fnsO Tryz.prog (knownOrc kn13) 1000) (tb M) 279 l14 = true := by kernel_rfl
theorem orc14 (M : Int) : @OrcOK Tryz.prog (tb M) (knownOrc kn14) := @orcOK_cons (tb M) _ _ _ 1000 _ (orc13 M) (tabOK M) (by kernel_rfl) (good14 M)
end Go.Proofs.YtcideebbbdjlgaaGreatDoor
