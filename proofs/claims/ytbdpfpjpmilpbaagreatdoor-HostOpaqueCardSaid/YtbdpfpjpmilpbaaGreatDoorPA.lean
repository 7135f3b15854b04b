/-
  A step of the proof of this seat's statement. No condition.
-/
import Derived.Test.YtbdpfpjpmilpbaaGreatDoorProg
import Derived.KernelRfl
import Derived.Test.YtbdpfpjpmilpbaaGreatDoorG
import Derived.Lib.TrimU
namespace Go.Proofs.YtbdpfpjpmilpbaaGreatDoor
open Go Go.Rk
set_option maxRecDepth 1000000
set_option linter.unusedVariables false
set_option linter.unusedSimpArgs false
set_option linter.constructorNameAsVariable false
set_option linter.unusedSectionVars false
def firstN : List Nat := [240, 240, 240, 240, 240, 240, 240, 240, 240, 240, 240, 240, 240, 240, 240, 240, 240, 240, 240, 240, 240, 240, 240, 240, 240, 240, 240, 240, 240, 240, 240, 240, 240, 240, 240, 240, 240, 240, 240, 240, 240, 240, 240, 240, 240, 240, 240, 240, 240, 240, 240, 240, 240, 240, 240, 240, 240, 240, 240, 240, 240, 240, 240, 240, 240, 240, 240, 240, 240, 240, 240, 240, 240, 240, 240, 240, 240, 240, 240, 240, 240, 240, 240, 240, 240, 240, 240, 240, 240, 240, 240, 240, 240, 240, 240, 240, 240, 240, 240, 240, 240, 240, 240, 240, 240, 240, 240, 240, 240, 240, 240, 240, 240, 240, 240, 240, 240, 240, 240, 240, 240, 240, 240, 240, 240, 240, 240, 240, 241, 241, 241, 241, 241, 241, 241, 241, 241, 241, 241, 241, 241, 241, 241, 241, 241, 241, 241, 241, 241, 241, 241, 241, 241, 241, 241, 241, 241, 241, 241, 241, 241, 241, 241, 241, 241, 241, 241, 241, 241, 241, 241, 241, 241, 241, 241, 241, 241, 241, 241, 241, 241, 241, 241, 241, 241, 241, 241, 241, 241, 241, 241, 241, 241, 241, 2, 2, 2, 2, 2, 2, 2, 2, 2, 2, 2, 2, 2, 2, 2, 2, 2, 2, 2, 2, 2, 2, 2, 2, 2, 2, 2, 2, 2, 2, 19, 3, 3, 3, 3, 3, 3, 3, 3, 3, 3, 3, 3, 35, 3, 3, 52, 4, 4, 4, 68, 241, 241, 241, 241, 241, 241, 241, 241, 241, 241, 241]
def rangesN : List Nat := [128, 191, 160, 191, 128, 159, 144, 191, 128, 143, 0, 0, 0, 0, 0, 0, 0, 0, 0, 0, 0, 0, 0, 0, 0, 0, 0, 0, 0, 0, 0, 0]
def u8s : List Nat → List AV
  | [] => []
  | n :: l => .int .u8 (Int.ofNat n) :: u8s l
/-! the names of this seat -/
abbrev oB0 : Nat := 2
abbrev oB1 : Nat := 3
abbrev oB2 : Nat := 6
abbrev oB3 : Nat := 7
abbrev oB4 : Nat := 8
abbrev oB5 : Nat := 9
abbrev oB6 : Nat := 10
abbrev oB7 : Nat := 11
abbrev oB8 : Nat := 12
abbrev oB9 : Nat := 13
abbrev oB10 : Nat := 14
abbrev oB11 : Nat := 15
abbrev oB12 : Nat := 16
abbrev oB13 : Nat := 17
abbrev tY5 : Nat := 5
abbrev tY9 : Nat := 9
abbrev tY21 : Nat := 21
abbrev tY25 : Nat := 47
abbrev tY40 : Nat := 62
abbrev tY69 : Nat := 205
abbrev tY72 : Nat := 208
abbrev kF8 : Nat := 19
noncomputable abbrev cF8 : Func := Tryz.f19
abbrev kF9 : Nat := 14
noncomputable abbrev cF9 : Func := Tryz.f14
abbrev kF10 : Nat := 31
noncomputable abbrev cF10 : Func := Tryz.f31
abbrev kF13 : Nat := 108
noncomputable abbrev cF13 : Func := Tryz.f108
abbrev kF14 : Nat := 20
noncomputable abbrev cF14 : Func := Tryz.f20
abbrev kF15 : Nat := 45
noncomputable abbrev cF15 : Func := Tryz.f45
abbrev kF16 : Nat := 29
noncomputable abbrev cF16 : Func := Tryz.f29
abbrev kF17 : Nat := 30
noncomputable abbrev cF17 : Func := Tryz.f30
abbrev kF18 : Nat := 32
noncomputable abbrev cF18 : Func := Tryz.f32
abbrev kF19 : Nat := 33
noncomputable abbrev cF19 : Func := Tryz.f33
abbrev kF20 : Nat := 34
noncomputable abbrev cF20 : Func := Tryz.f34
abbrev kF21 : Nat := 59
noncomputable abbrev cF21 : Func := Tryz.f59
abbrev kF22 : Nat := 60
noncomputable abbrev cF22 : Func := Tryz.f60
abbrev kF23 : Nat := 40
noncomputable abbrev cF23 : Func := Tryz.f40
abbrev kF24 : Nat := 74
noncomputable abbrev cF24 : Func := Tryz.f74
abbrev kF25 : Nat := 75
noncomputable abbrev cF25 : Func := Tryz.f75
abbrev kF26 : Nat := 76
noncomputable abbrev cF26 : Func := Tryz.f76
abbrev kF28 : Nat := 57
noncomputable abbrev cF28 : Func := Tryz.f57
abbrev kF29 : Nat := 58
noncomputable abbrev cF29 : Func := Tryz.f58
abbrev kF31 : Nat := 85
noncomputable abbrev cF31 : Func := Tryz.f85
abbrev kF32 : Nat := 86
noncomputable abbrev cF32 : Func := Tryz.f86
abbrev kF33 : Nat := 87
noncomputable abbrev cF33 : Func := Tryz.f87
abbrev kF35 : Nat := 116
noncomputable abbrev cF35 : Func := Tryz.f116
abbrev kF36 : Nat := 117
noncomputable abbrev cF36 : Func := Tryz.f117
abbrev kF37 : Nat := 156
noncomputable abbrev cF37 : Func := Tryz.f156
instance tb : TabC := ⟨[(oB0, .cells (u8s firstN) tY69 0 257 false), (oB1, .cells (u8s rangesN) tY72 0 33 false)], fun x hx => by
  simp only [List.mem_cons, List.mem_nil_iff, or_false] at hx
  rcases hx with rfl | rfl <;> rfl⟩
theorem tabOK : TabOK Tryz.prog := fun x hx => by
  have hx : x ∈ [(oB0, AObj.cells (u8s firstN) tY69 0 257 false), (oB1, AObj.cells (u8s rangesN) tY72 0 33 false)] := hx
  simp only [List.mem_cons, List.mem_nil_iff, or_false] at hx
  have h2 : 6 ≤ Tryz.prog.globals.size := Nat.le_of_ble_eq_true (show Nat.ble 6 Tryz.prog.globals.size = true by kernel_rfl)
  rcases hx with rfl | rfl
  · exact ⟨rfl, Nat.lt_of_lt_of_le (by decide) h2⟩
  · exact ⟨rfl, Nat.lt_of_lt_of_le (by decide) h2⟩
theorem dF8 : Tryz.prog.funcs[kF8]? = some cF8 := Tryz.func19
theorem dF9 : Tryz.prog.funcs[kF9]? = some cF9 := Tryz.func14
theorem dF10 : Tryz.prog.funcs[kF10]? = some cF10 := Tryz.func31
theorem dF13 : Tryz.prog.funcs[kF13]? = some cF13 := Tryz.func108
theorem dF14 : Tryz.prog.funcs[kF14]? = some cF14 := Tryz.func20
theorem dF15 : Tryz.prog.funcs[kF15]? = some cF15 := Tryz.func45
theorem dF16 : Tryz.prog.funcs[kF16]? = some cF16 := Tryz.func29
theorem dF17 : Tryz.prog.funcs[kF17]? = some cF17 := Tryz.func30
theorem dF18 : Tryz.prog.funcs[kF18]? = some cF18 := Tryz.func32
theorem dF19 : Tryz.prog.funcs[kF19]? = some cF19 := Tryz.func33
theorem dF20 : Tryz.prog.funcs[kF20]? = some cF20 := Tryz.func34
theorem dF21 : Tryz.prog.funcs[kF21]? = some cF21 := Tryz.func59
theorem dF22 : Tryz.prog.funcs[kF22]? = some cF22 := Tryz.func60
theorem dF23 : Tryz.prog.funcs[kF23]? = some cF23 := Tryz.func40
theorem dF24 : Tryz.prog.funcs[kF24]? = some cF24 := Tryz.func74
theorem dF25 : Tryz.prog.funcs[kF25]? = some cF25 := Tryz.func75
theorem dF26 : Tryz.prog.funcs[kF26]? = some cF26 := Tryz.func76
theorem dF28 : Tryz.prog.funcs[kF28]? = some cF28 := Tryz.func57
theorem dF29 : Tryz.prog.funcs[kF29]? = some cF29 := Tryz.func58
theorem dF31 : Tryz.prog.funcs[kF31]? = some cF31 := Tryz.func85
theorem dF32 : Tryz.prog.funcs[kF32]? = some cF32 := Tryz.func86
theorem dF33 : Tryz.prog.funcs[kF33]? = some cF33 := Tryz.func87
theorem dF35 : Tryz.prog.funcs[kF35]? = some cF35 := Tryz.func116
theorem dF36 : Tryz.prog.funcs[kF36]? = some cF36 := Tryz.func117
theorem dF37 : Tryz.prog.funcs[kF37]? = some cF37 := Tryz.func156

end Go.Proofs.YtbdpfpjpmilpbaaGreatDoor

namespace Go.Proofs.YtbdpfpjpmilpbaaGreatDoor
open Go Go.Rk
set_option maxRecDepth 1000000
set_option linter.unusedVariables false
set_option linter.unusedSimpArgs false
set_option linter.constructorNameAsVariable false
set_option linter.unusedSectionVars false
noncomputable abbrev P : Program := Tryz.prog
noncomputable abbrev F : Fns := F0 Tryz.prog
theorem hF : FOK P F := F0_ok
abbrev i64 (n : Nat) : AV := .int .i64 (Int.ofNat n)
abbrev by8 (n : Nat) : AV := .int .u8 (Int.ofNat n)
abbrev i32 (n : Int) : AV := .int .i32 n
/-! digits -/
def digN (n : Nat) : Option Nat := if 48 ≤ n ∧ n ≤ 57 then some (n - 48) else if 65 ≤ n ∧ n ≤ 70 then some (n - 55) else if 97 ≤ n ∧ n ≤ 102 then some (n - 87) else none
def digV (n : Nat) : AV := .tup [by8 ((digN n).getD 0), .bool (digN n).isSome]
def tab (v : Nat → AV) : Nat → Nat → List (List AV × AV)
  | 0, _ => []
  | k + 1, i => ([by8 i], v i) :: tab v k (i + 1)
theorem tab_mem {v : Nat → AV} : ∀ {k i n : Nat}, i ≤ n → n < i + k → ([by8 n], v n) ∈ tab v k i
  | 0, i, n, h1, h2 => by omega
  | k + 1, i, n, h1, h2 => by
    by_cases h : n = i
    · subst h; exact List.mem_cons_self
    · exact List.mem_cons_of_mem _ (tab_mem (by omega) (by omega))
theorem digit_good : goodK P F kF23 (tab digV 256 0) = true := by kernel_rfl
theorem digit_T {n : Nat} (hn : n < 256) (h : Heap) : CallT P kF23 [by8 n] h (.ret (digV n) h none) := known_T tabOK hF digit_good (tab_mem (Nat.zero_le _) (by omega)) h
/-! room -/
def roomN (b : Nat) : Nat × Nat × Nat :=
  if b < 128 then (0, 0, 1) else if b < 194 then (0, 0, 0) else if b ≤ 223 then (128, 191, 2) else if b = 224 then (160, 191, 3) else if b = 237 then (128, 159, 3) else if b ≤ 239 then (128, 191, 3)
  else if b = 240 then (144, 191, 4) else if b = 244 then (128, 143, 4) else if b ≤ 244 then (128, 191, 4) else (0, 0, 0)
def roomV (n : Nat) : AV := .tup [by8 (roomN n).1, by8 (roomN n).2.1, i64 (roomN n).2.2]
theorem room_good : goodK P F kF35 (tab roomV 256 0) = true := by kernel_rfl
theorem room_T {n : Nat} (hn : n < 256) (h : Heap) : CallT P kF35 [by8 n] h (.ret (roomV n) h none) := known_T tabOK hF room_good (tab_mem (Nat.zero_le _) (by omega)) h
/-! more -/
def moreS (a : Nat) : List UInt8 := match a with
  | 1 => [32, 34, 60, 62, 96]
  | 2 => [32, 34, 35, 60, 62]
  | 3 => [32, 34, 35, 60, 62, 39]
  | 4 => [63, 94, 96, 123, 125, 32, 34, 35, 60, 62]
  | 5 => [47, 58, 59, 61, 64, 91, 92, 93, 124, 63, 94, 96, 123, 125, 32, 34, 35, 60, 62]
  | 6 => [36, 37, 38, 43, 44, 47, 58, 59, 61, 64, 91, 92, 93, 124, 63, 94, 96, 123, 125, 32, 34, 35, 60, 62]
  | _ => []
theorem more_good : goodK P F kF22 (tab (fun n => .str (moreS n)) 7 0) = true := by kernel_rfl
theorem more_T {n : Nat} (hn : n ≤ 6) (h : Heap) : CallT P kF22 [by8 n] h (.ret (.str (moreS n)) h none) := known_T tabOK hF more_good (tab_mem (v := fun n => .str (moreS n)) (Nat.zero_le _) (by omega)) h
end Go.Proofs.YtbdpfpjpmilpbaaGreatDoor

namespace Go.Proofs.YtbdpfpjpmilpbaaGreatDoor
open Go Go.Rk
set_option maxRecDepth 1000000
set_option linter.unusedVariables false
set_option linter.unusedSimpArgs false
set_option linter.constructorNameAsVariable false
set_option linter.unusedSectionVars false
def tabs : List (Nat × AObj) := [(oB0, .cells (u8s firstN) tY69 0 257 false), (oB1, .cells (u8s rangesN) tY72 0 33 false)]
abbrev KT : Keep := [(oB0, some []), (oB1, some [])]
/-! is a rune among a text's -/
def hasF (r : Int) (s : List UInt8) : Nat → Nat → Bool
  | 0, _ => false
  | f + 1, pos => if pos < s.length then (if eqI (Int.ofNat (decodeAt (s.drop pos)).1) r then true else hasF r s f (pos + (decodeAt (s.drop pos)).2)) else false
theorem size1 (s : List UInt8) : 1 ≤ (decodeAt s).2 := Lib.width_pos _ _
section
variable (s : List UInt8) (r : Int)
abbrev E21 : T := envOf [(0, .str s), (1, .int .i32 r), (4, .bool false), (8, .ptr oB2 0 0)]
abbrev H21 (pos : Nat) : Heap := heapOf oB3 ((oB2, .strIter s pos) :: tabs)
abbrev Hd : Heap := heapOf oB3 ((oB2, .dead) :: tabs)
def R21 (b : Bool) : XR := bif b then .ret (envOf [(4, .bool true)]) Hd d0 else .exit 0 (envOf [(4, .bool false)]) Hd d0
theorem s21a {pos : Nat} (h : s.length ≤ pos) : Trip P 15 (lp cF21 0) (E21 s r) (H21 s pos) d0 (R21 false) :=
  trip_shed hF (by rfl) [(9, .u (.bool false))] oB3 ((oB2, none) :: KT) [4] (ofK (b := s.length ≤ pos ∧ (true = true ∧ true = true ∧ true = true ∧ true = true ∧ True) ∧ R21 false = R21 false) (by kernel_rfl) ⟨h, ⟨rfl, rfl, rfl, rfl, trivial⟩, rfl⟩)
theorem s21b {pos : Nat} (h : pos < s.length) (he : eqI (Int.ofNat (decodeAt (s.drop pos)).1) r = true) : Trip P 15 (lp cF21 0) (E21 s r) (H21 s pos) d0 (R21 true) :=
  trip_shed hF (by rfl) [(9, .u (.bool true)), (14, .e (.bool true))] oB3 ((oB2, none) :: KT) [4]
    (ofK (b := pos < s.length ∧ AV.bool (eqI (Int.ofNat (decodeAt (s.drop pos)).1) r) = .bool true ∧ (true = true ∧ true = true ∧ true = true ∧ true = true ∧ True) ∧ R21 true = R21 true) (by kernel_rfl) ⟨h, by rw [he], ⟨rfl, rfl, rfl, rfl, trivial⟩, rfl⟩)
theorem s21c {pos : Nat} (h : pos < s.length) (he : eqI (Int.ofNat (decodeAt (s.drop pos)).1) r = false) : Trip P 15 (lp cF21 0) (E21 s r) (H21 s pos) d0 (.nrm (E21 s r) (H21 s (pos + (decodeAt (s.drop pos)).2)) d0) :=
  trip_shed hF (by rfl) [(9, .u (.bool true)), (14, .e (.bool false))] oB3 ((oB2, some []) :: KT) [0, 1, 4, 8]
    (ofK (b := pos < s.length ∧ AV.bool (eqI (Int.ofNat (decodeAt (s.drop pos)).1) r) = .bool false ∧ (true = true ∧ true = true ∧ true = true ∧ true = true ∧ True) ∧ XR.nrm (E21 s r) (H21 s (pos + (decodeAt (s.drop pos)).2)) d0 = .nrm (E21 s r) (H21 s (pos + (decodeAt (s.drop pos)).2)) d0) (by kernel_rfl) ⟨h, by rw [he], ⟨rfl, rfl, rfl, rfl, trivial⟩, rfl⟩)
theorem loop21 : ∀ x : { x : Nat × Nat // s.length ≤ x.2 + x.1 }, TripL P 15 (lp cF21 0) (E21 s r) (H21 s x.1.2) d0 (R21 (hasF r s x.1.1 x.1.2)) := by
  refine TripL.fam (fun _ => E21 s r) (fun (x : { x : Nat × Nat // s.length ≤ x.2 + x.1 }) => H21 s x.1.2) d0 (fun x => R21 (hasF r s x.1.1 x.1.2)) (fun x => x.1.1) fun ⟨⟨n, pos⟩, hx⟩ => ?_
  simp only at hx ⊢
  cases n with
  | zero => exact .inl ⟨rfl, s21a s r (by omega)⟩
  | succ n =>
    by_cases hp : pos < s.length
    · cases he : eqI (Int.ofNat (decodeAt (s.drop pos)).1) r with
      | true =>
        have : hasF r s (n + 1) pos = true := by simp only [hasF, if_pos hp, he, if_true]
        rw [this]
        exact .inl ⟨rfl, s21b s r hp he⟩
      | false =>
        have hh : hasF r s (n + 1) pos = hasF r s n (pos + (decodeAt (s.drop pos)).2) := by simp only [hasF, if_pos hp, he]; rfl
        have := size1 (s.drop pos)
        exact .inr ⟨⟨(n, pos + (decodeAt (s.drop pos)).2), by simp only; omega⟩, by simp, by rw [hh], s21c s r hp he⟩
    · have : hasF r s (n + 1) pos = false := by simp only [hasF, if_neg hp]
      rw [this]
      exact .inl ⟨rfl, s21a s r (by omega)⟩
theorem hasRune_T (h : Heap) : CallT P kF21 [.str s, .int .i32 r] h (.ret (.bool (hasF r s s.length 0)) h none) := by
  cases hb : hasF r s s.length 0 with
  | true =>
    refine pure_hC tabOK hF (by rfl) (by rfl) [(3, .l [0, 1, 4, 8] (R21 true))] dF21 (by kernel_rfl) (ofK (b := TripI P 15 (.loop (lp cF21 0)) (E21 s r) (H21 s 0) d0 (R21 true) ∧ AV.bool true = .bool true) (by kernel_rfl) ⟨⟨?_⟩, rfl⟩) h
    have := (loop21 s r ⟨(s.length, 0), by simp⟩).trip
    simp only [hb] at this
    exact this
  | false =>
    refine pure_hC tabOK hF (by rfl) (by rfl) [(3, .l [0, 1, 4, 8] (R21 false))] dF21 (by kernel_rfl) (ofK (b := TripI P 15 (.loop (lp cF21 0)) (E21 s r) (H21 s 0) d0 (R21 false) ∧ AV.bool false = .bool false) (by kernel_rfl) ⟨⟨?_⟩, rfl⟩) h
    have := (loop21 s r ⟨(s.length, 0), by simp⟩).trip
    simp only [hb] at this
    exact this
end
end Go.Proofs.YtbdpfpjpmilpbaaGreatDoor

namespace Go.Proofs.YtbdpfpjpmilpbaaGreatDoor
open Go Go.Rk
set_option maxRecDepth 1000000
set_option linter.unusedVariables false
set_option linter.unusedSimpArgs false
set_option linter.constructorNameAsVariable false
set_option linter.unusedSectionVars false
/-! a scalar's bytes -/
def encN (c : Nat) : List Nat := if c < 128 then [c] else if c < 2048 then [192 + c / 64, 128 + c % 64] else if c < 65536 then [224 + c / 4096, 128 + c / 64 % 64, 128 + c % 64]
  else [240 + c / 262144, 128 + c / 4096 % 64, 128 + c / 64 % 64, 128 + c % 64]
def encB (c : Nat) : List UInt8 := (encN c).map UInt8.ofNat
def valid (c : Nat) : Prop := c < 55296 ∨ (57343 < c ∧ c ≤ 1114111)
theorem validRune_T {c : Nat} (hv : valid c) (h : Heap) : CallT P kF28 [i32 (Int.ofNat c)] h (.ret (.bool true) h none) := by
  rcases hv with hv | ⟨h1, h2⟩
  · exact pure_hC tabOK hF (by rfl) (by rfl) [(8, .e (.bool true))] dF28 (by kernel_rfl) (ofK (b := AV.bool (ltI (Int.ofNat c) (Int.ofNat 55296)) = .bool true ∧ AV.bool true = .bool true) (by kernel_rfl) ⟨by rw [ltN]; simpa using hv, rfl⟩) h
  · exact pure_hC tabOK hF (by rfl) (by rfl) [(8, .e (.bool false)), (12, .e (.bool true)), (15, .e (.bool true))] dF28 (by kernel_rfl)
      (ofK (b := AV.bool (ltI (Int.ofNat c) (Int.ofNat 55296)) = .bool false ∧ AV.bool (ltI (Int.ofNat 57343) (Int.ofNat c)) = .bool true ∧ AV.bool (!ltI (Int.ofNat 1114111) (Int.ofNat c)) = .bool true ∧ AV.bool true = .bool true) (by kernel_rfl)
        ⟨by rw [ltN]; simp; omega, by rw [ltN]; simp; omega, by rw [ltN]; simp; omega, rfl⟩) h
noncomputable abbrev hx (c fz : Nat) : Heap := hpOne P [i32 (Int.ofNat c)] tY21 fz
abbrev HA (c fz : Nat) (L : List Nat) : Heap := heapOf oB5 ([(oB2, .cells [i32 (Int.ofNat c)] tY21 0 (fz + 2) false), (oB3, .cells (u8s L) tY5 0 0 false), (oB4, .cells (u8s L) tY5 0 0 false)] ++ tabs)
theorem pb1 {c : Nat} (h : c < 128) : wrapF .u8 (Int.ofNat c) = Int.ofNat c := by rw [wrapU8, Nat.mod_eq_of_lt (by omega)]
theorem pb2 {c : Nat} (h : c < 2048) : orI .u8 (Int.ofNat 192) (wrapF .u8 (Int.ofNat (c / 64))) = Int.ofNat (192 + c / 64) := by
  rw [wrapU8, Nat.mod_eq_of_lt (by omega), orU8 (by omega) (by omega), or192 (by omega)]
theorem pb3 {c : Nat} (h : c < 65536) : orI .u8 (Int.ofNat 224) (wrapF .u8 (Int.ofNat (c / 4096))) = Int.ofNat (224 + c / 4096) := by
  rw [wrapU8, Nat.mod_eq_of_lt (by omega), orU8 (by omega) (by omega), or224 (by omega)]
theorem pb4 {c : Nat} (h : c ≤ 1114111) : orI .u8 (Int.ofNat 240) (wrapF .u8 (Int.ofNat (c / 262144))) = Int.ofNat (240 + c / 262144) := by
  rw [wrapU8, Nat.mod_eq_of_lt (by omega), orU8 (by omega) (by omega), or240 (by omega)]
theorem pbt (c : Nat) : orI .u8 (Int.ofNat 128) (andI .u8 (wrapF .u8 (Int.ofNat c)) (Int.ofNat 63)) = Int.ofNat (128 + c % 64) := by
  have : c % 256 % 64 = c % 64 := by omega
  rw [wrapU8, andU8 (by omega) (by omega), and63, this, orU8 (by omega) (by omega), or128 (by omega)]
theorem u32c {c : Nat} (h : c ≤ 1114111) : wrapF .u32 (Int.ofNat c) = Int.ofNat c := wrapU32 (by omega)
theorem app1 {c : Nat} (h : c < 128) (fz : Nat) : CallT P kF29 [.slice0, i32 (Int.ofNat c)] (hx c fz) (.ret (.slice oB4 0 0 1 1 1 false) (HA c fz [c]) none) :=
  callT_hC hF [(7, .e (.bool true)), (10, .e (by8 c))] dF29 (c := bodyOf cF29) (by kernel_rfl) (by kernel_rfl) (by kernel_rfl) (by kernel_rfl)
    (ofK (b := AV.bool (!ltI (Int.ofNat 127) (wrapF .u32 (Int.ofNat c))) = .bool true ∧ AV.int .u8 (wrapF .u8 (Int.ofNat c)) = by8 c ∧ CR.ret (.slice oB4 0 0 1 1 1 false) (HA c fz [c]) none = .ret (.slice oB4 0 0 1 1 1 false) (HA c fz [c]) none) (by kernel_rfl)
      ⟨by rw [u32c (by omega), ltN]; simp; omega, by rw [pb1 h], rfl⟩)
theorem app33_2 {c : Nat} (h0 : 128 ≤ c) (h : c < 2048) (fz : Nat) : CallT P kF33 [.slice0, i32 (Int.ofNat c)] (hx c fz) (.ret (.slice oB4 0 0 2 2 1 false) (HA c fz [192 + c / 64, 128 + c % 64]) none) :=
  callT_hC hF [(13, .e (.bool true)), (18, .e (by8 (192 + c / 64))), (22, .e (by8 (128 + c % 64)))] dF33 (c := bodyOf cF33) (by kernel_rfl) (by kernel_rfl) (by kernel_rfl) (by kernel_rfl)
    (ofK (b := AV.bool (!ltI (Int.ofNat 2047) (wrapF .u32 (Int.ofNat c))) = .bool true ∧ AV.int .u8 (orI .u8 (Int.ofNat 192) (wrapF .u8 (Int.ofNat (c / 64)))) = by8 (192 + c / 64) ∧ AV.int .u8 (orI .u8 (Int.ofNat 128) (andI .u8 (wrapF .u8 (Int.ofNat c)) (Int.ofNat 63))) = by8 (128 + c % 64)
      ∧ CR.ret (.slice oB4 0 0 2 2 1 false) (HA c fz [192 + c / 64, 128 + c % 64]) none = .ret (.slice oB4 0 0 2 2 1 false) (HA c fz [192 + c / 64, 128 + c % 64]) none) (by kernel_rfl)
      ⟨by rw [u32c (by omega), ltN]; simp; omega, by rw [pb2 h], by rw [pbt], rfl⟩)
theorem app33_3 {c : Nat} (h0 : 2048 ≤ c) (h : c < 65536) (hv : valid c) (fz : Nat) : CallT P kF33 [.slice0, i32 (Int.ofNat c)] (hx c fz) (.ret (.slice oB4 0 0 3 3 1 false) (HA c fz [224 + c / 4096, 128 + c / 64 % 64, 128 + c % 64]) none) := by
  by_cases h2 : c < 55296
  · exact callT_hC hF [(13, .e (.bool false)), (27, .e (.bool true)), (38, .e (by8 (224 + c / 4096))), (43, .e (by8 (128 + c / 64 % 64))), (47, .e (by8 (128 + c % 64)))] dF33 (c := bodyOf cF33) (by kernel_rfl) (by kernel_rfl) (by kernel_rfl) (by kernel_rfl)
      (ofK (b := AV.bool (!ltI (Int.ofNat 2047) (wrapF .u32 (Int.ofNat c))) = .bool false ∧ AV.bool (ltI (wrapF .u32 (Int.ofNat c)) (Int.ofNat 55296)) = .bool true ∧ AV.int .u8 (orI .u8 (Int.ofNat 224) (wrapF .u8 (Int.ofNat (c / 4096)))) = by8 (224 + c / 4096)
        ∧ AV.int .u8 (orI .u8 (Int.ofNat 128) (andI .u8 (wrapF .u8 (Int.ofNat (c / 64))) (Int.ofNat 63))) = by8 (128 + c / 64 % 64) ∧ AV.int .u8 (orI .u8 (Int.ofNat 128) (andI .u8 (wrapF .u8 (Int.ofNat c)) (Int.ofNat 63))) = by8 (128 + c % 64)
        ∧ CR.ret (.slice oB4 0 0 3 3 1 false) (HA c fz [224 + c / 4096, 128 + c / 64 % 64, 128 + c % 64]) none = .ret (.slice oB4 0 0 3 3 1 false) (HA c fz [224 + c / 4096, 128 + c / 64 % 64, 128 + c % 64]) none) (by kernel_rfl)
        ⟨by rw [u32c (by omega), ltN]; simp; omega, by rw [u32c (by omega), ltN]; simp; omega, by rw [pb3 h], by rw [pbt], by rw [pbt], rfl⟩)
  · have hv' : 57343 < c := by rcases hv with hv | hv <;> omega
    exact callT_hC hF [(13, .e (.bool false)), (27, .e (.bool false)), (29, .e (.bool true)), (32, .e (.bool true)), (38, .e (by8 (224 + c / 4096))), (43, .e (by8 (128 + c / 64 % 64))), (47, .e (by8 (128 + c % 64)))] dF33 (c := bodyOf cF33) (by kernel_rfl) (by kernel_rfl) (by kernel_rfl) (by kernel_rfl)
      (ofK (b := AV.bool (!ltI (Int.ofNat 2047) (wrapF .u32 (Int.ofNat c))) = .bool false ∧ AV.bool (ltI (wrapF .u32 (Int.ofNat c)) (Int.ofNat 55296)) = .bool false ∧ AV.bool (ltI (Int.ofNat 57343) (wrapF .u32 (Int.ofNat c))) = .bool true ∧ AV.bool (!ltI (Int.ofNat 65535) (wrapF .u32 (Int.ofNat c))) = .bool true
        ∧ AV.int .u8 (orI .u8 (Int.ofNat 224) (wrapF .u8 (Int.ofNat (c / 4096)))) = by8 (224 + c / 4096)
        ∧ AV.int .u8 (orI .u8 (Int.ofNat 128) (andI .u8 (wrapF .u8 (Int.ofNat (c / 64))) (Int.ofNat 63))) = by8 (128 + c / 64 % 64) ∧ AV.int .u8 (orI .u8 (Int.ofNat 128) (andI .u8 (wrapF .u8 (Int.ofNat c)) (Int.ofNat 63))) = by8 (128 + c % 64)
        ∧ CR.ret (.slice oB4 0 0 3 3 1 false) (HA c fz [224 + c / 4096, 128 + c / 64 % 64, 128 + c % 64]) none = .ret (.slice oB4 0 0 3 3 1 false) (HA c fz [224 + c / 4096, 128 + c / 64 % 64, 128 + c % 64]) none) (by kernel_rfl)
        ⟨by rw [u32c (by omega), ltN]; simp; omega, by rw [u32c (by omega), ltN]; simp; omega, by rw [u32c (by omega), ltN]; simp; omega, by rw [u32c (by omega), ltN]; simp; omega, by rw [pb3 h], by rw [pbt], by rw [pbt], rfl⟩)
theorem app33_4 {c : Nat} (h0 : 65536 ≤ c) (h : c ≤ 1114111) (fz : Nat) : CallT P kF33 [.slice0, i32 (Int.ofNat c)] (hx c fz) (.ret (.slice oB4 0 0 4 4 1 false) (HA c fz [240 + c / 262144, 128 + c / 4096 % 64, 128 + c / 64 % 64, 128 + c % 64]) none) :=
  callT_hC hF [(13, .e (.bool false)), (27, .e (.bool false)), (29, .e (.bool true)), (32, .e (.bool false)), (52, .e (.bool true)), (55, .e (.bool true)), (61, .e (by8 (240 + c / 262144))), (66, .e (by8 (128 + c / 4096 % 64))), (71, .e (by8 (128 + c / 64 % 64))), (75, .e (by8 (128 + c % 64)))] dF33 (c := bodyOf cF33) (by kernel_rfl) (by kernel_rfl) (by kernel_rfl) (by kernel_rfl)
    (ofK (b := AV.bool (!ltI (Int.ofNat 2047) (wrapF .u32 (Int.ofNat c))) = .bool false ∧ AV.bool (ltI (wrapF .u32 (Int.ofNat c)) (Int.ofNat 55296)) = .bool false ∧ AV.bool (ltI (Int.ofNat 57343) (wrapF .u32 (Int.ofNat c))) = .bool true ∧ AV.bool (!ltI (Int.ofNat 65535) (wrapF .u32 (Int.ofNat c))) = .bool false
        ∧ AV.bool (ltI (Int.ofNat 65535) (wrapF .u32 (Int.ofNat c))) = .bool true ∧ AV.bool (!ltI (Int.ofNat 1114111) (wrapF .u32 (Int.ofNat c))) = .bool true
        ∧ AV.int .u8 (orI .u8 (Int.ofNat 240) (wrapF .u8 (Int.ofNat (c / 262144)))) = by8 (240 + c / 262144) ∧ AV.int .u8 (orI .u8 (Int.ofNat 128) (andI .u8 (wrapF .u8 (Int.ofNat (c / 4096))) (Int.ofNat 63))) = by8 (128 + c / 4096 % 64)
        ∧ AV.int .u8 (orI .u8 (Int.ofNat 128) (andI .u8 (wrapF .u8 (Int.ofNat (c / 64))) (Int.ofNat 63))) = by8 (128 + c / 64 % 64) ∧ AV.int .u8 (orI .u8 (Int.ofNat 128) (andI .u8 (wrapF .u8 (Int.ofNat c)) (Int.ofNat 63))) = by8 (128 + c % 64)
        ∧ CR.ret (.slice oB4 0 0 4 4 1 false) (HA c fz [240 + c / 262144, 128 + c / 4096 % 64, 128 + c / 64 % 64, 128 + c % 64]) none = .ret (.slice oB4 0 0 4 4 1 false) (HA c fz [240 + c / 262144, 128 + c / 4096 % 64, 128 + c / 64 % 64, 128 + c % 64]) none) (by kernel_rfl)
        ⟨by rw [u32c (by omega), ltN]; simp; omega, by rw [u32c (by omega), ltN]; simp; omega, by rw [u32c (by omega), ltN]; simp; omega, by rw [u32c (by omega), ltN]; simp; omega, by rw [u32c (by omega), ltN]; simp; omega, by rw [u32c (by omega), ltN]; simp; omega,
          by rw [pb4 h], by rw [pbt], by rw [pbt], by rw [pbt], rfl⟩)
theorem app_of33 {c : Nat} (h0 : 128 ≤ c) (h : c ≤ 1114111) (fz : Nat) (v : AV) (h' : Heap) (hc : CallT P kF33 [.slice0, i32 (Int.ofNat c)] (hx c fz) (.ret v h' none)) : CallT P kF29 [.slice0, i32 (Int.ofNat c)] (hx c fz) (.ret v h' none) :=
  callT_hC hF [(7, .e (.bool false)), (15, .c (.ret v h' none))] dF29 (c := bodyOf cF29) (by kernel_rfl) (by kernel_rfl) (by kernel_rfl) (by kernel_rfl)
    (ofK (b := AV.bool (!ltI (Int.ofNat 127) (wrapF .u32 (Int.ofNat c))) = .bool false ∧ CallI P kF33 [.slice0, i32 (Int.ofNat c)] (hx c fz) (.ret v h' none) ∧ CR.ret v h' none = .ret v h' none) (by kernel_rfl)
      ⟨by rw [u32c (by omega), ltN]; simp; omega, ⟨hc⟩, rfl⟩)
end Go.Proofs.YtbdpfpjpmilpbaaGreatDoor

namespace Go.Proofs.YtbdpfpjpmilpbaaGreatDoor
open Go Go.Rk
set_option maxRecDepth 1000000
set_option linter.unusedVariables false
set_option linter.unusedSimpArgs false
set_option linter.constructorNameAsVariable false
set_option linter.unusedSectionVars false
theorem u8s_len : ∀ {L : List Nat}, (u8s L).length = L.length
  | [] => rfl
  | n :: l => by simp [u8s, u8s_len (L := l)]
theorem u8s_below {n : Nat} : ∀ {L : List Nat}, belowVs n (u8s L) = true
  | [] => rfl
  | a :: l => by simp [u8s, belowVs, belowV, u8s_below (L := l)]
theorem u8s_plain : ∀ {L : List Nat}, plainVs (u8s L) = true
  | [] => rfl
  | a :: l => by simp [u8s, plainVs, plainV, u8s_plain (L := l)]
theorem u8s_map : ∀ {L : List Nat}, (∀ n ∈ L, n < 256) → u8s L = (L.map UInt8.ofNat).map u8
  | [], _ => rfl
  | a :: l, h => by
    have ha := h a (by simp)
    simp only [u8s, List.map_cons, u8s_map (L := l) fun n hn => h n (by simp [hn])]
    congr 1
    simp [u8, UInt8.toNat_ofNat, Nat.mod_eq_of_lt ha]
theorem encN_lt {c : Nat} (h : c ≤ 1114111) : ∀ n ∈ encN c, n < 256 := by
  intro n hn
  unfold encN at hn
  split at hn
  · simp at hn; omega
  · split at hn
    · simp at hn; omega
    · split at hn
      · simp at hn; omega
      · simp at hn; omega
theorem valid_le {c : Nat} (h : valid c) : c ≤ 1114111 := by rcases h with h | h <;> omega
theorem app_T {c : Nat} (hv : valid c) (fz : Nat) : CallT P kF29 [.slice0, i32 (Int.ofNat c)] (hx c fz) (.ret (.slice oB4 0 0 (encN c).length (encN c).length 1 false) (HA c fz (encN c)) none) := by
  have hle := valid_le hv
  by_cases h1 : c < 128
  · have : encN c = [c] := by simp [encN, h1]
    rw [this]; exact app1 h1 fz
  · by_cases h2 : c < 2048
    · have : encN c = [192 + c / 64, 128 + c % 64] := by simp [encN, h1, h2]
      rw [this]; exact app_of33 (by omega) hle fz _ _ (app33_2 (by omega) h2 fz)
    · by_cases h3 : c < 65536
      · have : encN c = [224 + c / 4096, 128 + c / 64 % 64, 128 + c % 64] := by simp [encN, h1, h2, h3]
        rw [this]; exact app_of33 (by omega) hle fz _ _ (app33_3 (by omega) h3 hv fz)
      · have : encN c = [240 + c / 262144, 128 + c / 4096 % 64, 128 + c / 64 % 64, 128 + c % 64] := by simp [encN, h1, h2, h3]
        rw [this]; exact app_of33 (by omega) hle fz _ _ (app33_4 (by omega) hle fz)
abbrev E17 (v : AV) (i : Nat) : T := envOf [(2, .str []), (3, i64 0), (4, v), (7, .slice oB2 0 0 1 1 1 true), (8, i64 1), (9, i64 i)]
abbrev HB (c fz : Nat) (L : List Nat) : Heap := heapOf oB5 ([(oB2, .cells [i32 (Int.ofNat c)] tY21 0 (fz + 2) false), (oB3, .dead), (oB4, .cells (u8s L) tY5 0 0 false)] ++ tabs)
theorem s17a {c : Nat} (hv : valid c) (fz : Nat) (L : List Nat) (hL : L = encN c) : Trip P 22 (lp cF17 0) (E17 .slice0 0) (hx c fz) d0 (.nrm (E17 (.slice oB4 0 0 L.length L.length 1 false) 1) (HB c fz L) d0) :=
  trip_shed hF (by rfl) [(14, .c (.ret (.bool true) (hx c fz) none)), (18, .c (.ret (.slice oB4 0 0 L.length L.length 1 false) (HA c fz L) none))] oB5 ([(oB2, some []), (oB3, none), (oB4, some [])] ++ KT) [2, 3, 4, 7, 8, 9]
    (ofK (b := CallI P kF28 [i32 (Int.ofNat c)] (hx c fz) (.ret (.bool true) (hx c fz) none) ∧ CallI P kF29 [.slice0, i32 (Int.ofNat c)] (hx c fz) (.ret (.slice oB4 0 0 L.length L.length 1 false) (HA c fz L) none) ∧
        (true = true ∧ true = true ∧ true = true ∧ belowVs oB5 (u8s L) = true ∧ true = true ∧ true = true ∧ True) ∧ XR.nrm (E17 (.slice oB4 0 0 L.length L.length 1 false) 1) (HB c fz L) d0 = .nrm (E17 (.slice oB4 0 0 L.length L.length 1 false) 1) (HB c fz L) d0) (by kernel_rfl)
      ⟨⟨validRune_T hv _⟩, ⟨by rw [hL]; exact app_T hv fz⟩, ⟨rfl, rfl, rfl, u8s_below, rfl, rfl, trivial⟩, rfl⟩)
theorem s17b (c fz : Nat) (L : List Nat) : Trip P 22 (lp cF17 0) (E17 (.slice oB4 0 0 L.length L.length 1 false) 1) (HB c fz L) d0 (.exit 0 (E17 (.slice oB4 0 0 L.length L.length 1 false) 1) (HB c fz L) d0) :=
  trip_shed hF (by rfl) [] oB5 ([(oB2, some []), (oB3, none), (oB4, some [])] ++ KT) [2, 3, 4, 7, 8, 9]
    (ofK (b := (true = true ∧ true = true ∧ true = true ∧ belowVs oB5 (u8s L) = true ∧ true = true ∧ true = true ∧ True) ∧ XR.exit 0 (E17 (.slice oB4 0 0 L.length L.length 1 false) 1) (HB c fz L) d0 = .exit 0 (E17 (.slice oB4 0 0 L.length L.length 1 false) 1) (HB c fz L) d0) (by kernel_rfl)
      ⟨⟨rfl, rfl, rfl, u8s_below, rfl, rfl, trivial⟩, rfl⟩)
theorem encode1_T {c : Nat} (hv : valid c) {b g fz : Nat} (hb : oB2 ≤ b) (h : Heap) (hget : h.t.get b = some (.cells [i32 (Int.ofNat c)] tY21 g fz false)) : CallT P kF17 [.slice b g 0 1 1 1 true] h (.ret (.tup [.str (encB c), i64 0]) h none) := by
  have hloop : Trip P 22 (.loop (lp cF17 0)) (E17 .slice0 0) (hx c fz) d0 (.exit 0 (E17 (.slice oB4 0 0 (encN c).length (encN c).length 1 false) 1) (HB c fz (encN c)) d0) :=
    (TripL.next (s17a hv fz (encN c) rfl) (TripL.stop rfl (s17b c fz (encN c)))).trip
  have hle := valid_le hv
  have hmap : takeN (u8s (encN c)) 0 (encN c).length = (encB c).map u8 := by
    unfold takeN encB
    rw [List.drop_zero, List.take_of_length_le (by rw [u8s_len]; exact Nat.le_refl _), u8s_map (encN_lt hle)]
  obtain ⟨hs', x, h1, h2⟩ := hC_ok hF (N := 22) (by omega) (bodyOf cF17) [(99, .l [2, 3, 4, 7, 8, 9] (.exit 0 (E17 (.slice oB4 0 0 (encN c).length (encN c).length 1 false) 1) (HB c fz (encN c)) d0)), (21, .u (.str (encB c)))] (mkEnv 0 [.slice oB2 0 0 1 1 1 true] .e) (hx c fz) d0
    (fun _ x => (leaveX F.call (cfunc P cF17).res x).gives (.tup [.str (encB c), i64 0]))
    (ofK (b := TripI P 22 (.loop (lp cF17 0)) (E17 .slice0 0) (hx c fz) d0 (.exit 0 (E17 (.slice oB4 0 0 (encN c).length (encN c).length 1 false) 1) (HB c fz (encN c)) d0) ∧ (0 = 0 ∧ 0 + (encN c).length ≤ (u8s (encN c)).length ∧ takeN (u8s (encN c)) 0 (encN c).length = (encB c).map u8) ∧ AV.tup [.str (encB c), i64 0] = .tup [.str (encB c), i64 0]) (by kernel_rfl)
      ⟨⟨hloop⟩, ⟨rfl, by rw [u8s_len]; omega, hmap⟩, rfl⟩)
  obtain ⟨h', h3⟩ := CR.gives_eq h1
  refine callT_read tabOK (args := [.slice b g 0 1 1 1 true]) (cs := [i32 (Int.ofNat c)]) (ty := tY21) (fz := fz) (h' := h') (b := b) (g := g) ?_ (by simp [onlyVs, onlyV]) rfl rfl h (by rw [show P.globals.size = oB2 by kernel_rfl]; exact hb) hget
  rw [← h3]
  exact callT_of hF dF17 (c := bodyOf cF17) (by kernel_rfl) (by kernel_rfl) (by kernel_rfl) (by kernel_rfl) (by rw [show P.globals.size = oB2 by kernel_rfl]; exact h2)
end Go.Proofs.YtbdpfpjpmilpbaaGreatDoor

namespace Go.Proofs.YtbdpfpjpmilpbaaGreatDoor
open Go Go.Rk
set_option maxRecDepth 1000000
set_option linter.unusedVariables false
set_option linter.unusedSimpArgs false
set_option linter.constructorNameAsVariable false
set_option linter.unusedSectionVars false
/-! a scalar out of its bytes -/
theorem tabAt (p : Nat → Bool) (x : Nat) (h : ((List.range 256).all fun n => !p n || Nat.beq (firstN.getD n 0) x) = true) {n : Nat} (hn : n < 256) (hp : p n = true) : (u8s firstN)[0 + n * 1]? = some (by8 x) := by
  have h1 := List.all_eq_true.1 h n (List.mem_range.2 hn)
  rw [hp] at h1
  have h2 : firstN.getD n 0 = x := Nat.eq_of_beq_eq_true (by simpa using h1)
  have h3 : ∀ (L : List Nat) (n : Nat), n < L.length → (u8s L)[n]? = some (by8 (L.getD n 0)) := by
    intro L
    induction L with
    | nil => intro n h; simp at h
    | cons a l ih =>
      intro n h
      cases n with
      | zero => rfl
      | succ n => simpa [u8s] using ih n (by simpa using h)
  have hl : firstN.length = 256 := by decide
  have := h3 firstN n (by omega)
  rw [h2] at this
  simpa using this
theorem bt (b : UInt8) : b.toNat < 256 := UInt8.toNat_lt b
def r2 (b0 b1 : Nat) : Nat := b0 % 32 * 64 + b1 % 64
def r3 (b0 b1 b2 : Nat) : Nat := b0 % 16 * 4096 + b1 % 64 * 64 + b2 % 64
def r4 (b0 b1 b2 b3 : Nat) : Nat := b0 % 8 * 262144 + b1 % 64 * 4096 + b2 % 64 * 64 + b3 % 64
theorem low6 (b : UInt8) : wrapF .i32 (andI .u8 (Int.ofNat b.toNat) (Int.ofNat 63)) = Int.ofNat (b.toNat % 64) := by
  rw [andU8 (bt b) (by omega), and63, wrapI32 (by omega)]
theorem v2 (b0 b1 : UInt8) : orI .i32 (shlI .i32 (wrapF .i32 (andI .u8 (Int.ofNat b0.toNat) (Int.ofNat 31))) 6) (wrapF .i32 (andI .u8 (Int.ofNat b1.toNat) (Int.ofNat 63))) = Int.ofNat (r2 b0.toNat b1.toNat) := by
  rw [low6, andU8 (bt b0) (by omega), and31, wrapI32 (by omega), shl6 (by omega), orI32 (by omega) (by omega), or6 (by omega)]; rfl
theorem v3 (b0 b1 b2 : UInt8) : orI .i32 (orI .i32 (shlI .i32 (wrapF .i32 (andI .u8 (Int.ofNat b0.toNat) (Int.ofNat 15))) 12) (shlI .i32 (wrapF .i32 (andI .u8 (Int.ofNat b1.toNat) (Int.ofNat 63))) 6)) (wrapF .i32 (andI .u8 (Int.ofNat b2.toNat) (Int.ofNat 63))) = Int.ofNat (r3 b0.toNat b1.toNat b2.toNat) := by
  rw [low6, low6, andU8 (bt b0) (by omega), and15, wrapI32 (by omega), shl12 (by omega), shl6 (by omega), orI32 (by omega) (by omega), or12 (by omega), orI32 (by omega) (by omega)]
  have : b0.toNat % 16 * 4096 + b1.toNat % 64 * 64 = (b0.toNat % 16 * 64 + b1.toNat % 64) * 64 := by omega
  rw [this, or6 (by omega)]
  unfold r3
  congr 1; omega
theorem v4 (b0 b1 b2 b3 : UInt8) : orI .i32 (orI .i32 (orI .i32 (shlI .i32 (wrapF .i32 (andI .u8 (Int.ofNat b0.toNat) (Int.ofNat 7))) 18) (shlI .i32 (wrapF .i32 (andI .u8 (Int.ofNat b1.toNat) (Int.ofNat 63))) 12)) (shlI .i32 (wrapF .i32 (andI .u8 (Int.ofNat b2.toNat) (Int.ofNat 63))) 6)) (wrapF .i32 (andI .u8 (Int.ofNat b3.toNat) (Int.ofNat 63))) = Int.ofNat (r4 b0.toNat b1.toNat b2.toNat b3.toNat) := by
  rw [low6, low6, low6, andU8 (bt b0) (by omega), and7, wrapI32 (by omega), shl18 (by omega), shl12 (by omega), shl6 (by omega), orI32 (by omega) (by omega), or18 (by omega), orI32 (by omega) (by omega)]
  have h1 : b0.toNat % 8 * 262144 + b1.toNat % 64 * 4096 = (b0.toNat % 8 * 64 + b1.toNat % 64) * 4096 := by omega
  rw [h1, or12 (by omega), orI32 (by omega) (by omega)]
  have h2 : (b0.toNat % 8 * 64 + b1.toNat % 64) * 4096 + b2.toNat % 64 * 64 = ((b0.toNat % 8 * 64 + b1.toNat % 64) * 64 + b2.toNat % 64) * 64 := by omega
  rw [h2, or6 (by omega)]
  unfold r4
  congr 1; omega
theorem geB {b : UInt8} {n : Nat} (h : n ≤ b.toNat) : AV.bool (ltI (Int.ofNat b.toNat) (Int.ofNat n)) = .bool false := by rw [ltN]; simp; omega
theorem leB {b : UInt8} {n : Nat} (h : b.toNat ≤ n) : AV.bool (ltI (Int.ofNat n) (Int.ofNat b.toNat)) = .bool false := by rw [ltN]; simp; omega
theorem slow2 {b0 b1 : UInt8} (h1 : 194 ≤ b0.toNat) (h2 : b0.toNat ≤ 223) (h3 : 128 ≤ b1.toNat) (h4 : b1.toNat ≤ 191) (h : Heap) : CallT P kF37 [.str [b0, b1]] h (.ret (.tup [i32 (Int.ofNat (r2 b0.toNat b1.toNat)), i64 2]) h none) :=
  pure_hC tabOK hF (by rfl) (by rfl) [(20, .u .undef), (21, .u (by8 2)), (51, .e (.bool false)), (56, .e (.bool false)), (67, .e (i32 (Int.ofNat (r2 b0.toNat b1.toNat))))] dF37 (by kernel_rfl)
    (ofK (b := b0.toNat < 256 ∧ (0 = 0 ∧ (u8s firstN)[0 + b0.toNat * 1]? = some (by8 2)) ∧ AV.bool (ltI (Int.ofNat b1.toNat) (Int.ofNat 128)) = .bool false ∧ AV.bool (ltI (Int.ofNat 191) (Int.ofNat b1.toNat)) = .bool false ∧
        i32 (orI .i32 (shlI .i32 (wrapF .i32 (andI .u8 (Int.ofNat b0.toNat) (Int.ofNat 31))) 6) (wrapF .i32 (andI .u8 (Int.ofNat b1.toNat) (Int.ofNat 63)))) = i32 (Int.ofNat (r2 b0.toNat b1.toNat)) ∧
        AV.tup [i32 (Int.ofNat (r2 b0.toNat b1.toNat)), i64 2] = .tup [i32 (Int.ofNat (r2 b0.toNat b1.toNat)), i64 2]) (by kernel_rfl)
      ⟨bt _, ⟨rfl, tabAt (fun n => Nat.ble 194 n && Nat.ble n 223) 2 (by decide +kernel) (bt _) (by simp [h1, h2])⟩, geB h3, leB h4, by rw [v2], rfl⟩) h
theorem slow3_19 {b0 b1 b2 : UInt8} (h0 : (Nat.beq b0.toNat 224) = true) (h3 : 160 ≤ b1.toNat) (h4 : b1.toNat ≤ 191) (h5 : 128 ≤ b2.toNat) (h6 : b2.toNat ≤ 191) (h : Heap) : CallT P kF37 [.str [b0, b1, b2]] h (.ret (.tup [i32 (Int.ofNat (r3 b0.toNat b1.toNat b2.toNat)), i64 3]) h none) :=
  pure_hC tabOK hF (by rfl) (by rfl) [(20, .u .undef), (21, .u (by8 19)), (51, .e (.bool false)), (56, .e (.bool false)), (71, .e (.bool false)), (74, .e (.bool false)), (90, .e (i32 (Int.ofNat (r3 b0.toNat b1.toNat b2.toNat))))] dF37 (by kernel_rfl)
    (ofK (b := b0.toNat < 256 ∧ (0 = 0 ∧ (u8s firstN)[0 + b0.toNat * 1]? = some (by8 19)) ∧ AV.bool (ltI (Int.ofNat b1.toNat) (Int.ofNat 160)) = .bool false ∧ AV.bool (ltI (Int.ofNat 191) (Int.ofNat b1.toNat)) = .bool false ∧
        AV.bool (ltI (Int.ofNat b2.toNat) (Int.ofNat 128)) = .bool false ∧ AV.bool (ltI (Int.ofNat 191) (Int.ofNat b2.toNat)) = .bool false ∧
        i32 (orI .i32 (orI .i32 (shlI .i32 (wrapF .i32 (andI .u8 (Int.ofNat b0.toNat) (Int.ofNat 15))) 12) (shlI .i32 (wrapF .i32 (andI .u8 (Int.ofNat b1.toNat) (Int.ofNat 63))) 6)) (wrapF .i32 (andI .u8 (Int.ofNat b2.toNat) (Int.ofNat 63)))) = i32 (Int.ofNat (r3 b0.toNat b1.toNat b2.toNat)) ∧
        AV.tup [i32 (Int.ofNat (r3 b0.toNat b1.toNat b2.toNat)), i64 3] = .tup [i32 (Int.ofNat (r3 b0.toNat b1.toNat b2.toNat)), i64 3]) (by kernel_rfl)
      ⟨bt _, ⟨rfl, tabAt (fun n => Nat.beq n 224) 19 (by decide +kernel) (bt _) h0⟩, geB h3, leB h4, geB h5, leB h6, by rw [v3], rfl⟩) h
theorem slow3_3 {b0 b1 b2 : UInt8} (h0 : ((Nat.ble 225 b0.toNat && Nat.ble b0.toNat 236) || (Nat.ble 238 b0.toNat && Nat.ble b0.toNat 239)) = true) (h3 : 128 ≤ b1.toNat) (h4 : b1.toNat ≤ 191) (h5 : 128 ≤ b2.toNat) (h6 : b2.toNat ≤ 191) (h : Heap) : CallT P kF37 [.str [b0, b1, b2]] h (.ret (.tup [i32 (Int.ofNat (r3 b0.toNat b1.toNat b2.toNat)), i64 3]) h none) :=
  pure_hC tabOK hF (by rfl) (by rfl) [(20, .u .undef), (21, .u (by8 3)), (51, .e (.bool false)), (56, .e (.bool false)), (71, .e (.bool false)), (74, .e (.bool false)), (90, .e (i32 (Int.ofNat (r3 b0.toNat b1.toNat b2.toNat))))] dF37 (by kernel_rfl)
    (ofK (b := b0.toNat < 256 ∧ (0 = 0 ∧ (u8s firstN)[0 + b0.toNat * 1]? = some (by8 3)) ∧ AV.bool (ltI (Int.ofNat b1.toNat) (Int.ofNat 128)) = .bool false ∧ AV.bool (ltI (Int.ofNat 191) (Int.ofNat b1.toNat)) = .bool false ∧
        AV.bool (ltI (Int.ofNat b2.toNat) (Int.ofNat 128)) = .bool false ∧ AV.bool (ltI (Int.ofNat 191) (Int.ofNat b2.toNat)) = .bool false ∧
        i32 (orI .i32 (orI .i32 (shlI .i32 (wrapF .i32 (andI .u8 (Int.ofNat b0.toNat) (Int.ofNat 15))) 12) (shlI .i32 (wrapF .i32 (andI .u8 (Int.ofNat b1.toNat) (Int.ofNat 63))) 6)) (wrapF .i32 (andI .u8 (Int.ofNat b2.toNat) (Int.ofNat 63)))) = i32 (Int.ofNat (r3 b0.toNat b1.toNat b2.toNat)) ∧
        AV.tup [i32 (Int.ofNat (r3 b0.toNat b1.toNat b2.toNat)), i64 3] = .tup [i32 (Int.ofNat (r3 b0.toNat b1.toNat b2.toNat)), i64 3]) (by kernel_rfl)
      ⟨bt _, ⟨rfl, tabAt (fun n => (Nat.ble 225 n && Nat.ble n 236) || (Nat.ble 238 n && Nat.ble n 239)) 3 (by decide +kernel) (bt _) h0⟩, geB h3, leB h4, geB h5, leB h6, by rw [v3], rfl⟩) h
theorem slow3_35 {b0 b1 b2 : UInt8} (h0 : (Nat.beq b0.toNat 237) = true) (h3 : 128 ≤ b1.toNat) (h4 : b1.toNat ≤ 159) (h5 : 128 ≤ b2.toNat) (h6 : b2.toNat ≤ 191) (h : Heap) : CallT P kF37 [.str [b0, b1, b2]] h (.ret (.tup [i32 (Int.ofNat (r3 b0.toNat b1.toNat b2.toNat)), i64 3]) h none) :=
  pure_hC tabOK hF (by rfl) (by rfl) [(20, .u .undef), (21, .u (by8 35)), (51, .e (.bool false)), (56, .e (.bool false)), (71, .e (.bool false)), (74, .e (.bool false)), (90, .e (i32 (Int.ofNat (r3 b0.toNat b1.toNat b2.toNat))))] dF37 (by kernel_rfl)
    (ofK (b := b0.toNat < 256 ∧ (0 = 0 ∧ (u8s firstN)[0 + b0.toNat * 1]? = some (by8 35)) ∧ AV.bool (ltI (Int.ofNat b1.toNat) (Int.ofNat 128)) = .bool false ∧ AV.bool (ltI (Int.ofNat 159) (Int.ofNat b1.toNat)) = .bool false ∧
        AV.bool (ltI (Int.ofNat b2.toNat) (Int.ofNat 128)) = .bool false ∧ AV.bool (ltI (Int.ofNat 191) (Int.ofNat b2.toNat)) = .bool false ∧
        i32 (orI .i32 (orI .i32 (shlI .i32 (wrapF .i32 (andI .u8 (Int.ofNat b0.toNat) (Int.ofNat 15))) 12) (shlI .i32 (wrapF .i32 (andI .u8 (Int.ofNat b1.toNat) (Int.ofNat 63))) 6)) (wrapF .i32 (andI .u8 (Int.ofNat b2.toNat) (Int.ofNat 63)))) = i32 (Int.ofNat (r3 b0.toNat b1.toNat b2.toNat)) ∧
        AV.tup [i32 (Int.ofNat (r3 b0.toNat b1.toNat b2.toNat)), i64 3] = .tup [i32 (Int.ofNat (r3 b0.toNat b1.toNat b2.toNat)), i64 3]) (by kernel_rfl)
      ⟨bt _, ⟨rfl, tabAt (fun n => Nat.beq n 237) 35 (by decide +kernel) (bt _) h0⟩, geB h3, leB h4, geB h5, leB h6, by rw [v3], rfl⟩) h
theorem slow4_52 {b0 b1 b2 b3 : UInt8} (h0 : (Nat.beq b0.toNat 240) = true) (h3 : 144 ≤ b1.toNat) (h4 : b1.toNat ≤ 191) (h5 : 128 ≤ b2.toNat) (h6 : b2.toNat ≤ 191) (h7 : 128 ≤ b3.toNat) (h8 : b3.toNat ≤ 191) (h : Heap) : CallT P kF37 [.str [b0, b1, b2, b3]] h (.ret (.tup [i32 (Int.ofNat (r4 b0.toNat b1.toNat b2.toNat b3.toNat)), i64 4]) h none) :=
  pure_hC tabOK hF (by rfl) (by rfl) [(20, .u .undef), (21, .u (by8 52)), (51, .e (.bool false)), (56, .e (.bool false)), (71, .e (.bool false)), (74, .e (.bool false)), (94, .e (.bool false)), (97, .e (.bool false)), (116, .e (i32 (Int.ofNat (r4 b0.toNat b1.toNat b2.toNat b3.toNat))))] dF37 (by kernel_rfl)
    (ofK (b := b0.toNat < 256 ∧ (0 = 0 ∧ (u8s firstN)[0 + b0.toNat * 1]? = some (by8 52)) ∧ AV.bool (ltI (Int.ofNat b1.toNat) (Int.ofNat 144)) = .bool false ∧ AV.bool (ltI (Int.ofNat 191) (Int.ofNat b1.toNat)) = .bool false ∧
        AV.bool (ltI (Int.ofNat b2.toNat) (Int.ofNat 128)) = .bool false ∧ AV.bool (ltI (Int.ofNat 191) (Int.ofNat b2.toNat)) = .bool false ∧ AV.bool (ltI (Int.ofNat b3.toNat) (Int.ofNat 128)) = .bool false ∧ AV.bool (ltI (Int.ofNat 191) (Int.ofNat b3.toNat)) = .bool false ∧
        i32 (orI .i32 (orI .i32 (orI .i32 (shlI .i32 (wrapF .i32 (andI .u8 (Int.ofNat b0.toNat) (Int.ofNat 7))) 18) (shlI .i32 (wrapF .i32 (andI .u8 (Int.ofNat b1.toNat) (Int.ofNat 63))) 12)) (shlI .i32 (wrapF .i32 (andI .u8 (Int.ofNat b2.toNat) (Int.ofNat 63))) 6)) (wrapF .i32 (andI .u8 (Int.ofNat b3.toNat) (Int.ofNat 63)))) = i32 (Int.ofNat (r4 b0.toNat b1.toNat b2.toNat b3.toNat)) ∧
        AV.tup [i32 (Int.ofNat (r4 b0.toNat b1.toNat b2.toNat b3.toNat)), i64 4] = .tup [i32 (Int.ofNat (r4 b0.toNat b1.toNat b2.toNat b3.toNat)), i64 4]) (by kernel_rfl)
      ⟨bt _, ⟨rfl, tabAt (fun n => Nat.beq n 240) 52 (by decide +kernel) (bt _) h0⟩, geB h3, leB h4, geB h5, leB h6, geB h7, leB h8, by rw [v4], rfl⟩) h
theorem slow4_4 {b0 b1 b2 b3 : UInt8} (h0 : (Nat.ble 241 b0.toNat && Nat.ble b0.toNat 243) = true) (h3 : 128 ≤ b1.toNat) (h4 : b1.toNat ≤ 191) (h5 : 128 ≤ b2.toNat) (h6 : b2.toNat ≤ 191) (h7 : 128 ≤ b3.toNat) (h8 : b3.toNat ≤ 191) (h : Heap) : CallT P kF37 [.str [b0, b1, b2, b3]] h (.ret (.tup [i32 (Int.ofNat (r4 b0.toNat b1.toNat b2.toNat b3.toNat)), i64 4]) h none) :=
  pure_hC tabOK hF (by rfl) (by rfl) [(20, .u .undef), (21, .u (by8 4)), (51, .e (.bool false)), (56, .e (.bool false)), (71, .e (.bool false)), (74, .e (.bool false)), (94, .e (.bool false)), (97, .e (.bool false)), (116, .e (i32 (Int.ofNat (r4 b0.toNat b1.toNat b2.toNat b3.toNat))))] dF37 (by kernel_rfl)
    (ofK (b := b0.toNat < 256 ∧ (0 = 0 ∧ (u8s firstN)[0 + b0.toNat * 1]? = some (by8 4)) ∧ AV.bool (ltI (Int.ofNat b1.toNat) (Int.ofNat 128)) = .bool false ∧ AV.bool (ltI (Int.ofNat 191) (Int.ofNat b1.toNat)) = .bool false ∧
        AV.bool (ltI (Int.ofNat b2.toNat) (Int.ofNat 128)) = .bool false ∧ AV.bool (ltI (Int.ofNat 191) (Int.ofNat b2.toNat)) = .bool false ∧ AV.bool (ltI (Int.ofNat b3.toNat) (Int.ofNat 128)) = .bool false ∧ AV.bool (ltI (Int.ofNat 191) (Int.ofNat b3.toNat)) = .bool false ∧
        i32 (orI .i32 (orI .i32 (orI .i32 (shlI .i32 (wrapF .i32 (andI .u8 (Int.ofNat b0.toNat) (Int.ofNat 7))) 18) (shlI .i32 (wrapF .i32 (andI .u8 (Int.ofNat b1.toNat) (Int.ofNat 63))) 12)) (shlI .i32 (wrapF .i32 (andI .u8 (Int.ofNat b2.toNat) (Int.ofNat 63))) 6)) (wrapF .i32 (andI .u8 (Int.ofNat b3.toNat) (Int.ofNat 63)))) = i32 (Int.ofNat (r4 b0.toNat b1.toNat b2.toNat b3.toNat)) ∧
        AV.tup [i32 (Int.ofNat (r4 b0.toNat b1.toNat b2.toNat b3.toNat)), i64 4] = .tup [i32 (Int.ofNat (r4 b0.toNat b1.toNat b2.toNat b3.toNat)), i64 4]) (by kernel_rfl)
      ⟨bt _, ⟨rfl, tabAt (fun n => Nat.ble 241 n && Nat.ble n 243) 4 (by decide +kernel) (bt _) h0⟩, geB h3, leB h4, geB h5, leB h6, geB h7, leB h8, by rw [v4], rfl⟩) h
theorem slow4_68 {b0 b1 b2 b3 : UInt8} (h0 : (Nat.beq b0.toNat 244) = true) (h3 : 128 ≤ b1.toNat) (h4 : b1.toNat ≤ 143) (h5 : 128 ≤ b2.toNat) (h6 : b2.toNat ≤ 191) (h7 : 128 ≤ b3.toNat) (h8 : b3.toNat ≤ 191) (h : Heap) : CallT P kF37 [.str [b0, b1, b2, b3]] h (.ret (.tup [i32 (Int.ofNat (r4 b0.toNat b1.toNat b2.toNat b3.toNat)), i64 4]) h none) :=
  pure_hC tabOK hF (by rfl) (by rfl) [(20, .u .undef), (21, .u (by8 68)), (51, .e (.bool false)), (56, .e (.bool false)), (71, .e (.bool false)), (74, .e (.bool false)), (94, .e (.bool false)), (97, .e (.bool false)), (116, .e (i32 (Int.ofNat (r4 b0.toNat b1.toNat b2.toNat b3.toNat))))] dF37 (by kernel_rfl)
    (ofK (b := b0.toNat < 256 ∧ (0 = 0 ∧ (u8s firstN)[0 + b0.toNat * 1]? = some (by8 68)) ∧ AV.bool (ltI (Int.ofNat b1.toNat) (Int.ofNat 128)) = .bool false ∧ AV.bool (ltI (Int.ofNat 143) (Int.ofNat b1.toNat)) = .bool false ∧
        AV.bool (ltI (Int.ofNat b2.toNat) (Int.ofNat 128)) = .bool false ∧ AV.bool (ltI (Int.ofNat 191) (Int.ofNat b2.toNat)) = .bool false ∧ AV.bool (ltI (Int.ofNat b3.toNat) (Int.ofNat 128)) = .bool false ∧ AV.bool (ltI (Int.ofNat 191) (Int.ofNat b3.toNat)) = .bool false ∧
        i32 (orI .i32 (orI .i32 (orI .i32 (shlI .i32 (wrapF .i32 (andI .u8 (Int.ofNat b0.toNat) (Int.ofNat 7))) 18) (shlI .i32 (wrapF .i32 (andI .u8 (Int.ofNat b1.toNat) (Int.ofNat 63))) 12)) (shlI .i32 (wrapF .i32 (andI .u8 (Int.ofNat b2.toNat) (Int.ofNat 63))) 6)) (wrapF .i32 (andI .u8 (Int.ofNat b3.toNat) (Int.ofNat 63)))) = i32 (Int.ofNat (r4 b0.toNat b1.toNat b2.toNat b3.toNat)) ∧
        AV.tup [i32 (Int.ofNat (r4 b0.toNat b1.toNat b2.toNat b3.toNat)), i64 4] = .tup [i32 (Int.ofNat (r4 b0.toNat b1.toNat b2.toNat b3.toNat)), i64 4]) (by kernel_rfl)
      ⟨bt _, ⟨rfl, tabAt (fun n => Nat.beq n 244) 68 (by decide +kernel) (bt _) h0⟩, geB h3, leB h4, geB h5, leB h6, geB h7, leB h8, by rw [v4], rfl⟩) h
end Go.Proofs.YtbdpfpjpmilpbaaGreatDoor
