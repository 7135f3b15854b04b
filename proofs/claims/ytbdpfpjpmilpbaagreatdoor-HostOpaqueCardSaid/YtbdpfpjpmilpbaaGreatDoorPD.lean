/-
  A step of the proof of this seat's statement. No condition.
-/
import Derived.Test.YtbdpfpjpmilpbaaGreatDoorPC
namespace Go.Proofs.YtbdpfpjpmilpbaaGreatDoor
open Go Go.Rk
set_option maxRecDepth 1000000
set_option linter.unusedVariables false
set_option linter.unusedSimpArgs false
set_option linter.constructorNameAsVariable false
set_option linter.unusedSectionVars false
/-! what is told so once stays as it is -/
def good (a : Nat) (x : UInt8) : Prop := x.toNat < 127 ∧ inS x.toNat a = false
theorem nxt_ascii (b : UInt8) (t : List UInt8) (h : b.toNat < 128) : nxt (b :: t) = (b.toNat, 1, true) := by
  have hr : roomN b.toNat = (0, 0, 1) := by simp [roomN, h]
  have hc : contN (b :: t) 1 4 0 0 1 = 1 := by simp [contN]
  unfold nxt
  simp only [hr, hc]
  rfl
theorem decL_ascii : ∀ (f : Nat) (s : List UInt8), s.length ≤ f → (∀ x ∈ s, x.toNat < 128) → decF f s = s.map UInt8.toNat
  | 0, s, hf, _ => by
    have : s = [] := List.length_eq_zero_iff.1 (by omega)
    subst this; rfl
  | f + 1, [], _, _ => rfl
  | f + 1, b :: t, hf, h => by
    have hb := h b (by simp)
    rw [decF, nxt_ascii b t hb]
    simp only [List.drop_succ_cons, List.drop_zero, List.map_cons]
    rw [decL_ascii f t (by simpa using hf) fun x hx => h x (by simp [hx])]
theorem hex_good : ∀ a, a < 6 → ∀ n, n < 16 → good a (digs.getD n 0) := by
  have : ((List.range 6).all fun a => (List.range 16).all fun n => Nat.blt (digs.getD n 0).toNat 127 && !inS (digs.getD n 0).toNat a) = true := by decide +kernel
  intro a ha n hn
  have h1 := List.all_eq_true.1 (List.all_eq_true.1 this a (List.mem_range.2 ha)) n (List.mem_range.2 hn)
  simp only [Bool.and_eq_true, Bool.not_eq_true'] at h1
  exact ⟨blt_iff.1 h1.1, h1.2⟩
theorem pct_good : ∀ a, a < 6 → good a 37 := by
  have : ((List.range 6).all fun a => !inS 37 a) = true := by decide +kernel
  intro a ha
  have h1 := List.all_eq_true.1 this a (List.mem_range.2 ha)
  exact ⟨by decide, by simpa using h1⟩
theorem hexB_good {a : Nat} (ha : a < 6) (b x : UInt8) (hx : x ∈ hexB b) : good a x := by
  have hb := bt b
  simp only [hexB, List.mem_cons, List.mem_nil_iff, or_false] at hx
  rcases hx with rfl | rfl | rfl
  · exact pct_good a ha
  · exact hex_good a ha _ (by omega)
  · exact hex_good a ha _ (by omega)
theorem inS_false {c a : Nat} (ha : a ≤ 6) (h : inS c a = false) : 32 ≤ c ∧ c ≤ 126 := by
  unfold inS at h
  rw [ble_t ha, Bool.true_and] at h
  simp only [Bool.or_eq_false_iff, decide_eq_false_iff_not] at h
  omega
theorem one_good {a : Nat} (ha : a < 6) (c : Nat) (x : UInt8) (hx : x ∈ one a c) : good a x := by
  unfold one at hx
  cases h : inS c a with
  | true =>
    rw [h, cond_true] at hx
    obtain ⟨b, _, hb⟩ := List.mem_flatMap.1 hx
    exact hexB_good ha b x hb
  | false =>
    rw [h, cond_false] at hx
    obtain ⟨h1, h2⟩ := inS_false (by omega) h
    have he : encB c = [UInt8.ofNat c] := by simp [encB, encN, show c < 128 by omega]
    rw [he] at hx
    simp only [List.mem_cons, List.mem_nil_iff, or_false] at hx
    subst hx
    have : (UInt8.ofNat c).toNat = c := by simp; omega
    exact ⟨by rw [this]; omega, by rw [this]; exact h⟩
theorem one_of_good {a : Nat} (x : UInt8) (h : good a x) : one a x.toNat = [x] := by
  unfold one
  rw [h.2, cond_false]
  have := h.1
  simp [encB, encN, show x.toNat < 128 by omega]
theorem flat_good {a : Nat} : ∀ (s : List UInt8), (∀ x ∈ s, good a x) → (s.map UInt8.toNat).flatMap (one a) = s
  | [], _ => rfl
  | x :: t, h => by
    rw [List.map_cons, List.flatMap_cons, one_of_good x (h x (by simp)), flat_good t fun y hy => h y (by simp [hy])]
    rfl
theorem enc_twice {a : Nat} (ha : a < 6) (s : List UInt8) : encS (encS s a) a = encS s a := by
  have hg : ∀ x ∈ encS s a, good a x := by
    intro x hx
    obtain ⟨c, _, hc⟩ := List.mem_flatMap.1 hx
    exact one_good ha c x hc
  have hd : decL (encS s a) = (encS s a).map UInt8.toNat := decL_ascii _ _ (Nat.le_refl _) fun x hx => by have := (hg x hx).1; omega
  show (decL (encS s a)).flatMap (one a) = _
  rw [hd]
  exact flat_good _ hg
/-- a greater set has all that a less one has -/
def lessB (a b : Nat) : Bool := (decide (a ≤ b) && !decide (a = 3) && !decide (a = 1)) || decide (a = b)
theorem less_all : ∀ a, a < 7 → ∀ b, b < 7 → lessB a b = true → ∀ r, r < 130 → inS r a = true → inS r b = true := by
  have : ((List.range 7).all fun a => (List.range 7).all fun b => !lessB a b || (List.range 130).all fun r => !inS r a || inS r b) = true := by decide +kernel
  intro a ha b hb hl r hr hi
  have h1 := List.all_eq_true.1 (List.all_eq_true.1 this a (List.mem_range.2 ha)) b (List.mem_range.2 hb)
  rw [hl] at h1
  simp only [Bool.not_true, Bool.false_or] at h1
  have h2 := List.all_eq_true.1 h1 r (List.mem_range.2 hr)
  rw [hi] at h2
  simpa using h2
end Go.Proofs.YtbdpfpjpmilpbaaGreatDoor

namespace Go.Proofs.YtbdpfpjpmilpbaaGreatDoor
open Go Go.Rk
set_option maxRecDepth 1000000
set_option linter.unusedVariables false
set_option linter.unusedSimpArgs false
set_option linter.constructorNameAsVariable false
set_option linter.unusedSectionVars false
/-! the document's answer: bytes and scalars -/
theorem wrapI32i {n : Int} (h1 : -2147483648 ≤ n) (h2 : n ≤ 2147483647) : wrapF .i32 n = n := by
  cases n with
  | ofNat m => exact wrapF_in (show m ≤ 2147483647 by simp only [Int.ofNat_eq_natCast] at h2; omega)
  | negSucc m =>
    unfold wrapF inR
    show (bif Nat.blt m (loN .i32) then _ else _) = _
    have : Nat.blt m (loN .i32) = true := Nat.ble_eq_true_of_le (show m + 1 ≤ 2147483648 by omega)
    rw [this]; rfl
def V2 (b0 b1 : Nat) : Int := ((b0 : Int) - 192) * 64 + b1 - 128
def V3 (b0 b1 b2 : Nat) : Int := (((b0 : Int) - 224) * 64 + b1 - 128) * 64 + b2 - 128
def V4 (b0 b1 b2 b3 : Nat) : Int := ((((b0 : Int) - 240) * 64 + b1 - 128) * 64 + b2 - 128) * 64 + b3 - 128
def VI : List UInt8 → Int
  | [b0] => b0.toNat
  | [b0, b1] => V2 b0.toNat b1.toNat
  | [b0, b1, b2] => V3 b0.toNat b1.toNat b2.toNat
  | [b0, b1, b2, b3] => V4 b0.toNat b1.toNat b2.toNat b3.toNat
  | _ => 0
theorem wB (b : UInt8) : wrapF .i32 (Int.ofNat b.toNat) = (b.toNat : Int) := by
  have := bt b
  exact wrapI32i (n := (b.toNat : Int)) (by omega) (by omega)
theorem wSub {a : Int} {k : Nat} (h1 : -2147483648 ≤ a - k) (h2 : a - k ≤ 2147483647) : wrapF .i32 (Int.sub a (Int.ofNat k)) = a - k := wrapI32i (n := a - k) h1 h2
theorem wAdd {a b : Int} (h1 : -2147483648 ≤ a + b) (h2 : a + b ≤ 2147483647) : wrapF .i32 (Int.add a b) = a + b := wrapI32i (n := a + b) h1 h2
theorem wMul {a : Int} {k : Nat} (h1 : -2147483648 ≤ a * k) (h2 : a * k ≤ 2147483647) : wrapF .i32 (Int.mul a (Int.ofNat k)) = a * k := wrapI32i (n := a * k) h1 h2
abbrev mulAdd (x : Int) (b : UInt8) : Int := wrapF .i32 (Int.sub (wrapF .i32 (Int.add (wrapF .i32 (Int.mul x (Int.ofNat 64))) (wrapF .i32 (Int.ofNat b.toNat)))) (Int.ofNat 128))
theorem mulAdd_eq {x : Int} (b : UInt8) (h1 : -20000000 ≤ x) (h2 : x ≤ 20000000) : mulAdd x b = x * 64 + b.toNat - 128 := by
  have := bt b
  unfold mulAdd
  rw [wB, wMul (by omega) (by omega), wAdd (by omega) (by omega), wSub (by omega) (by omega)]
  rfl
abbrev sub0 (b : UInt8) (k : Nat) : Int := wrapF .i32 (Int.sub (wrapF .i32 (Int.ofNat b.toNat)) (Int.ofNat k))
theorem sub0_eq (b : UInt8) {k : Nat} (h : k ≤ 300) : sub0 b k = (b.toNat : Int) - k := by
  have := bt b
  unfold sub0
  rw [wB, wSub (by omega) (by omega)]
theorem value1 (b0 : UInt8) (h : Heap) : CallT P kF25 [.str [b0]] h (.ret (i32 (VI [b0])) h none) :=
  pure_hC tabOK hF (by rfl) (by rfl) [] dF25 (by kernel_rfl) (ofK (b := i32 (wrapF .i32 (Int.ofNat b0.toNat)) = i32 (VI [b0])) (by kernel_rfl) (by rw [wB]; rfl)) h
theorem value2 (b0 b1 : UInt8) (h : Heap) : CallT P kF25 [.str [b0, b1]] h (.ret (i32 (VI [b0, b1])) h none) :=
  pure_hC tabOK hF (by rfl) (by rfl) [] dF25 (by kernel_rfl) (ofK (b := i32 (mulAdd (sub0 b0 192) b1) = i32 (VI [b0, b1])) (by kernel_rfl) (by have := bt b0; rw [sub0_eq b0 (by omega), mulAdd_eq b1 (by omega) (by omega)]; rfl)) h
theorem value3 (b0 b1 b2 : UInt8) (h : Heap) : CallT P kF25 [.str [b0, b1, b2]] h (.ret (i32 (VI [b0, b1, b2])) h none) :=
  pure_hC tabOK hF (by rfl) (by rfl) [] dF25 (by kernel_rfl) (ofK (b := i32 (mulAdd (mulAdd (sub0 b0 224) b1) b2) = i32 (VI [b0, b1, b2])) (by kernel_rfl)
    (by have := bt b0; have := bt b1; rw [sub0_eq b0 (by omega), mulAdd_eq b1 (by omega) (by omega), mulAdd_eq b2 (by omega) (by omega)]; rfl)) h
theorem value4 (b0 b1 b2 b3 : UInt8) (h : Heap) : CallT P kF25 [.str [b0, b1, b2, b3]] h (.ret (i32 (VI [b0, b1, b2, b3])) h none) :=
  pure_hC tabOK hF (by rfl) (by rfl) [] dF25 (by kernel_rfl) (ofK (b := i32 (mulAdd (mulAdd (mulAdd (sub0 b0 240) b1) b2) b3) = i32 (VI [b0, b1, b2, b3])) (by kernel_rfl)
    (by have := bt b0; have := bt b1; have := bt b2; rw [sub0_eq b0 (by omega), mulAdd_eq b1 (by omega) (by omega), mulAdd_eq b2 (by omega) (by omega), mulAdd_eq b3 (by omega) (by omega)]; rfl)) h
def scal (v : Int) : Bool := decide (0 ≤ v) && decide (v ≤ 1114111) && (decide (v < 55296) || decide (57343 < v))
theorem ltNV {v : Int} {n : Nat} (h : v < (n : Int)) : ltI v (Int.ofNat n) = true := ltI_iff.2 h
theorem geNV {v : Int} {n : Nat} (h : (n : Int) ≤ v) : ltI v (Int.ofNat n) = false := ltI_false.2 h
theorem gtNV {v : Int} {n : Nat} (h : (n : Int) < v) : ltI (Int.ofNat n) v = true := ltI_iff.2 h
theorem leNV {v : Int} {n : Nat} (h : v ≤ (n : Int)) : ltI (Int.ofNat n) v = false := ltI_false.2 h
theorem scalar_T (v : Int) (h : Heap) : CallT P kF13 [.int .i32 v] h (.ret (.bool (scal v)) h none) := by
  by_cases h0 : 0 ≤ v
  · by_cases h1 : v ≤ 1114111
    · by_cases h2 : v < 55296
      · have e : scal v = true := by simp [scal, h0, h1, h2]
        rw [e]
        exact pure_hC tabOK hF (by rfl) (by rfl) [(4, .e (.bool true)), (7, .e (.bool true)), (11, .e (.bool true))] dF13 (by kernel_rfl)
          (ofK (b := AV.bool (!ltI v (Int.ofNat 0)) = .bool true ∧ AV.bool (!ltI (Int.ofNat 1114111) v) = .bool true ∧ AV.bool (ltI v (Int.ofNat 55296)) = .bool true ∧ AV.bool true = .bool true) (by kernel_rfl)
            ⟨by rw [geNV (by omega)]; rfl, by rw [leNV (by omega)]; rfl, by rw [ltNV (by omega)], rfl⟩) h
      · by_cases h3 : 57343 < v
        · have e : scal v = true := by simp [scal, h0, h1, h3]
          rw [e]
          exact pure_hC tabOK hF (by rfl) (by rfl) [(4, .e (.bool true)), (7, .e (.bool true)), (11, .e (.bool false)), (14, .e (.bool true))] dF13 (by kernel_rfl)
            (ofK (b := AV.bool (!ltI v (Int.ofNat 0)) = .bool true ∧ AV.bool (!ltI (Int.ofNat 1114111) v) = .bool true ∧ AV.bool (ltI v (Int.ofNat 55296)) = .bool false ∧ AV.bool (ltI (Int.ofNat 57343) v) = .bool true ∧ AV.bool true = .bool true) (by kernel_rfl)
              ⟨by rw [geNV (by omega)]; rfl, by rw [leNV (by omega)]; rfl, by rw [geNV (by omega)], by rw [gtNV (by omega)], rfl⟩) h
        · have e : scal v = false := by simp [scal]; omega
          rw [e]
          exact pure_hC tabOK hF (by rfl) (by rfl) [(4, .e (.bool true)), (7, .e (.bool true)), (11, .e (.bool false)), (14, .e (.bool false))] dF13 (by kernel_rfl)
            (ofK (b := AV.bool (!ltI v (Int.ofNat 0)) = .bool true ∧ AV.bool (!ltI (Int.ofNat 1114111) v) = .bool true ∧ AV.bool (ltI v (Int.ofNat 55296)) = .bool false ∧ AV.bool (ltI (Int.ofNat 57343) v) = .bool false ∧ AV.bool false = .bool false) (by kernel_rfl)
              ⟨by rw [geNV (by omega)]; rfl, by rw [leNV (by omega)]; rfl, by rw [geNV (by omega)], by rw [leNV (by omega)], rfl⟩) h
    · have e : scal v = false := by simp [scal]; omega
      rw [e]
      exact pure_hC tabOK hF (by rfl) (by rfl) [(4, .e (.bool true)), (7, .e (.bool false))] dF13 (by kernel_rfl)
        (ofK (b := AV.bool (!ltI v (Int.ofNat 0)) = .bool true ∧ AV.bool (!ltI (Int.ofNat 1114111) v) = .bool false ∧ AV.bool false = .bool false) (by kernel_rfl) ⟨by rw [geNV (by omega)]; rfl, by rw [gtNV (by omega)]; rfl, rfl⟩) h
  · have e : scal v = false := by simp [scal]; omega
    rw [e]
    exact pure_hC tabOK hF (by rfl) (by rfl) [(4, .e (.bool false))] dF13 (by kernel_rfl)
      (ofK (b := AV.bool (!ltI v (Int.ofNat 0)) = .bool false ∧ AV.bool false = .bool false) (by kernel_rfl) ⟨by rw [ltNV (by omega)]; rfl, rfl⟩) h
theorem wq {n : Nat} (h : n < 2147483648) : AV.int .i32 (wrapF .i32 (Int.ofNat n)) = i32 (Int.ofNat n) := by rw [wrapI32 h]
theorem wc {n : Nat} (h : n < 256) : AV.int .u8 (wrapF .u8 (wrapF .i32 (Int.ofNat n))) = by8 n := by rw [wrapI32 (by omega), wrapU8, Nat.mod_eq_of_lt h]
theorem bytes_T {c : Nat} (hc : c ≤ 1114111) (h : Heap) : CallT P kF14 [i32 (Int.ofNat c)] h (.ret (.str (encB c)) h none) := by
  by_cases h1 : c < 128
  · have e : encB c = [UInt8.ofNat c] := by simp [encB, encN, h1]
    rw [e]
    exact pure_hC tabOK hF (by rfl) (by rfl) [(5, .e (.bool true)), (8, .e (by8 c))] dF14 (by kernel_rfl)
      (ofK (b := AV.bool (ltI (Int.ofNat c) (Int.ofNat 128)) = .bool true ∧ AV.int .u8 (wrapF .u8 (Int.ofNat c)) = by8 c ∧ AV.str [UInt8.ofNat c] = .str [UInt8.ofNat c]) (by kernel_rfl) ⟨by rw [ltT h1], by rw [pb1 h1], rfl⟩) h
  · by_cases h2 : c < 2048
    · have e : encB c = [UInt8.ofNat (192 + c / 64), UInt8.ofNat (128 + c % 64)] := by simp [encB, encN, h1, h2]
      rw [e]
      exact pure_hC tabOK hF (by rfl) (by rfl) [(5, .e (.bool false)), (12, .e (.bool true)), (15, .e (i32 (Int.ofNat (c / 64)))), (17, .e (by8 (192 + c / 64))), (21, .e (by8 (128 + c % 64)))] dF14 (by kernel_rfl)
        (ofK (b := AV.bool (ltI (Int.ofNat c) (Int.ofNat 128)) = .bool false ∧ AV.bool (ltI (Int.ofNat c) (Int.ofNat 2048)) = .bool true ∧ AV.int .i32 (wrapF .i32 (Int.ofNat (c / 64))) = i32 (Int.ofNat (c / 64)) ∧ AV.int .u8 (wrapF .u8 (wrapF .i32 (Int.ofNat (192 + c / 64)))) = by8 (192 + c / 64) ∧
            AV.int .u8 (wrapF .u8 (wrapF .i32 (Int.ofNat (128 + c % 64)))) = by8 (128 + c % 64) ∧ AV.str [UInt8.ofNat (192 + c / 64), UInt8.ofNat (128 + c % 64)] = .str [UInt8.ofNat (192 + c / 64), UInt8.ofNat (128 + c % 64)]) (by kernel_rfl)
          ⟨by rw [ltF (by omega)], by rw [ltT h2], wq (by omega), wc (by omega), wc (by omega), rfl⟩) h
    · by_cases h3 : c < 65536
      · have e : encB c = [UInt8.ofNat (224 + c / 4096), UInt8.ofNat (128 + c / 64 % 64), UInt8.ofNat (128 + c % 64)] := by simp [encB, encN, h1, h2, h3]
        rw [e]
        exact pure_hC tabOK hF (by rfl) (by rfl) [(5, .e (.bool false)), (12, .e (.bool false)), (25, .e (.bool true)), (28, .e (i32 (Int.ofNat (c / 4096)))), (30, .e (by8 (224 + c / 4096))), (32, .e (i32 (Int.ofNat (c / 64)))), (35, .e (by8 (128 + c / 64 % 64))), (39, .e (by8 (128 + c % 64)))] dF14 (by kernel_rfl)
          (ofK (b := AV.bool (ltI (Int.ofNat c) (Int.ofNat 128)) = .bool false ∧ AV.bool (ltI (Int.ofNat c) (Int.ofNat 2048)) = .bool false ∧ AV.bool (ltI (Int.ofNat c) (Int.ofNat 65536)) = .bool true ∧ AV.int .i32 (wrapF .i32 (Int.ofNat (c / 4096))) = i32 (Int.ofNat (c / 4096)) ∧
              AV.int .u8 (wrapF .u8 (wrapF .i32 (Int.ofNat (224 + c / 4096)))) = by8 (224 + c / 4096) ∧ AV.int .i32 (wrapF .i32 (Int.ofNat (c / 64))) = i32 (Int.ofNat (c / 64)) ∧ AV.int .u8 (wrapF .u8 (wrapF .i32 (Int.ofNat (128 + c / 64 % 64)))) = by8 (128 + c / 64 % 64) ∧
              AV.int .u8 (wrapF .u8 (wrapF .i32 (Int.ofNat (128 + c % 64)))) = by8 (128 + c % 64) ∧ AV.str [UInt8.ofNat (224 + c / 4096), UInt8.ofNat (128 + c / 64 % 64), UInt8.ofNat (128 + c % 64)] = .str [UInt8.ofNat (224 + c / 4096), UInt8.ofNat (128 + c / 64 % 64), UInt8.ofNat (128 + c % 64)]) (by kernel_rfl)
            ⟨by rw [ltF (by omega)], by rw [ltF (by omega)], by rw [ltT h3], wq (by omega), wc (by omega), wq (by omega), wc (by omega), wc (by omega), rfl⟩) h
      · have e : encB c = [UInt8.ofNat (240 + c / 262144), UInt8.ofNat (128 + c / 4096 % 64), UInt8.ofNat (128 + c / 64 % 64), UInt8.ofNat (128 + c % 64)] := by simp [encB, encN, h1, h2, h3]
        rw [e]
        exact pure_hC tabOK hF (by rfl) (by rfl) [(5, .e (.bool false)), (12, .e (.bool false)), (25, .e (.bool false)), (44, .e (i32 (Int.ofNat (c / 262144)))), (46, .e (by8 (240 + c / 262144))), (48, .e (i32 (Int.ofNat (c / 4096)))), (51, .e (by8 (128 + c / 4096 % 64))), (53, .e (i32 (Int.ofNat (c / 64)))), (56, .e (by8 (128 + c / 64 % 64))), (60, .e (by8 (128 + c % 64)))] dF14 (by kernel_rfl)
          (ofK (b := AV.bool (ltI (Int.ofNat c) (Int.ofNat 128)) = .bool false ∧ AV.bool (ltI (Int.ofNat c) (Int.ofNat 2048)) = .bool false ∧ AV.bool (ltI (Int.ofNat c) (Int.ofNat 65536)) = .bool false ∧ AV.int .i32 (wrapF .i32 (Int.ofNat (c / 262144))) = i32 (Int.ofNat (c / 262144)) ∧
              AV.int .u8 (wrapF .u8 (wrapF .i32 (Int.ofNat (240 + c / 262144)))) = by8 (240 + c / 262144) ∧ AV.int .i32 (wrapF .i32 (Int.ofNat (c / 4096))) = i32 (Int.ofNat (c / 4096)) ∧ AV.int .u8 (wrapF .u8 (wrapF .i32 (Int.ofNat (128 + c / 4096 % 64)))) = by8 (128 + c / 4096 % 64) ∧
              AV.int .i32 (wrapF .i32 (Int.ofNat (c / 64))) = i32 (Int.ofNat (c / 64)) ∧ AV.int .u8 (wrapF .u8 (wrapF .i32 (Int.ofNat (128 + c / 64 % 64)))) = by8 (128 + c / 64 % 64) ∧ AV.int .u8 (wrapF .u8 (wrapF .i32 (Int.ofNat (128 + c % 64)))) = by8 (128 + c % 64) ∧
              AV.str [UInt8.ofNat (240 + c / 262144), UInt8.ofNat (128 + c / 4096 % 64), UInt8.ofNat (128 + c / 64 % 64), UInt8.ofNat (128 + c % 64)] = .str [UInt8.ofNat (240 + c / 262144), UInt8.ofNat (128 + c / 4096 % 64), UInt8.ofNat (128 + c / 64 % 64), UInt8.ofNat (128 + c % 64)]) (by kernel_rfl)
            ⟨by rw [ltF (by omega)], by rw [ltF (by omega)], by rw [ltF (by omega)], wq (by omega), wc (by omega), wq (by omega), wc (by omega), wq (by omega), wc (by omega), wc (by omega), rfl⟩) h
/-- are these the bytes of a scalar -/
def wholeB (t : List UInt8) : Bool := bif scal (VI t) then beqB (encB (VI t).toNat) t else false
theorem whole_T {t : List UInt8} (hv : ∀ h, CallT P kF25 [.str t] h (.ret (i32 (VI t)) h none)) (h : Heap) : CallT P kF24 [.str t] h (.ret (.bool (wholeB t)) h none) := by
  cases hs : scal (VI t) with
  | false =>
    have e : wholeB t = false := by unfold wholeB; rw [hs]; rfl
    rw [e]
    exact pure_hC tabOK hF (by rfl) (by rfl) [(5, .c (.ret (i32 (VI t)) H2 none)), (7, .c (.ret (.bool false) H2 none))] dF24 (by kernel_rfl)
      (ofK (b := CallI P kF25 [.str t] H2 (.ret (i32 (VI t)) H2 none) ∧ CallI P kF13 [i32 (VI t)] H2 (.ret (.bool false) H2 none) ∧ AV.bool false = .bool false) (by kernel_rfl) ⟨⟨hv _⟩, ⟨by rw [← hs]; exact scalar_T _ _⟩, rfl⟩) h
  | true =>
    obtain ⟨c, hc, hle⟩ : ∃ c : Nat, VI t = Int.ofNat c ∧ c ≤ 1114111 := by
      simp only [scal, Bool.and_eq_true, decide_eq_true_eq] at hs
      exact ⟨(VI t).toNat, by simp only [Int.ofNat_eq_natCast]; omega, by omega⟩
    have e : wholeB t = beqB (encB c) t := by unfold wholeB; rw [hs, hc]; rfl
    rw [e]
    have hv' := hv H2
    rw [hc] at hv' hs
    exact pure_hC tabOK hF (by rfl) (by rfl) [(5, .c (.ret (i32 (Int.ofNat c)) H2 none)), (7, .c (.ret (.bool true) H2 none)), (10, .c (.ret (.str (encB c)) H2 none))] dF24 (by kernel_rfl)
      (ofK (b := CallI P kF25 [.str t] H2 (.ret (i32 (Int.ofNat c)) H2 none) ∧ CallI P kF13 [i32 (Int.ofNat c)] H2 (.ret (.bool true) H2 none) ∧ CallI P kF14 [i32 (Int.ofNat c)] H2 (.ret (.str (encB c)) H2 none) ∧ AV.bool (beqB (encB c) t) = .bool (beqB (encB c) t)) (by kernel_rfl)
        ⟨⟨hv'⟩, ⟨by rw [← hs]; exact scalar_T _ _⟩, ⟨bytes_T hle _⟩, rfl⟩) h
end Go.Proofs.YtbdpfpjpmilpbaaGreatDoor

namespace Go.Proofs.YtbdpfpjpmilpbaaGreatDoor
open Go Go.Rk
set_option maxRecDepth 1000000
set_option linter.unusedVariables false
set_option linter.unusedSimpArgs false
set_option linter.constructorNameAsVariable false
set_option linter.unusedSectionVars false
/-! the document's answer: do two or three bytes begin those of a scalar -/
abbrev geQ (a : UInt8) (n : Nat) : Bool := !ltI (Int.ofNat a.toNat) (Int.ofNat n)
abbrev leQ (a : UInt8) (n : Nat) : Bool := !ltI (Int.ofNat n) (Int.ofNat a.toNat)
abbrev eqQ (a : UInt8) (n : Nat) : Bool := eqI (Int.ofNat a.toNat) (Int.ofNat n)
def sp (x : Bool) (A B : Prop) : Prop := (x = true → A) ∧ (x = false → B)
def segB (lo hi : Nat) (b : UInt8) (k : Bool) : Bool := bif geQ b lo then (bif leQ b hi then k else false) else false
def segP (lo hi : Nat) (b : UInt8) (K N : Prop) : Prop := sp (geQ b lo) (sp (leQ b hi) K N) N
def sub3 (a b : UInt8) (k : Bool) : Bool := bif eqQ a 244 then segB 128 143 b k else false
def sub3P (a b : UInt8) (K N : Prop) : Prop := sp (eqQ a 244) (segP 128 143 b K N) N
def sub2 (a b : UInt8) (k : Bool) : Bool := bif geQ a 241 then (bif leQ a 243 then segB 128 191 b k else sub3 a b k) else sub3 a b k
def sub2P (a b : UInt8) (K N : Prop) : Prop := sp (geQ a 241) (sp (leQ a 243) (segP 128 191 b K N) (sub3P a b K N)) (sub3P a b K N)
def sub1 (a b : UInt8) (k : Bool) : Bool := bif eqQ a 240 then segB 144 191 b k else sub2 a b k
def sub1P (a b : UInt8) (K N : Prop) : Prop := sp (eqQ a 240) (segP 144 191 b K N) (sub2P a b K N)
def ra3 (a b : UInt8) (k : Bool) : Bool := bif geQ a 225 then (bif leQ a 239 then segB 128 191 b k else sub1 a b k) else sub1 a b k
def ra3P (a b : UInt8) (K N : Prop) : Prop := sp (geQ a 225) (sp (leQ a 239) (segP 128 191 b K N) (sub1P a b K N)) (sub1P a b K N)
def ra2 (a b : UInt8) (k : Bool) : Bool := bif eqQ a 237 then segB 128 159 b k else ra3 a b k
def ra2P (a b : UInt8) (K N : Prop) : Prop := sp (eqQ a 237) (segP 128 159 b K N) (ra3P a b K N)
def ra1 (a b : UInt8) (k : Bool) : Bool := bif eqQ a 224 then segB 160 191 b k else ra2 a b k
def ra1P (a b : UInt8) (K N : Prop) : Prop := sp (eqQ a 224) (segP 160 191 b K N) (ra2P a b K N)
def bg2 (a b : UInt8) : Bool := bif geQ a 194 then (bif leQ a 223 then segB 128 191 b true else ra1 a b true) else ra1 a b true
def bg3 (a b c : UInt8) : Bool := bif geQ a 194 then (bif leQ a 223 then false else ra1 a b (segB 128 191 c true)) else ra1 a b (segB 128 191 c true)
theorem spI {x y z : Bool} {A B : Prop} {v : AV} (hA : v = .bool y → A) (hB : v = .bool z → B) (hv : v = .bool (bif x then y else z)) : sp x A B := by
  cases x
  · exact ⟨fun h => (nomatch h), fun _ => hB hv⟩
  · exact ⟨fun _ => hA hv, fun h => (nomatch h)⟩
abbrev NN (v : AV) : Prop := AV.bool false = v
theorem nnI {v : AV} (h : v = .bool false) : NN v := h.symm
theorem segI {lo hi : Nat} {b : UInt8} {k : Bool} {K : Prop} {v : AV} (hK : v = .bool k → K) (hv : v = .bool (segB lo hi b k)) : segP lo hi b K (NN v) :=
  spI (spI hK nnI) nnI hv
theorem ra1I {a b : UInt8} {k : Bool} {K : Prop} {v : AV} (hK : v = .bool k → K) (hv : v = .bool (ra1 a b k)) : ra1P a b K (NN v) :=
  have h3 : v = .bool (sub3 a b k) → sub3P a b K (NN v) := spI (segI hK) nnI
  have h2 : v = .bool (sub2 a b k) → sub2P a b K (NN v) := spI (spI (segI hK) h3) h3
  have h1 : v = .bool (sub1 a b k) → sub1P a b K (NN v) := spI (segI hK) h2
  have r3 : v = .bool (ra3 a b k) → ra3P a b K (NN v) := spI (spI (segI hK) h1) h1
  have r2 : v = .bool (ra2 a b k) → ra2P a b K (NN v) := spI (segI hK) r3
  spI (segI hK) r2 hv
theorem begins2 (a b : UInt8) (h : Heap) : CallT P kF26 [.str [a, b]] h (.ret (.bool (bg2 a b)) h none) := by
  generalize hv : AV.bool (bg2 a b) = v
  exact pure_hC tabOK hF (by rfl) (by rw [← hv]; rfl) [(12, .b [(15, .b [(22, .b [(26, .b [] [])] [])] [(30, .b [(32, .b [(35, .b [] [])] [])] [(39, .b [(41, .b [(44, .b [] [])] [])] [(48, .b [(51, .b [(54, .b [(57, .b [] [])] [])] [(61, .b [(63, .b [(66, .b [] [])] [])] [(70, .b [(73, .b [(76, .b [(79, .b [] [])] [])] [(83, .b [(85, .b [(88, .b [] [])] [])] [])])] [(83, .b [(85, .b [(88, .b [] [])] [])] [])])])])] [(61, .b [(63, .b [(66, .b [] [])] [])] [(70, .b [(73, .b [(76, .b [(79, .b [] [])] [])] [(83, .b [(85, .b [(88, .b [] [])] [])] [])])] [(83, .b [(85, .b [(88, .b [] [])] [])] [])])])])])])])] [(30, .b [(32, .b [(35, .b [] [])] [])] [(39, .b [(41, .b [(44, .b [] [])] [])] [(48, .b [(51, .b [(54, .b [(57, .b [] [])] [])] [(61, .b [(63, .b [(66, .b [] [])] [])] [(70, .b [(73, .b [(76, .b [(79, .b [] [])] [])] [(83, .b [(85, .b [(88, .b [] [])] [])] [])])] [(83, .b [(85, .b [(88, .b [] [])] [])] [])])])])] [(61, .b [(63, .b [(66, .b [] [])] [])] [(70, .b [(73, .b [(76, .b [(79, .b [] [])] [])] [(83, .b [(85, .b [(88, .b [] [])] [])] [])])] [(83, .b [(85, .b [(88, .b [] [])] [])] [])])])])])])])] dF26 (by kernel_rfl)
    (ofK (b := sp (geQ a 194) (sp (leQ a 223) (segP 128 191 b (AV.bool true = v) (NN v)) (ra1P a b (AV.bool true = v) (NN v))) (ra1P a b (AV.bool true = v) (NN v))) (by kernel_rfl)
      (spI (spI (segI fun h => h.symm) (ra1I fun h => h.symm)) (ra1I fun h => h.symm) hv.symm)) h
theorem begins3 (a b c : UInt8) (h : Heap) : CallT P kF26 [.str [a, b, c]] h (.ret (.bool (bg3 a b c)) h none) := by
  generalize hv : AV.bool (bg3 a b c) = v
  exact pure_hC tabOK hF (by rfl) (by rw [← hv]; rfl) [(12, .b [(15, .b [] [(30, .b [(32, .b [(35, .b [(98, .b [(102, .b [] [])] [])] [])] [])] [(39, .b [(41, .b [(44, .b [(98, .b [(102, .b [] [])] [])] [])] [])] [(48, .b [(51, .b [(54, .b [(57, .b [(98, .b [(102, .b [] [])] [])] [])] [])] [(61, .b [(63, .b [(66, .b [(98, .b [(102, .b [] [])] [])] [])] [])] [(70, .b [(73, .b [(76, .b [(79, .b [(98, .b [(102, .b [] [])] [])] [])] [])] [(83, .b [(85, .b [(88, .b [(98, .b [(102, .b [] [])] [])] [])] [])] [])])] [(83, .b [(85, .b [(88, .b [(98, .b [(102, .b [] [])] [])] [])] [])] [])])])])] [(61, .b [(63, .b [(66, .b [(98, .b [(102, .b [] [])] [])] [])] [])] [(70, .b [(73, .b [(76, .b [(79, .b [(98, .b [(102, .b [] [])] [])] [])] [])] [(83, .b [(85, .b [(88, .b [(98, .b [(102, .b [] [])] [])] [])] [])] [])])] [(83, .b [(85, .b [(88, .b [(98, .b [(102, .b [] [])] [])] [])] [])] [])])])])])])])] [(30, .b [(32, .b [(35, .b [(98, .b [(102, .b [] [])] [])] [])] [])] [(39, .b [(41, .b [(44, .b [(98, .b [(102, .b [] [])] [])] [])] [])] [(48, .b [(51, .b [(54, .b [(57, .b [(98, .b [(102, .b [] [])] [])] [])] [])] [(61, .b [(63, .b [(66, .b [(98, .b [(102, .b [] [])] [])] [])] [])] [(70, .b [(73, .b [(76, .b [(79, .b [(98, .b [(102, .b [] [])] [])] [])] [])] [(83, .b [(85, .b [(88, .b [(98, .b [(102, .b [] [])] [])] [])] [])] [])])] [(83, .b [(85, .b [(88, .b [(98, .b [(102, .b [] [])] [])] [])] [])] [])])])])] [(61, .b [(63, .b [(66, .b [(98, .b [(102, .b [] [])] [])] [])] [])] [(70, .b [(73, .b [(76, .b [(79, .b [(98, .b [(102, .b [] [])] [])] [])] [])] [(83, .b [(85, .b [(88, .b [(98, .b [(102, .b [] [])] [])] [])] [])] [])])] [(83, .b [(85, .b [(88, .b [(98, .b [(102, .b [] [])] [])] [])] [])] [])])])])])])])] dF26 (by kernel_rfl)
    (ofK (b := sp (geQ a 194) (sp (leQ a 223) (NN v) (ra1P a b (segP 128 191 c (AV.bool true = v) (NN v)) (NN v))) (ra1P a b (segP 128 191 c (AV.bool true = v) (NN v)) (NN v))) (by kernel_rfl)
      (spI (spI nnI (ra1I (segI fun h => h.symm))) (ra1I (segI fun h => h.symm)) hv.symm)) h
end Go.Proofs.YtbdpfpjpmilpbaaGreatDoor

namespace Go.Proofs.YtbdpfpjpmilpbaaGreatDoor
open Go Go.Rk
set_option maxRecDepth 1000000
set_option linter.unusedVariables false
set_option linter.unusedSimpArgs false
set_option linter.constructorNameAsVariable false
set_option linter.unusedSectionVars false
/-! the document's answer: the next scalar of a text -/
theorem value_T : ∀ {t : List UInt8}, 1 ≤ t.length → t.length ≤ 4 → ∀ h, CallT P kF25 [.str t] h (.ret (i32 (VI t)) h none)
  | [b0], _, _, h => value1 b0 h
  | [b0, b1], _, _, h => value2 b0 b1 h
  | [b0, b1, b2], _, _, h => value3 b0 b1 b2 h
  | [b0, b1, b2, b3], _, _, h => value4 b0 b1 b2 b3 h
  | [], h, _, _ => absurd h (by simp)
  | _ :: _ :: _ :: _ :: _ :: _, _, h, _ => absurd h (by simp)
def bgS : List UInt8 → Bool
  | [a, b] => bg2 a b
  | [a, b, c] => bg3 a b c
  | _ => false
theorem begins_T : ∀ {t : List UInt8}, 2 ≤ t.length → t.length ≤ 3 → ∀ h, CallT P kF26 [.str t] h (.ret (.bool (bgS t)) h none)
  | [a, b], _, _, h => begins2 a b h
  | [a, b, c], _, _, h => begins3 a b c h
  | [], h, _, _ => absurd h (by simp)
  | [_], h, _, _ => absurd h (by simp)
  | _ :: _ :: _ :: _ :: _, _, h, _ => absurd h (by simp)
def fndN (s : List UInt8) : Nat → Nat → Nat
  | 0, _ => 0
  | f + 1, n => if n ≤ 4 ∧ n ≤ s.length then (bif wholeB (s.take n) then n else fndN s f (n + 1)) else 0
def cntB (s : List UInt8) : Nat → Nat → Nat
  | 0, m => m
  | f + 1, m => if m < s.length ∧ m < 3 then (bif bgS (s.take (m + 1)) then cntB s f (m + 1) else m) else m
section
variable (s : List UInt8)
abbrev E15 (n : Nat) : T := envOf [(0, .str s), (2, i32 0), (3, i64 0), (4, .bool false), (5, i64 n)]
abbrev Y15 (n : Nat) : T := envOf [(0, .str s), (2, i32 (VI (s.take n))), (3, i64 n), (4, .bool true), (5, i64 n)]
abbrev E15b (n m : Nat) : T := envOf [(0, .str s), (2, i32 0), (3, i64 0), (4, .bool false), (5, i64 n), (6, i64 m)]
abbrev lim : Nat := min 4 s.length + 1
noncomputable def X15 (n : Nat) : XR := .exit 0 (E15 s n) H2 d0
noncomputable def Z15 (n : Nat) : XR := .ret (Y15 s n) H2 d0
noncomputable def X15b (n m : Nat) : XR := .exit 2 (E15b s n m) H2 d0
noncomputable def R15 (m : Nat) : XR := bif Nat.beq m 0 then X15 s (lim s) else Z15 s m
theorem s15a {n : Nat} (h : ¬ n ≤ 4) : Trip P 46 (lp cF15 0) (E15 s n) H2 d0 (X15 s n) :=
  trip_shed hF (by rfl) [(10, .e (.bool false))] oB2 KT [0, 2, 3, 4, 5]
    (ofK (b := AV.bool (!ltI (Int.ofNat 4) (Int.ofNat n)) = .bool false ∧ (true = true ∧ true = true ∧ true = true ∧ True) ∧ X15 s n = X15 s n) (by kernel_rfl) ⟨by rw [ltT (by omega)]; rfl, ⟨rfl, rfl, rfl, trivial⟩, rfl⟩)
theorem s15b {n : Nat} (h : n ≤ 4) (h1 : ¬ n ≤ s.length) : Trip P 46 (lp cF15 0) (E15 s n) H2 d0 (X15 s n) :=
  trip_shed hF (by rfl) [(10, .e (.bool true)), (15, .e (.bool false))] oB2 KT [0, 2, 3, 4, 5]
    (ofK (b := AV.bool (!ltI (Int.ofNat 4) (Int.ofNat n)) = .bool true ∧ AV.bool (!ltI (Int.ofNat s.length) (Int.ofNat n)) = .bool false ∧ (true = true ∧ true = true ∧ true = true ∧ True) ∧ X15 s n = X15 s n) (by kernel_rfl)
      ⟨by rw [ltF h]; rfl, by rw [ltT (by omega)]; rfl, ⟨rfl, rfl, rfl, trivial⟩, rfl⟩)
theorem len_take {n : Nat} (h : n ≤ s.length) : (s.take n).length = n := by rw [List.length_take]; omega
theorem s15c {n : Nat} (h0 : 1 ≤ n) (h : n ≤ 4) (h1 : n ≤ s.length) (hw : wholeB (s.take n) = true) : Trip P 46 (lp cF15 0) (E15 s n) H2 d0 (Z15 s n) :=
  trip_shed hF (by rfl) [(10, .e (.bool true)), (15, .e (.bool true)), (21, .u .undef), (22, .c (.ret (.bool true) H2 none)), (25, .u .undef), (26, .c (.ret (i32 (VI (s.take n))) H2 none))] oB2 KT [0, 2, 3, 4, 5]
    (ofK (b := AV.bool (!ltI (Int.ofNat 4) (Int.ofNat n)) = .bool true ∧ AV.bool (!ltI (Int.ofNat s.length) (Int.ofNat n)) = .bool true ∧ n ≤ s.length ∧ CallI P kF24 [.str (s.take n)] H2 (.ret (.bool true) H2 none) ∧ n ≤ s.length ∧ CallI P kF25 [.str (s.take n)] H2 (.ret (i32 (VI (s.take n))) H2 none) ∧
        (true = true ∧ true = true ∧ true = true ∧ True) ∧ Z15 s n = Z15 s n) (by kernel_rfl)
      ⟨by rw [ltF h]; rfl, by rw [ltF h1]; rfl, h1, ⟨by rw [← hw]; exact whole_T (value_T (by rw [len_take s h1]; exact h0) (by rw [len_take s h1]; exact h)) _⟩, h1, ⟨value_T (by rw [len_take s h1]; exact h0) (by rw [len_take s h1]; exact h) _⟩, ⟨rfl, rfl, rfl, trivial⟩, rfl⟩)
theorem s15d {n : Nat} (h0 : 1 ≤ n) (h : n ≤ 4) (h1 : n ≤ s.length) (hw : wholeB (s.take n) = false) : Trip P 46 (lp cF15 0) (E15 s n) H2 d0 (.nrm (E15 s (n + 1)) H2 d0) :=
  trip_shed hF (by rfl) [(10, .e (.bool true)), (15, .e (.bool true)), (21, .u .undef), (22, .c (.ret (.bool false) H2 none)), (18, .e (i64 (n + 1)))] oB2 KT [0, 2, 3, 4, 5]
    (ofK (b := AV.bool (!ltI (Int.ofNat 4) (Int.ofNat n)) = .bool true ∧ AV.bool (!ltI (Int.ofNat s.length) (Int.ofNat n)) = .bool true ∧ n ≤ s.length ∧ CallI P kF24 [.str (s.take n)] H2 (.ret (.bool false) H2 none) ∧ AV.int .i64 (wrapF .i64 (Int.ofNat (n + 1))) = i64 (n + 1) ∧
        (true = true ∧ true = true ∧ true = true ∧ True) ∧ XR.nrm (E15 s (n + 1)) H2 d0 = XR.nrm (E15 s (n + 1)) H2 d0) (by kernel_rfl)
      ⟨by rw [ltF h]; rfl, by rw [ltF h1]; rfl, h1, ⟨by rw [← hw]; exact whole_T (value_T (by rw [len_take s h1]; exact h0) (by rw [len_take s h1]; exact h)) _⟩, by rw [wrapI64 (by omega)], ⟨rfl, rfl, rfl, trivial⟩, rfl⟩)
theorem loop15 : ∀ x : { x : Nat × Nat // 5 ≤ x.2 + x.1 ∧ 1 ≤ x.2 ∧ x.2 ≤ lim s }, TripL P 46 (lp cF15 0) (E15 s x.1.2) H2 d0 (R15 s (fndN s x.1.1 x.1.2)) := by
  refine TripL.fam (fun (x : { x : Nat × Nat // 5 ≤ x.2 + x.1 ∧ 1 ≤ x.2 ∧ x.2 ≤ lim s }) => E15 s x.1.2) (fun _ => H2) d0 (fun x => R15 s (fndN s x.1.1 x.1.2)) (fun x => x.1.1) fun ⟨⟨f, n⟩, hx⟩ => ?_
  simp only [lim] at hx ⊢
  have none_ : ¬ (n ≤ 4 ∧ n ≤ s.length) → Trip P 46 (lp cF15 0) (E15 s n) H2 d0 (R15 s 0) := fun hn => by
    have e : R15 s 0 = X15 s n := by show X15 s (lim s) = _; rw [show lim s = n by simp only [lim]; omega]
    rw [e]
    by_cases h : n ≤ 4
    · exact s15b s h fun h1 => hn ⟨h, h1⟩
    · exact s15a s h
  cases f with
  | zero => exact .inl ⟨rfl, none_ (by omega)⟩
  | succ f =>
    by_cases h : n ≤ 4 ∧ n ≤ s.length
    · cases hw : wholeB (s.take n) with
      | true =>
        have e : fndN s (f + 1) n = n := by rw [fndN, if_pos h, hw]; rfl
        rw [e]
        have e2 : R15 s n = Z15 s n := by unfold R15; rw [beq_ne (by omega)]; rfl
        rw [e2]
        exact .inl ⟨rfl, s15c s hx.2.1 h.1 h.2 hw⟩
      | false =>
        have e : fndN s (f + 1) n = fndN s f (n + 1) := by rw [fndN, if_pos h, hw]; rfl
        exact .inr ⟨⟨(f, n + 1), by simp only [lim]; omega⟩, by simp, by rw [e], s15d s hx.2.1 h.1 h.2 hw⟩
    · have e : fndN s (f + 1) n = 0 := by rw [fndN, if_neg h]
      rw [e]
      exact .inl ⟨rfl, none_ h⟩
theorem s15e {n m : Nat} (h : ¬ m < s.length) : Trip P 46 (lp cF15 1) (E15b s n m) H2 d0 (X15b s n m) :=
  trip_shed hF (by rfl) [(31, .e (.bool false))] oB2 KT [0, 2, 3, 4, 5, 6]
    (ofK (b := AV.bool (ltI (Int.ofNat m) (Int.ofNat s.length)) = .bool false ∧ (true = true ∧ true = true ∧ true = true ∧ True) ∧ X15b s n m = X15b s n m) (by kernel_rfl) ⟨by rw [ltF (by omega)], ⟨rfl, rfl, rfl, trivial⟩, rfl⟩)
theorem s15f {n m : Nat} (h : m < s.length) (h1 : ¬ m < 3) : Trip P 46 (lp cF15 1) (E15b s n m) H2 d0 (X15b s n m) :=
  trip_shed hF (by rfl) [(31, .e (.bool true)), (34, .e (.bool false))] oB2 KT [0, 2, 3, 4, 5, 6]
    (ofK (b := AV.bool (ltI (Int.ofNat m) (Int.ofNat s.length)) = .bool true ∧ AV.bool (ltI (Int.ofNat m) (Int.ofNat 3)) = .bool false ∧ (true = true ∧ true = true ∧ true = true ∧ True) ∧ X15b s n m = X15b s n m) (by kernel_rfl)
      ⟨by rw [ltT h], by rw [ltF (by omega)], ⟨rfl, rfl, rfl, trivial⟩, rfl⟩)
theorem s15g {n m : Nat} (h0 : 1 ≤ m) (h : m < s.length) (h1 : m < 3) (hb : bgS (s.take (m + 1)) = false) : Trip P 46 (lp cF15 1) (E15b s n m) H2 d0 (X15b s n m) :=
  trip_shed hF (by rfl) [(31, .e (.bool true)), (34, .e (.bool true)), (39, .e (i64 (m + 1))), (40, .u .undef), (41, .c (.ret (.bool false) H2 none))] oB2 KT [0, 2, 3, 4, 5, 6]
    (ofK (b := AV.bool (ltI (Int.ofNat m) (Int.ofNat s.length)) = .bool true ∧ AV.bool (ltI (Int.ofNat m) (Int.ofNat 3)) = .bool true ∧ AV.int .i64 (wrapF .i64 (Int.ofNat (m + 1))) = i64 (m + 1) ∧ m + 1 ≤ s.length ∧ CallI P kF26 [.str (s.take (m + 1))] H2 (.ret (.bool false) H2 none) ∧
        (true = true ∧ true = true ∧ true = true ∧ True) ∧ X15b s n m = X15b s n m) (by kernel_rfl)
      ⟨by rw [ltT h], by rw [ltT h1], by rw [wrapI64 (by omega)], h, ⟨by rw [← hb]; exact begins_T (by rw [len_take s h]; omega) (by rw [len_take s h]; omega) _⟩, ⟨rfl, rfl, rfl, trivial⟩, rfl⟩)
theorem s15h {n m : Nat} (h0 : 1 ≤ m) (h : m < s.length) (h1 : m < 3) (hb : bgS (s.take (m + 1)) = true) : Trip P 46 (lp cF15 1) (E15b s n m) H2 d0 (.nrm (E15b s n (m + 1)) H2 d0) :=
  trip_shed hF (by rfl) [(31, .e (.bool true)), (34, .e (.bool true)), (39, .e (i64 (m + 1))), (40, .u .undef), (41, .c (.ret (.bool true) H2 none)), (44, .e (i64 (m + 1)))] oB2 KT [0, 2, 3, 4, 5, 6]
    (ofK (b := AV.bool (ltI (Int.ofNat m) (Int.ofNat s.length)) = .bool true ∧ AV.bool (ltI (Int.ofNat m) (Int.ofNat 3)) = .bool true ∧ AV.int .i64 (wrapF .i64 (Int.ofNat (m + 1))) = i64 (m + 1) ∧ m + 1 ≤ s.length ∧ CallI P kF26 [.str (s.take (m + 1))] H2 (.ret (.bool true) H2 none) ∧
        AV.int .i64 (wrapF .i64 (Int.ofNat (m + 1))) = i64 (m + 1) ∧ (true = true ∧ true = true ∧ true = true ∧ True) ∧ XR.nrm (E15b s n (m + 1)) H2 d0 = XR.nrm (E15b s n (m + 1)) H2 d0) (by kernel_rfl)
      ⟨by rw [ltT h], by rw [ltT h1], by rw [wrapI64 (by omega)], h, ⟨by rw [← hb]; exact begins_T (by rw [len_take s h]; omega) (by rw [len_take s h]; omega) _⟩, by rw [wrapI64 (by omega)], ⟨rfl, rfl, rfl, trivial⟩, rfl⟩)
theorem loop15b (n : Nat) : ∀ x : { x : Nat × Nat // 3 ≤ x.2 + x.1 ∧ 1 ≤ x.2 }, TripL P 46 (lp cF15 1) (E15b s n x.1.2) H2 d0 (X15b s n (cntB s x.1.1 x.1.2)) := by
  refine TripL.fam (fun (x : { x : Nat × Nat // 3 ≤ x.2 + x.1 ∧ 1 ≤ x.2 }) => E15b s n x.1.2) (fun _ => H2) d0 (fun x => X15b s n (cntB s x.1.1 x.1.2)) (fun x => x.1.1) fun ⟨⟨f, m⟩, hx⟩ => ?_
  simp only at hx ⊢
  have none_ : ¬ (m < s.length ∧ m < 3) → Trip P 46 (lp cF15 1) (E15b s n m) H2 d0 (X15b s n m) := fun hn => by
    by_cases h : m < s.length
    · exact s15f s h fun h1 => hn ⟨h, h1⟩
    · exact s15e s h
  cases f with
  | zero => exact .inl ⟨rfl, none_ (by omega)⟩
  | succ f =>
    by_cases h : m < s.length ∧ m < 3
    · cases hb : bgS (s.take (m + 1)) with
      | true =>
        have e : cntB s (f + 1) m = cntB s f (m + 1) := by rw [cntB, if_pos h, hb]; rfl
        exact .inr ⟨⟨(f, m + 1), by simp only; omega⟩, by simp, by rw [e], s15h s hx.2 h.1 h.2 hb⟩
      | false =>
        have e : cntB s (f + 1) m = m := by rw [cntB, if_pos h, hb]; rfl
        rw [e]
        exact .inl ⟨rfl, s15g s hx.2 h.1 h.2 hb⟩
    · have e : cntB s (f + 1) m = m := by rw [cntB, if_neg h]
      rw [e]
      exact .inl ⟨rfl, none_ h⟩
end
/-- P1.1: the document's answer -/
def rnx (s : List UInt8) : AV := bif Nat.beq (fndN s 4 1) 0 then .tup [i32 65533, i64 (cntB s 2 1), .bool false] else .tup [i32 (VI (s.take (fndN s 4 1))), i64 (fndN s 4 1), .bool true]
theorem rnext_T (b : UInt8) (t : List UInt8) (h : Heap) : CallT P kF15 [.str (b :: t)] h (.ret (rnx (b :: t)) h none) := by
  have h0 := loop15 (b :: t) ⟨(4, 1), by simp [lim]⟩
  have h1 := loop15b (b :: t) (lim (b :: t)) ⟨(2, 1), by simp⟩
  simp only at h0 h1
  by_cases e : fndN (b :: t) 4 1 = 0
  · have e1 : rnx (b :: t) = .tup [i32 65533, i64 (cntB (b :: t) 2 1), .bool false] := by unfold rnx; rw [e]; rfl
    rw [e] at h0
    have e2 : R15 (b :: t) 0 = X15 (b :: t) (lim (b :: t)) := rfl
    rw [e2] at h0
    rw [e1]
    exact pure_hC tabOK hF (by rfl) (by rfl) [(99, .l [0, 2, 3, 4, 5] (X15 (b :: t) (lim (b :: t)))), (99, .l [0, 2, 3, 4, 5, 6] (X15b (b :: t) (lim (b :: t)) (cntB (b :: t) 2 1)))] dF15 (by kernel_rfl)
      (ofK (b := TripI P 46 (.loop (lp cF15 0)) (E15 (b :: t) 1) H2 d0 (X15 (b :: t) (lim (b :: t))) ∧ TripI P 46 (.loop (lp cF15 1)) (E15b (b :: t) (lim (b :: t)) 1) H2 d0 (X15b (b :: t) (lim (b :: t)) (cntB (b :: t) 2 1)) ∧
          AV.tup [i32 65533, i64 (cntB (b :: t) 2 1), .bool false] = .tup [i32 65533, i64 (cntB (b :: t) 2 1), .bool false]) (by kernel_rfl) ⟨⟨h0.trip⟩, ⟨h1.trip⟩, rfl⟩) h
  · have e1 : rnx (b :: t) = .tup [i32 (VI ((b :: t).take (fndN (b :: t) 4 1))), i64 (fndN (b :: t) 4 1), .bool true] := by unfold rnx; rw [beq_ne e]; rfl
    have e2 : R15 (b :: t) (fndN (b :: t) 4 1) = Z15 (b :: t) (fndN (b :: t) 4 1) := by unfold R15; rw [beq_ne e]; rfl
    rw [e2] at h0
    rw [e1]
    generalize fndN (b :: t) 4 1 = m at *
    exact pure_hC tabOK hF (by rfl) (by rfl) [(99, .l [0, 2, 3, 4, 5] (Z15 (b :: t) m))] dF15 (by kernel_rfl)
      (ofK (b := TripI P 46 (.loop (lp cF15 0)) (E15 (b :: t) 1) H2 d0 (Z15 (b :: t) m) ∧
          AV.tup [i32 (VI ((b :: t).take m)), i64 m, .bool true] = .tup [i32 (VI ((b :: t).take m)), i64 m, .bool true]) (by kernel_rfl) ⟨⟨h0.trip⟩, rfl⟩) h
end Go.Proofs.YtbdpfpjpmilpbaaGreatDoor
