/-
  A step of the proof of this seat's statement. No condition.
-/
import Derived.Test.YtlmpigpkdelopaaDoorPC
namespace Go.Proofs.YtlmpigpkdelopaaDoor
open Go Go.Rk
set_option maxRecDepth 1000000
set_option linter.unusedVariables false
set_option linter.unusedSimpArgs false
set_option linter.constructorNameAsVariable false
set_option linter.unusedSectionVars false
theorem works_good : goodK P F 6 [([], .bool true)] = true := by kernel_rfl
theorem works_T (h : Heap) : CallT P 6 [] h (.ret (.bool true) h none) := known_T tabOK hF works_good (by simp) h
/-! what is told so once stays as it is -/
def good (a : Nat) (x : UInt8) : Prop := x.toNat < 127 ∧ inS x.toNat a = false
theorem nxt_ascii (b : UInt8) (t : List UInt8) (h : b.toNat < 128) : nxt (b :: t) = (b.toNat, 1, true) := by
  have hr : roomN b.toNat = (0, 0, 1) := by simp [roomN, h]
  have hc : contN (b :: t) 1 4 0 0 1 = 1 := by simp [contN]
  unfold nxt
  simp only [hr, hc]
  rfl
theorem decL_ascii : ∀ (f : Nat) (s : List UInt8), s.length ≤ f → (∀ x ∈ s, x.toNat < 128) → decF f s = s.map UInt8.toNat
  | 0, s, hf, _ => by
    have : s = [] := List.length_eq_zero_iff.1 (by omega)
    subst this; rfl
  | f + 1, [], _, _ => rfl
  | f + 1, b :: t, hf, h => by
    have hb := h b (by simp)
    rw [decF, nxt_ascii b t hb]
    simp only [List.drop_succ_cons, List.drop_zero, List.map_cons]
    rw [decL_ascii f t (by simpa using hf) fun x hx => h x (by simp [hx])]
theorem hex_good : ∀ a, a < 6 → ∀ n, n < 16 → good a (digs.getD n 0) := by
  have : ((List.range 6).all fun a => (List.range 16).all fun n => Nat.blt (digs.getD n 0).toNat 127 && !inS (digs.getD n 0).toNat a) = true := by decide +kernel
  intro a ha n hn
  have h1 := List.all_eq_true.1 (List.all_eq_true.1 this a (List.mem_range.2 ha)) n (List.mem_range.2 hn)
  simp only [Bool.and_eq_true, Bool.not_eq_true'] at h1
  exact ⟨blt_iff.1 h1.1, h1.2⟩
theorem pct_good : ∀ a, a < 6 → good a 37 := by
  have : ((List.range 6).all fun a => !inS 37 a) = true := by decide +kernel
  intro a ha
  have h1 := List.all_eq_true.1 this a (List.mem_range.2 ha)
  exact ⟨by decide, by simpa using h1⟩
theorem hexB_good {a : Nat} (ha : a < 6) (b x : UInt8) (hx : x ∈ hexB b) : good a x := by
  have hb := bt b
  simp only [hexB, List.mem_cons, List.mem_nil_iff, or_false] at hx
  rcases hx with rfl | rfl | rfl
  · exact pct_good a ha
  · exact hex_good a ha _ (by omega)
  · exact hex_good a ha _ (by omega)
theorem inS_false {c a : Nat} (ha : a ≤ 6) (h : inS c a = false) : 32 ≤ c ∧ c ≤ 126 := by
  unfold inS at h
  rw [ble_t ha, Bool.true_and] at h
  simp only [Bool.or_eq_false_iff, decide_eq_false_iff_not] at h
  omega
theorem one_good {a : Nat} (ha : a < 6) (c : Nat) (x : UInt8) (hx : x ∈ one a c) : good a x := by
  unfold one at hx
  cases h : inS c a with
  | true =>
    rw [h, cond_true] at hx
    obtain ⟨b, _, hb⟩ := List.mem_flatMap.1 hx
    exact hexB_good ha b x hb
  | false =>
    rw [h, cond_false] at hx
    obtain ⟨h1, h2⟩ := inS_false (by omega) h
    have he : encB c = [UInt8.ofNat c] := by simp [encB, encN, show c < 128 by omega]
    rw [he] at hx
    simp only [List.mem_cons, List.mem_nil_iff, or_false] at hx
    subst hx
    have : (UInt8.ofNat c).toNat = c := by simp; omega
    exact ⟨by rw [this]; omega, by rw [this]; exact h⟩
theorem one_of_good {a : Nat} (x : UInt8) (h : good a x) : one a x.toNat = [x] := by
  unfold one
  rw [h.2, cond_false]
  have := h.1
  simp [encB, encN, show x.toNat < 128 by omega]
theorem flat_good {a : Nat} : ∀ (s : List UInt8), (∀ x ∈ s, good a x) → (s.map UInt8.toNat).flatMap (one a) = s
  | [], _ => rfl
  | x :: t, h => by
    rw [List.map_cons, List.flatMap_cons, one_of_good x (h x (by simp)), flat_good t fun y hy => h y (by simp [hy])]
    rfl
theorem enc_twice {a : Nat} (ha : a < 6) (s : List UInt8) : encS (encS s a) a = encS s a := by
  have hg : ∀ x ∈ encS s a, good a x := by
    intro x hx
    obtain ⟨c, _, hc⟩ := List.mem_flatMap.1 hx
    exact one_good ha c x hc
  have hd : decL (encS s a) = (encS s a).map UInt8.toNat := decL_ascii _ _ (Nat.le_refl _) fun x hx => by have := (hg x hx).1; omega
  show (decL (encS s a)).flatMap (one a) = _
  rw [hd]
  exact flat_good _ hg
/-- a greater set has all that a less one has -/
def lessB (a b : Nat) : Bool := (decide (a ≤ b) && !decide (a = 3) && !decide (a = 1)) || decide (a = b)
theorem less_all : ∀ a, a < 7 → ∀ b, b < 7 → lessB a b = true → ∀ r, r < 130 → inS r a = true → inS r b = true := by
  have : ((List.range 7).all fun a => (List.range 7).all fun b => !lessB a b || (List.range 130).all fun r => !inS r a || inS r b) = true := by decide +kernel
  intro a ha b hb hl r hr hi
  have h1 := List.all_eq_true.1 (List.all_eq_true.1 this a (List.mem_range.2 ha)) b (List.mem_range.2 hb)
  rw [hl] at h1
  simp only [Bool.not_true, Bool.false_or] at h1
  have h2 := List.all_eq_true.1 h1 r (List.mem_range.2 hr)
  rw [hi] at h2
  simpa using h2
end Go.Proofs.YtlmpigpkdelopaaDoor

namespace Go.Proofs.YtlmpigpkdelopaaDoor
open Go Go.Rk
set_option maxRecDepth 1000000
set_option linter.unusedVariables false
set_option linter.unusedSimpArgs false
set_option linter.constructorNameAsVariable false
set_option linter.unusedSectionVars false
section
variable (A B : Nat)
abbrev E4 (L : Bool) (r : Nat) : T := envOf [(1, by8 A), (2, by8 B), (6, .bool false), (8, .bool L), (9, i32 (Int.ofNat r))]
theorem s4a (L : Bool) (r : Nat) (h : ¬ r < 130) : Trip P 63 (lp Tryd.f4 0) (E4 A B L r) H2 d0 (.exit 0 (E4 A B L r) H2 d0) :=
  trip_shed hF (by rfl) [(47, .e (.bool false))] 2 KT [1, 2, 6, 8, 9]
    (ofK (b := AV.bool (ltI (Int.ofNat r) (Int.ofNat 130)) = .bool false ∧ (true = true ∧ true = true ∧ true = true ∧ True) ∧ XR.exit 0 (E4 A B L r) H2 d0 = .exit 0 (E4 A B L r) H2 d0) (by kernel_rfl) ⟨by rw [ltF (by omega)], ⟨rfl, rfl, rfl, trivial⟩, rfl⟩)
theorem s4b (r : Nat) (h : r < 130) : Trip P 63 (lp Tryd.f4 0) (E4 A B false r) H2 d0 (.nrm (E4 A B false (r + 1)) H2 d0) :=
  trip_shed hF (by rfl) [(47, .e (.bool true)), (49, .e (i32 (Int.ofNat (r + 1))))] 2 KT [1, 2, 6, 8, 9]
    (ofK (b := AV.bool (ltI (Int.ofNat r) (Int.ofNat 130)) = .bool true ∧ AV.int .i32 (wrapF .i32 (Int.ofNat (r + 1))) = i32 (Int.ofNat (r + 1)) ∧ (true = true ∧ true = true ∧ true = true ∧ True) ∧ XR.nrm (E4 A B false (r + 1)) H2 d0 = .nrm (E4 A B false (r + 1)) H2 d0) (by kernel_rfl)
      ⟨by rw [ltT h], by rw [wrapI32 (by omega)], ⟨rfl, rfl, rfl, trivial⟩, rfl⟩)
theorem s4c (r : Nat) (h : r < 130) (hA : inS r A = false) : Trip P 63 (lp Tryd.f4 0) (E4 A B true r) H2 d0 (.nrm (E4 A B true (r + 1)) H2 d0) :=
  trip_shed hF (by rfl) [(47, .e (.bool true)), (54, .c (.ret (.bool false) H2 none)), (49, .e (i32 (Int.ofNat (r + 1))))] 2 KT [1, 2, 6, 8, 9]
    (ofK (b := AV.bool (ltI (Int.ofNat r) (Int.ofNat 130)) = .bool true ∧ CallI P 10 [i32 (Int.ofNat r), by8 A] H2 (.ret (.bool false) H2 none) ∧ AV.int .i32 (wrapF .i32 (Int.ofNat (r + 1))) = i32 (Int.ofNat (r + 1)) ∧ (true = true ∧ true = true ∧ true = true ∧ True) ∧ XR.nrm (E4 A B true (r + 1)) H2 d0 = .nrm (E4 A B true (r + 1)) H2 d0) (by kernel_rfl)
      ⟨by rw [ltT h], ⟨by rw [← hA]; exact in_T _⟩, by rw [wrapI32 (by omega)], ⟨rfl, rfl, rfl, trivial⟩, rfl⟩)
theorem s4d (r : Nat) (h : r < 130) (hA : inS r A = true) (hB : inS r B = true) : Trip P 63 (lp Tryd.f4 0) (E4 A B true r) H2 d0 (.nrm (E4 A B true (r + 1)) H2 d0) :=
  trip_shed hF (by rfl) [(47, .e (.bool true)), (54, .c (.ret (.bool true) H2 none)), (59, .c (.ret (.bool true) H2 none)), (49, .e (i32 (Int.ofNat (r + 1))))] 2 KT [1, 2, 6, 8, 9]
    (ofK (b := AV.bool (ltI (Int.ofNat r) (Int.ofNat 130)) = .bool true ∧ CallI P 10 [i32 (Int.ofNat r), by8 A] H2 (.ret (.bool true) H2 none) ∧ CallI P 10 [i32 (Int.ofNat r), by8 B] H2 (.ret (.bool true) H2 none) ∧ AV.int .i32 (wrapF .i32 (Int.ofNat (r + 1))) = i32 (Int.ofNat (r + 1)) ∧ (true = true ∧ true = true ∧ true = true ∧ True) ∧ XR.nrm (E4 A B true (r + 1)) H2 d0 = .nrm (E4 A B true (r + 1)) H2 d0) (by kernel_rfl)
      ⟨by rw [ltT h], ⟨by rw [← hA]; exact in_T _⟩, ⟨by rw [← hB]; exact in_T _⟩, by rw [wrapI32 (by omega)], ⟨rfl, rfl, rfl, trivial⟩, rfl⟩)
theorem l4 (L : Bool) (hA : A < 7) (hB : B < 7) (hL : L = lessB A B) : ∀ (m r : Nat), r + m = 130 → TripL P 63 (lp Tryd.f4 0) (E4 A B L r) H2 d0 (.exit 0 (E4 A B L 130) H2 d0)
  | 0, r, h => by
    have : r = 130 := by omega
    subst this
    exact TripL.stop rfl (s4a A B L 130 (by omega))
  | m + 1, r, h => by
    refine TripL.next ?_ (l4 L hA hB hL m (r + 1) (by omega))
    cases L with
    | false => exact s4b A B r (by omega)
    | true =>
      cases hi : inS r A with
      | false => exact s4c A B r (by omega) hi
      | true => exact s4d A B r (by omega) hi (less_all A hA B hB hL.symm r (by omega) hi)
end
theorem modB (a m : Nat) : AV.int .u8 (Int.ofNat (a % m)) = by8 (a % m) := rfl
theorem twice_big {s : List UInt8} {a b : Nat} (h : 8192 < s.length) (h0 : Heap) : CallT P 4 [.str s, by8 a, by8 b] h0 (.ret (.bool true) h0 none) :=
  pure_hC tabOK hF (by rfl) (by rfl) [(12, .e (.bool true)), (13, .c (.ret (.bool true) H2 none))] Tryd.func4 (by kernel_rfl)
    (ofK (b := AV.bool (ltI (Int.ofNat 8192) (Int.ofNat s.length)) = .bool true ∧ CallI P 6 [] H2 (.ret (.bool true) H2 none) ∧ AV.bool true = .bool true) (by kernel_rfl) ⟨by rw [ltT h], ⟨works_T _⟩, rfl⟩) h0

theorem tw_0_1_t {s : List UInt8} {a b : Nat} (hs : s.length ≤ 8192) (hel : (encS s (a % 7)).length ≤ 1000000) (h6 : ¬ a % 7 = 6) (w1 : b % 7 < a % 7) (w4 : a % 7 = b % 7) (hL : true = lessB (a % 7) (b % 7)) (h0 : Heap) : CallT P 4 [.str s, by8 a, by8 b] h0 (.ret (.bool true) h0 none) :=
  pure_hC tabOK hF (by rfl) (by rfl) [(12, .e (.bool false)), (20, .c (.ret (.str (encS s (a % 7))) H2 none)), (22, .e (.bool true)), (26, .c (.ret (.str (encS s (a % 7))) H2 none)), (28, .e (.bool false)), (32, .e (.bool false)), (44, .e (.bool true)), (99, .l [1, 2, 6, 8, 9] (.exit 0 (E4 (a % 7) (b % 7) true 130) H2 d0)), (62, .c (.ret (.bool true) H2 none))] Tryd.func4 (by kernel_rfl)
    (ofK (b := AV.bool (ltI (Int.ofNat 8192) (Int.ofNat s.length)) = .bool false ∧ CallI P 9 [.str s, by8 (a % 7)] H2 (.ret (.str (encS s (a % 7))) H2 none) ∧ AV.bool (!eqI (Int.ofNat (a % 7)) (Int.ofNat 6)) = .bool true ∧ CallI P 9 [.str (encS s (a % 7)), by8 (a % 7)] H2 (.ret (.str (encS s (a % 7))) H2 none) ∧ AV.bool (!beqB (encS s (a % 7)) (encS s (a % 7))) = .bool false ∧ AV.bool (!ltI (Int.ofNat (b % 7)) (Int.ofNat (a % 7))) = .bool false ∧ AV.bool (eqI (Int.ofNat (a % 7)) (Int.ofNat (b % 7))) = .bool true ∧ TripI P 63 (.loop (lp Tryd.f4 0)) (E4 (a % 7) (b % 7) true 0) H2 d0 (.exit 0 (E4 (a % 7) (b % 7) true 130) H2 d0) ∧ CallI P 6 [] H2 (.ret (.bool true) H2 none) ∧ AV.bool true = .bool true) (by kernel_rfl)
      ⟨by rw [ltF hs], ⟨encode_T _ s (by omega) _⟩, by rw [eqN]; simp [h6], ⟨by have := encode_T (a % 7) (encS s (a % 7)) hel H2; rw [enc_twice (by omega) s] at this; exact this⟩, by rw [beqB_iff.2 rfl]; rfl, by rw [ltT w1]; rfl, by rw [eqN]; simp [w4], ⟨(l4 (a % 7) (b % 7) true (by omega) (by omega) hL 130 0 rfl).trip⟩, ⟨works_T _⟩, rfl⟩) h0
theorem tw_0_1_f {s : List UInt8} {a b : Nat} (hs : s.length ≤ 8192) (hel : (encS s (a % 7)).length ≤ 1000000) (h6 : ¬ a % 7 = 6) (w1 : b % 7 < a % 7) (w4 : ¬ a % 7 = b % 7) (hL : false = lessB (a % 7) (b % 7)) (h0 : Heap) : CallT P 4 [.str s, by8 a, by8 b] h0 (.ret (.bool true) h0 none) :=
  pure_hC tabOK hF (by rfl) (by rfl) [(12, .e (.bool false)), (20, .c (.ret (.str (encS s (a % 7))) H2 none)), (22, .e (.bool true)), (26, .c (.ret (.str (encS s (a % 7))) H2 none)), (28, .e (.bool false)), (32, .e (.bool false)), (44, .e (.bool false)), (99, .l [1, 2, 6, 8, 9] (.exit 0 (E4 (a % 7) (b % 7) false 130) H2 d0)), (62, .c (.ret (.bool true) H2 none))] Tryd.func4 (by kernel_rfl)
    (ofK (b := AV.bool (ltI (Int.ofNat 8192) (Int.ofNat s.length)) = .bool false ∧ CallI P 9 [.str s, by8 (a % 7)] H2 (.ret (.str (encS s (a % 7))) H2 none) ∧ AV.bool (!eqI (Int.ofNat (a % 7)) (Int.ofNat 6)) = .bool true ∧ CallI P 9 [.str (encS s (a % 7)), by8 (a % 7)] H2 (.ret (.str (encS s (a % 7))) H2 none) ∧ AV.bool (!beqB (encS s (a % 7)) (encS s (a % 7))) = .bool false ∧ AV.bool (!ltI (Int.ofNat (b % 7)) (Int.ofNat (a % 7))) = .bool false ∧ AV.bool (eqI (Int.ofNat (a % 7)) (Int.ofNat (b % 7))) = .bool false ∧ TripI P 63 (.loop (lp Tryd.f4 0)) (E4 (a % 7) (b % 7) false 0) H2 d0 (.exit 0 (E4 (a % 7) (b % 7) false 130) H2 d0) ∧ CallI P 6 [] H2 (.ret (.bool true) H2 none) ∧ AV.bool true = .bool true) (by kernel_rfl)
      ⟨by rw [ltF hs], ⟨encode_T _ s (by omega) _⟩, by rw [eqN]; simp [h6], ⟨by have := encode_T (a % 7) (encS s (a % 7)) hel H2; rw [enc_twice (by omega) s] at this; exact this⟩, by rw [beqB_iff.2 rfl]; rfl, by rw [ltT w1]; rfl, by rw [eqN]; simp [w4], ⟨(l4 (a % 7) (b % 7) false (by omega) (by omega) hL 130 0 rfl).trip⟩, ⟨works_T _⟩, rfl⟩) h0
theorem tw_0_2_t {s : List UInt8} {a b : Nat} (hs : s.length ≤ 8192) (hel : (encS s (a % 7)).length ≤ 1000000) (h6 : ¬ a % 7 = 6) (w1 : a % 7 ≤ b % 7) (w2 : a % 7 = 3) (w4 : a % 7 = b % 7) (hL : true = lessB (a % 7) (b % 7)) (h0 : Heap) : CallT P 4 [.str s, by8 a, by8 b] h0 (.ret (.bool true) h0 none) :=
  pure_hC tabOK hF (by rfl) (by rfl) [(12, .e (.bool false)), (20, .c (.ret (.str (encS s (a % 7))) H2 none)), (22, .e (.bool true)), (26, .c (.ret (.str (encS s (a % 7))) H2 none)), (28, .e (.bool false)), (32, .e (.bool true)), (35, .e (.bool false)), (44, .e (.bool true)), (99, .l [1, 2, 6, 8, 9] (.exit 0 (E4 (a % 7) (b % 7) true 130) H2 d0)), (62, .c (.ret (.bool true) H2 none))] Tryd.func4 (by kernel_rfl)
    (ofK (b := AV.bool (ltI (Int.ofNat 8192) (Int.ofNat s.length)) = .bool false ∧ CallI P 9 [.str s, by8 (a % 7)] H2 (.ret (.str (encS s (a % 7))) H2 none) ∧ AV.bool (!eqI (Int.ofNat (a % 7)) (Int.ofNat 6)) = .bool true ∧ CallI P 9 [.str (encS s (a % 7)), by8 (a % 7)] H2 (.ret (.str (encS s (a % 7))) H2 none) ∧ AV.bool (!beqB (encS s (a % 7)) (encS s (a % 7))) = .bool false ∧ AV.bool (!ltI (Int.ofNat (b % 7)) (Int.ofNat (a % 7))) = .bool true ∧ AV.bool (!eqI (Int.ofNat (a % 7)) (Int.ofNat 3)) = .bool false ∧ AV.bool (eqI (Int.ofNat (a % 7)) (Int.ofNat (b % 7))) = .bool true ∧ TripI P 63 (.loop (lp Tryd.f4 0)) (E4 (a % 7) (b % 7) true 0) H2 d0 (.exit 0 (E4 (a % 7) (b % 7) true 130) H2 d0) ∧ CallI P 6 [] H2 (.ret (.bool true) H2 none) ∧ AV.bool true = .bool true) (by kernel_rfl)
      ⟨by rw [ltF hs], ⟨encode_T _ s (by omega) _⟩, by rw [eqN]; simp [h6], ⟨by have := encode_T (a % 7) (encS s (a % 7)) hel H2; rw [enc_twice (by omega) s] at this; exact this⟩, by rw [beqB_iff.2 rfl]; rfl, by rw [ltF w1]; rfl, by rw [eqN]; simp [w2], by rw [eqN]; simp [w4], ⟨(l4 (a % 7) (b % 7) true (by omega) (by omega) hL 130 0 rfl).trip⟩, ⟨works_T _⟩, rfl⟩) h0
theorem tw_0_2_f {s : List UInt8} {a b : Nat} (hs : s.length ≤ 8192) (hel : (encS s (a % 7)).length ≤ 1000000) (h6 : ¬ a % 7 = 6) (w1 : a % 7 ≤ b % 7) (w2 : a % 7 = 3) (w4 : ¬ a % 7 = b % 7) (hL : false = lessB (a % 7) (b % 7)) (h0 : Heap) : CallT P 4 [.str s, by8 a, by8 b] h0 (.ret (.bool true) h0 none) :=
  pure_hC tabOK hF (by rfl) (by rfl) [(12, .e (.bool false)), (20, .c (.ret (.str (encS s (a % 7))) H2 none)), (22, .e (.bool true)), (26, .c (.ret (.str (encS s (a % 7))) H2 none)), (28, .e (.bool false)), (32, .e (.bool true)), (35, .e (.bool false)), (44, .e (.bool false)), (99, .l [1, 2, 6, 8, 9] (.exit 0 (E4 (a % 7) (b % 7) false 130) H2 d0)), (62, .c (.ret (.bool true) H2 none))] Tryd.func4 (by kernel_rfl)
    (ofK (b := AV.bool (ltI (Int.ofNat 8192) (Int.ofNat s.length)) = .bool false ∧ CallI P 9 [.str s, by8 (a % 7)] H2 (.ret (.str (encS s (a % 7))) H2 none) ∧ AV.bool (!eqI (Int.ofNat (a % 7)) (Int.ofNat 6)) = .bool true ∧ CallI P 9 [.str (encS s (a % 7)), by8 (a % 7)] H2 (.ret (.str (encS s (a % 7))) H2 none) ∧ AV.bool (!beqB (encS s (a % 7)) (encS s (a % 7))) = .bool false ∧ AV.bool (!ltI (Int.ofNat (b % 7)) (Int.ofNat (a % 7))) = .bool true ∧ AV.bool (!eqI (Int.ofNat (a % 7)) (Int.ofNat 3)) = .bool false ∧ AV.bool (eqI (Int.ofNat (a % 7)) (Int.ofNat (b % 7))) = .bool false ∧ TripI P 63 (.loop (lp Tryd.f4 0)) (E4 (a % 7) (b % 7) false 0) H2 d0 (.exit 0 (E4 (a % 7) (b % 7) false 130) H2 d0) ∧ CallI P 6 [] H2 (.ret (.bool true) H2 none) ∧ AV.bool true = .bool true) (by kernel_rfl)
      ⟨by rw [ltF hs], ⟨encode_T _ s (by omega) _⟩, by rw [eqN]; simp [h6], ⟨by have := encode_T (a % 7) (encS s (a % 7)) hel H2; rw [enc_twice (by omega) s] at this; exact this⟩, by rw [beqB_iff.2 rfl]; rfl, by rw [ltF w1]; rfl, by rw [eqN]; simp [w2], by rw [eqN]; simp [w4], ⟨(l4 (a % 7) (b % 7) false (by omega) (by omega) hL 130 0 rfl).trip⟩, ⟨works_T _⟩, rfl⟩) h0
theorem tw_0_3_t {s : List UInt8} {a b : Nat} (hs : s.length ≤ 8192) (hel : (encS s (a % 7)).length ≤ 1000000) (h6 : ¬ a % 7 = 6) (w1 : a % 7 ≤ b % 7) (w2 : ¬ a % 7 = 3) (w3 : a % 7 = 1) (w4 : a % 7 = b % 7) (hL : true = lessB (a % 7) (b % 7)) (h0 : Heap) : CallT P 4 [.str s, by8 a, by8 b] h0 (.ret (.bool true) h0 none) :=
  pure_hC tabOK hF (by rfl) (by rfl) [(12, .e (.bool false)), (20, .c (.ret (.str (encS s (a % 7))) H2 none)), (22, .e (.bool true)), (26, .c (.ret (.str (encS s (a % 7))) H2 none)), (28, .e (.bool false)), (32, .e (.bool true)), (35, .e (.bool true)), (39, .e (.bool false)), (44, .e (.bool true)), (99, .l [1, 2, 6, 8, 9] (.exit 0 (E4 (a % 7) (b % 7) true 130) H2 d0)), (62, .c (.ret (.bool true) H2 none))] Tryd.func4 (by kernel_rfl)
    (ofK (b := AV.bool (ltI (Int.ofNat 8192) (Int.ofNat s.length)) = .bool false ∧ CallI P 9 [.str s, by8 (a % 7)] H2 (.ret (.str (encS s (a % 7))) H2 none) ∧ AV.bool (!eqI (Int.ofNat (a % 7)) (Int.ofNat 6)) = .bool true ∧ CallI P 9 [.str (encS s (a % 7)), by8 (a % 7)] H2 (.ret (.str (encS s (a % 7))) H2 none) ∧ AV.bool (!beqB (encS s (a % 7)) (encS s (a % 7))) = .bool false ∧ AV.bool (!ltI (Int.ofNat (b % 7)) (Int.ofNat (a % 7))) = .bool true ∧ AV.bool (!eqI (Int.ofNat (a % 7)) (Int.ofNat 3)) = .bool true ∧ AV.bool (!eqI (Int.ofNat (a % 7)) (Int.ofNat 1)) = .bool false ∧ AV.bool (eqI (Int.ofNat (a % 7)) (Int.ofNat (b % 7))) = .bool true ∧ TripI P 63 (.loop (lp Tryd.f4 0)) (E4 (a % 7) (b % 7) true 0) H2 d0 (.exit 0 (E4 (a % 7) (b % 7) true 130) H2 d0) ∧ CallI P 6 [] H2 (.ret (.bool true) H2 none) ∧ AV.bool true = .bool true) (by kernel_rfl)
      ⟨by rw [ltF hs], ⟨encode_T _ s (by omega) _⟩, by rw [eqN]; simp [h6], ⟨by have := encode_T (a % 7) (encS s (a % 7)) hel H2; rw [enc_twice (by omega) s] at this; exact this⟩, by rw [beqB_iff.2 rfl]; rfl, by rw [ltF w1]; rfl, by rw [eqN]; simp [w2], by rw [eqN]; simp [w3], by rw [eqN]; simp [w4], ⟨(l4 (a % 7) (b % 7) true (by omega) (by omega) hL 130 0 rfl).trip⟩, ⟨works_T _⟩, rfl⟩) h0
theorem tw_0_3_f {s : List UInt8} {a b : Nat} (hs : s.length ≤ 8192) (hel : (encS s (a % 7)).length ≤ 1000000) (h6 : ¬ a % 7 = 6) (w1 : a % 7 ≤ b % 7) (w2 : ¬ a % 7 = 3) (w3 : a % 7 = 1) (w4 : ¬ a % 7 = b % 7) (hL : false = lessB (a % 7) (b % 7)) (h0 : Heap) : CallT P 4 [.str s, by8 a, by8 b] h0 (.ret (.bool true) h0 none) :=
  pure_hC tabOK hF (by rfl) (by rfl) [(12, .e (.bool false)), (20, .c (.ret (.str (encS s (a % 7))) H2 none)), (22, .e (.bool true)), (26, .c (.ret (.str (encS s (a % 7))) H2 none)), (28, .e (.bool false)), (32, .e (.bool true)), (35, .e (.bool true)), (39, .e (.bool false)), (44, .e (.bool false)), (99, .l [1, 2, 6, 8, 9] (.exit 0 (E4 (a % 7) (b % 7) false 130) H2 d0)), (62, .c (.ret (.bool true) H2 none))] Tryd.func4 (by kernel_rfl)
    (ofK (b := AV.bool (ltI (Int.ofNat 8192) (Int.ofNat s.length)) = .bool false ∧ CallI P 9 [.str s, by8 (a % 7)] H2 (.ret (.str (encS s (a % 7))) H2 none) ∧ AV.bool (!eqI (Int.ofNat (a % 7)) (Int.ofNat 6)) = .bool true ∧ CallI P 9 [.str (encS s (a % 7)), by8 (a % 7)] H2 (.ret (.str (encS s (a % 7))) H2 none) ∧ AV.bool (!beqB (encS s (a % 7)) (encS s (a % 7))) = .bool false ∧ AV.bool (!ltI (Int.ofNat (b % 7)) (Int.ofNat (a % 7))) = .bool true ∧ AV.bool (!eqI (Int.ofNat (a % 7)) (Int.ofNat 3)) = .bool true ∧ AV.bool (!eqI (Int.ofNat (a % 7)) (Int.ofNat 1)) = .bool false ∧ AV.bool (eqI (Int.ofNat (a % 7)) (Int.ofNat (b % 7))) = .bool false ∧ TripI P 63 (.loop (lp Tryd.f4 0)) (E4 (a % 7) (b % 7) false 0) H2 d0 (.exit 0 (E4 (a % 7) (b % 7) false 130) H2 d0) ∧ CallI P 6 [] H2 (.ret (.bool true) H2 none) ∧ AV.bool true = .bool true) (by kernel_rfl)
      ⟨by rw [ltF hs], ⟨encode_T _ s (by omega) _⟩, by rw [eqN]; simp [h6], ⟨by have := encode_T (a % 7) (encS s (a % 7)) hel H2; rw [enc_twice (by omega) s] at this; exact this⟩, by rw [beqB_iff.2 rfl]; rfl, by rw [ltF w1]; rfl, by rw [eqN]; simp [w2], by rw [eqN]; simp [w3], by rw [eqN]; simp [w4], ⟨(l4 (a % 7) (b % 7) false (by omega) (by omega) hL 130 0 rfl).trip⟩, ⟨works_T _⟩, rfl⟩) h0
theorem tw_0_4_x {s : List UInt8} {a b : Nat} (hs : s.length ≤ 8192) (hel : (encS s (a % 7)).length ≤ 1000000) (h6 : ¬ a % 7 = 6) (w1 : a % 7 ≤ b % 7) (w2 : ¬ a % 7 = 3) (w3 : ¬ a % 7 = 1) (hL : true = lessB (a % 7) (b % 7)) (h0 : Heap) : CallT P 4 [.str s, by8 a, by8 b] h0 (.ret (.bool true) h0 none) :=
  pure_hC tabOK hF (by rfl) (by rfl) [(12, .e (.bool false)), (20, .c (.ret (.str (encS s (a % 7))) H2 none)), (22, .e (.bool true)), (26, .c (.ret (.str (encS s (a % 7))) H2 none)), (28, .e (.bool false)), (32, .e (.bool true)), (35, .e (.bool true)), (39, .e (.bool true)), (99, .l [1, 2, 6, 8, 9] (.exit 0 (E4 (a % 7) (b % 7) true 130) H2 d0)), (62, .c (.ret (.bool true) H2 none))] Tryd.func4 (by kernel_rfl)
    (ofK (b := AV.bool (ltI (Int.ofNat 8192) (Int.ofNat s.length)) = .bool false ∧ CallI P 9 [.str s, by8 (a % 7)] H2 (.ret (.str (encS s (a % 7))) H2 none) ∧ AV.bool (!eqI (Int.ofNat (a % 7)) (Int.ofNat 6)) = .bool true ∧ CallI P 9 [.str (encS s (a % 7)), by8 (a % 7)] H2 (.ret (.str (encS s (a % 7))) H2 none) ∧ AV.bool (!beqB (encS s (a % 7)) (encS s (a % 7))) = .bool false ∧ AV.bool (!ltI (Int.ofNat (b % 7)) (Int.ofNat (a % 7))) = .bool true ∧ AV.bool (!eqI (Int.ofNat (a % 7)) (Int.ofNat 3)) = .bool true ∧ AV.bool (!eqI (Int.ofNat (a % 7)) (Int.ofNat 1)) = .bool true ∧ TripI P 63 (.loop (lp Tryd.f4 0)) (E4 (a % 7) (b % 7) true 0) H2 d0 (.exit 0 (E4 (a % 7) (b % 7) true 130) H2 d0) ∧ CallI P 6 [] H2 (.ret (.bool true) H2 none) ∧ AV.bool true = .bool true) (by kernel_rfl)
      ⟨by rw [ltF hs], ⟨encode_T _ s (by omega) _⟩, by rw [eqN]; simp [h6], ⟨by have := encode_T (a % 7) (encS s (a % 7)) hel H2; rw [enc_twice (by omega) s] at this; exact this⟩, by rw [beqB_iff.2 rfl]; rfl, by rw [ltF w1]; rfl, by rw [eqN]; simp [w2], by rw [eqN]; simp [w3], ⟨(l4 (a % 7) (b % 7) true (by omega) (by omega) hL 130 0 rfl).trip⟩, ⟨works_T _⟩, rfl⟩) h0
theorem tw_1_1_t {s : List UInt8} {a b : Nat} (hs : s.length ≤ 8192) (hel : (encS s (a % 7)).length ≤ 1000000) (h6 : a % 7 = 6) (w1 : b % 7 < a % 7) (w4 : a % 7 = b % 7) (hL : true = lessB (a % 7) (b % 7)) (h0 : Heap) : CallT P 4 [.str s, by8 a, by8 b] h0 (.ret (.bool true) h0 none) :=
  pure_hC tabOK hF (by rfl) (by rfl) [(12, .e (.bool false)), (20, .c (.ret (.str (encS s (a % 7))) H2 none)), (22, .e (.bool false)), (32, .e (.bool false)), (44, .e (.bool true)), (99, .l [1, 2, 6, 8, 9] (.exit 0 (E4 (a % 7) (b % 7) true 130) H2 d0)), (62, .c (.ret (.bool true) H2 none))] Tryd.func4 (by kernel_rfl)
    (ofK (b := AV.bool (ltI (Int.ofNat 8192) (Int.ofNat s.length)) = .bool false ∧ CallI P 9 [.str s, by8 (a % 7)] H2 (.ret (.str (encS s (a % 7))) H2 none) ∧ AV.bool (!eqI (Int.ofNat (a % 7)) (Int.ofNat 6)) = .bool false ∧ AV.bool (!ltI (Int.ofNat (b % 7)) (Int.ofNat (a % 7))) = .bool false ∧ AV.bool (eqI (Int.ofNat (a % 7)) (Int.ofNat (b % 7))) = .bool true ∧ TripI P 63 (.loop (lp Tryd.f4 0)) (E4 (a % 7) (b % 7) true 0) H2 d0 (.exit 0 (E4 (a % 7) (b % 7) true 130) H2 d0) ∧ CallI P 6 [] H2 (.ret (.bool true) H2 none) ∧ AV.bool true = .bool true) (by kernel_rfl)
      ⟨by rw [ltF hs], ⟨encode_T _ s (by omega) _⟩, by rw [eqN]; simp [h6], by rw [ltT w1]; rfl, by rw [eqN]; simp [w4], ⟨(l4 (a % 7) (b % 7) true (by omega) (by omega) hL 130 0 rfl).trip⟩, ⟨works_T _⟩, rfl⟩) h0
theorem tw_1_1_f {s : List UInt8} {a b : Nat} (hs : s.length ≤ 8192) (hel : (encS s (a % 7)).length ≤ 1000000) (h6 : a % 7 = 6) (w1 : b % 7 < a % 7) (w4 : ¬ a % 7 = b % 7) (hL : false = lessB (a % 7) (b % 7)) (h0 : Heap) : CallT P 4 [.str s, by8 a, by8 b] h0 (.ret (.bool true) h0 none) :=
  pure_hC tabOK hF (by rfl) (by rfl) [(12, .e (.bool false)), (20, .c (.ret (.str (encS s (a % 7))) H2 none)), (22, .e (.bool false)), (32, .e (.bool false)), (44, .e (.bool false)), (99, .l [1, 2, 6, 8, 9] (.exit 0 (E4 (a % 7) (b % 7) false 130) H2 d0)), (62, .c (.ret (.bool true) H2 none))] Tryd.func4 (by kernel_rfl)
    (ofK (b := AV.bool (ltI (Int.ofNat 8192) (Int.ofNat s.length)) = .bool false ∧ CallI P 9 [.str s, by8 (a % 7)] H2 (.ret (.str (encS s (a % 7))) H2 none) ∧ AV.bool (!eqI (Int.ofNat (a % 7)) (Int.ofNat 6)) = .bool false ∧ AV.bool (!ltI (Int.ofNat (b % 7)) (Int.ofNat (a % 7))) = .bool false ∧ AV.bool (eqI (Int.ofNat (a % 7)) (Int.ofNat (b % 7))) = .bool false ∧ TripI P 63 (.loop (lp Tryd.f4 0)) (E4 (a % 7) (b % 7) false 0) H2 d0 (.exit 0 (E4 (a % 7) (b % 7) false 130) H2 d0) ∧ CallI P 6 [] H2 (.ret (.bool true) H2 none) ∧ AV.bool true = .bool true) (by kernel_rfl)
      ⟨by rw [ltF hs], ⟨encode_T _ s (by omega) _⟩, by rw [eqN]; simp [h6], by rw [ltT w1]; rfl, by rw [eqN]; simp [w4], ⟨(l4 (a % 7) (b % 7) false (by omega) (by omega) hL 130 0 rfl).trip⟩, ⟨works_T _⟩, rfl⟩) h0
theorem tw_1_2_t {s : List UInt8} {a b : Nat} (hs : s.length ≤ 8192) (hel : (encS s (a % 7)).length ≤ 1000000) (h6 : a % 7 = 6) (w1 : a % 7 ≤ b % 7) (w2 : a % 7 = 3) (w4 : a % 7 = b % 7) (hL : true = lessB (a % 7) (b % 7)) (h0 : Heap) : CallT P 4 [.str s, by8 a, by8 b] h0 (.ret (.bool true) h0 none) :=
  pure_hC tabOK hF (by rfl) (by rfl) [(12, .e (.bool false)), (20, .c (.ret (.str (encS s (a % 7))) H2 none)), (22, .e (.bool false)), (32, .e (.bool true)), (35, .e (.bool false)), (44, .e (.bool true)), (99, .l [1, 2, 6, 8, 9] (.exit 0 (E4 (a % 7) (b % 7) true 130) H2 d0)), (62, .c (.ret (.bool true) H2 none))] Tryd.func4 (by kernel_rfl)
    (ofK (b := AV.bool (ltI (Int.ofNat 8192) (Int.ofNat s.length)) = .bool false ∧ CallI P 9 [.str s, by8 (a % 7)] H2 (.ret (.str (encS s (a % 7))) H2 none) ∧ AV.bool (!eqI (Int.ofNat (a % 7)) (Int.ofNat 6)) = .bool false ∧ AV.bool (!ltI (Int.ofNat (b % 7)) (Int.ofNat (a % 7))) = .bool true ∧ AV.bool (!eqI (Int.ofNat (a % 7)) (Int.ofNat 3)) = .bool false ∧ AV.bool (eqI (Int.ofNat (a % 7)) (Int.ofNat (b % 7))) = .bool true ∧ TripI P 63 (.loop (lp Tryd.f4 0)) (E4 (a % 7) (b % 7) true 0) H2 d0 (.exit 0 (E4 (a % 7) (b % 7) true 130) H2 d0) ∧ CallI P 6 [] H2 (.ret (.bool true) H2 none) ∧ AV.bool true = .bool true) (by kernel_rfl)
      ⟨by rw [ltF hs], ⟨encode_T _ s (by omega) _⟩, by rw [eqN]; simp [h6], by rw [ltF w1]; rfl, by rw [eqN]; simp [w2], by rw [eqN]; simp [w4], ⟨(l4 (a % 7) (b % 7) true (by omega) (by omega) hL 130 0 rfl).trip⟩, ⟨works_T _⟩, rfl⟩) h0
theorem tw_1_2_f {s : List UInt8} {a b : Nat} (hs : s.length ≤ 8192) (hel : (encS s (a % 7)).length ≤ 1000000) (h6 : a % 7 = 6) (w1 : a % 7 ≤ b % 7) (w2 : a % 7 = 3) (w4 : ¬ a % 7 = b % 7) (hL : false = lessB (a % 7) (b % 7)) (h0 : Heap) : CallT P 4 [.str s, by8 a, by8 b] h0 (.ret (.bool true) h0 none) :=
  pure_hC tabOK hF (by rfl) (by rfl) [(12, .e (.bool false)), (20, .c (.ret (.str (encS s (a % 7))) H2 none)), (22, .e (.bool false)), (32, .e (.bool true)), (35, .e (.bool false)), (44, .e (.bool false)), (99, .l [1, 2, 6, 8, 9] (.exit 0 (E4 (a % 7) (b % 7) false 130) H2 d0)), (62, .c (.ret (.bool true) H2 none))] Tryd.func4 (by kernel_rfl)
    (ofK (b := AV.bool (ltI (Int.ofNat 8192) (Int.ofNat s.length)) = .bool false ∧ CallI P 9 [.str s, by8 (a % 7)] H2 (.ret (.str (encS s (a % 7))) H2 none) ∧ AV.bool (!eqI (Int.ofNat (a % 7)) (Int.ofNat 6)) = .bool false ∧ AV.bool (!ltI (Int.ofNat (b % 7)) (Int.ofNat (a % 7))) = .bool true ∧ AV.bool (!eqI (Int.ofNat (a % 7)) (Int.ofNat 3)) = .bool false ∧ AV.bool (eqI (Int.ofNat (a % 7)) (Int.ofNat (b % 7))) = .bool false ∧ TripI P 63 (.loop (lp Tryd.f4 0)) (E4 (a % 7) (b % 7) false 0) H2 d0 (.exit 0 (E4 (a % 7) (b % 7) false 130) H2 d0) ∧ CallI P 6 [] H2 (.ret (.bool true) H2 none) ∧ AV.bool true = .bool true) (by kernel_rfl)
      ⟨by rw [ltF hs], ⟨encode_T _ s (by omega) _⟩, by rw [eqN]; simp [h6], by rw [ltF w1]; rfl, by rw [eqN]; simp [w2], by rw [eqN]; simp [w4], ⟨(l4 (a % 7) (b % 7) false (by omega) (by omega) hL 130 0 rfl).trip⟩, ⟨works_T _⟩, rfl⟩) h0
theorem tw_1_3_t {s : List UInt8} {a b : Nat} (hs : s.length ≤ 8192) (hel : (encS s (a % 7)).length ≤ 1000000) (h6 : a % 7 = 6) (w1 : a % 7 ≤ b % 7) (w2 : ¬ a % 7 = 3) (w3 : a % 7 = 1) (w4 : a % 7 = b % 7) (hL : true = lessB (a % 7) (b % 7)) (h0 : Heap) : CallT P 4 [.str s, by8 a, by8 b] h0 (.ret (.bool true) h0 none) :=
  pure_hC tabOK hF (by rfl) (by rfl) [(12, .e (.bool false)), (20, .c (.ret (.str (encS s (a % 7))) H2 none)), (22, .e (.bool false)), (32, .e (.bool true)), (35, .e (.bool true)), (39, .e (.bool false)), (44, .e (.bool true)), (99, .l [1, 2, 6, 8, 9] (.exit 0 (E4 (a % 7) (b % 7) true 130) H2 d0)), (62, .c (.ret (.bool true) H2 none))] Tryd.func4 (by kernel_rfl)
    (ofK (b := AV.bool (ltI (Int.ofNat 8192) (Int.ofNat s.length)) = .bool false ∧ CallI P 9 [.str s, by8 (a % 7)] H2 (.ret (.str (encS s (a % 7))) H2 none) ∧ AV.bool (!eqI (Int.ofNat (a % 7)) (Int.ofNat 6)) = .bool false ∧ AV.bool (!ltI (Int.ofNat (b % 7)) (Int.ofNat (a % 7))) = .bool true ∧ AV.bool (!eqI (Int.ofNat (a % 7)) (Int.ofNat 3)) = .bool true ∧ AV.bool (!eqI (Int.ofNat (a % 7)) (Int.ofNat 1)) = .bool false ∧ AV.bool (eqI (Int.ofNat (a % 7)) (Int.ofNat (b % 7))) = .bool true ∧ TripI P 63 (.loop (lp Tryd.f4 0)) (E4 (a % 7) (b % 7) true 0) H2 d0 (.exit 0 (E4 (a % 7) (b % 7) true 130) H2 d0) ∧ CallI P 6 [] H2 (.ret (.bool true) H2 none) ∧ AV.bool true = .bool true) (by kernel_rfl)
      ⟨by rw [ltF hs], ⟨encode_T _ s (by omega) _⟩, by rw [eqN]; simp [h6], by rw [ltF w1]; rfl, by rw [eqN]; simp [w2], by rw [eqN]; simp [w3], by rw [eqN]; simp [w4], ⟨(l4 (a % 7) (b % 7) true (by omega) (by omega) hL 130 0 rfl).trip⟩, ⟨works_T _⟩, rfl⟩) h0
theorem tw_1_3_f {s : List UInt8} {a b : Nat} (hs : s.length ≤ 8192) (hel : (encS s (a % 7)).length ≤ 1000000) (h6 : a % 7 = 6) (w1 : a % 7 ≤ b % 7) (w2 : ¬ a % 7 = 3) (w3 : a % 7 = 1) (w4 : ¬ a % 7 = b % 7) (hL : false = lessB (a % 7) (b % 7)) (h0 : Heap) : CallT P 4 [.str s, by8 a, by8 b] h0 (.ret (.bool true) h0 none) :=
  pure_hC tabOK hF (by rfl) (by rfl) [(12, .e (.bool false)), (20, .c (.ret (.str (encS s (a % 7))) H2 none)), (22, .e (.bool false)), (32, .e (.bool true)), (35, .e (.bool true)), (39, .e (.bool false)), (44, .e (.bool false)), (99, .l [1, 2, 6, 8, 9] (.exit 0 (E4 (a % 7) (b % 7) false 130) H2 d0)), (62, .c (.ret (.bool true) H2 none))] Tryd.func4 (by kernel_rfl)
    (ofK (b := AV.bool (ltI (Int.ofNat 8192) (Int.ofNat s.length)) = .bool false ∧ CallI P 9 [.str s, by8 (a % 7)] H2 (.ret (.str (encS s (a % 7))) H2 none) ∧ AV.bool (!eqI (Int.ofNat (a % 7)) (Int.ofNat 6)) = .bool false ∧ AV.bool (!ltI (Int.ofNat (b % 7)) (Int.ofNat (a % 7))) = .bool true ∧ AV.bool (!eqI (Int.ofNat (a % 7)) (Int.ofNat 3)) = .bool true ∧ AV.bool (!eqI (Int.ofNat (a % 7)) (Int.ofNat 1)) = .bool false ∧ AV.bool (eqI (Int.ofNat (a % 7)) (Int.ofNat (b % 7))) = .bool false ∧ TripI P 63 (.loop (lp Tryd.f4 0)) (E4 (a % 7) (b % 7) false 0) H2 d0 (.exit 0 (E4 (a % 7) (b % 7) false 130) H2 d0) ∧ CallI P 6 [] H2 (.ret (.bool true) H2 none) ∧ AV.bool true = .bool true) (by kernel_rfl)
      ⟨by rw [ltF hs], ⟨encode_T _ s (by omega) _⟩, by rw [eqN]; simp [h6], by rw [ltF w1]; rfl, by rw [eqN]; simp [w2], by rw [eqN]; simp [w3], by rw [eqN]; simp [w4], ⟨(l4 (a % 7) (b % 7) false (by omega) (by omega) hL 130 0 rfl).trip⟩, ⟨works_T _⟩, rfl⟩) h0
theorem tw_1_4_x {s : List UInt8} {a b : Nat} (hs : s.length ≤ 8192) (hel : (encS s (a % 7)).length ≤ 1000000) (h6 : a % 7 = 6) (w1 : a % 7 ≤ b % 7) (w2 : ¬ a % 7 = 3) (w3 : ¬ a % 7 = 1) (hL : true = lessB (a % 7) (b % 7)) (h0 : Heap) : CallT P 4 [.str s, by8 a, by8 b] h0 (.ret (.bool true) h0 none) :=
  pure_hC tabOK hF (by rfl) (by rfl) [(12, .e (.bool false)), (20, .c (.ret (.str (encS s (a % 7))) H2 none)), (22, .e (.bool false)), (32, .e (.bool true)), (35, .e (.bool true)), (39, .e (.bool true)), (99, .l [1, 2, 6, 8, 9] (.exit 0 (E4 (a % 7) (b % 7) true 130) H2 d0)), (62, .c (.ret (.bool true) H2 none))] Tryd.func4 (by kernel_rfl)
    (ofK (b := AV.bool (ltI (Int.ofNat 8192) (Int.ofNat s.length)) = .bool false ∧ CallI P 9 [.str s, by8 (a % 7)] H2 (.ret (.str (encS s (a % 7))) H2 none) ∧ AV.bool (!eqI (Int.ofNat (a % 7)) (Int.ofNat 6)) = .bool false ∧ AV.bool (!ltI (Int.ofNat (b % 7)) (Int.ofNat (a % 7))) = .bool true ∧ AV.bool (!eqI (Int.ofNat (a % 7)) (Int.ofNat 3)) = .bool true ∧ AV.bool (!eqI (Int.ofNat (a % 7)) (Int.ofNat 1)) = .bool true ∧ TripI P 63 (.loop (lp Tryd.f4 0)) (E4 (a % 7) (b % 7) true 0) H2 d0 (.exit 0 (E4 (a % 7) (b % 7) true 130) H2 d0) ∧ CallI P 6 [] H2 (.ret (.bool true) H2 none) ∧ AV.bool true = .bool true) (by kernel_rfl)
      ⟨by rw [ltF hs], ⟨encode_T _ s (by omega) _⟩, by rw [eqN]; simp [h6], by rw [ltF w1]; rfl, by rw [eqN]; simp [w2], by rw [eqN]; simp [w3], ⟨(l4 (a % 7) (b % 7) true (by omega) (by omega) hL 130 0 rfl).trip⟩, ⟨works_T _⟩, rfl⟩) h0
theorem htot (a : Nat) : ∀ l : List Nat, (l.flatMap (one a)).length ≤ 12 * l.length
  | [] => by simp
  | c :: l => by rw [List.flatMap_cons, List.length_append, List.length_cons]; have := (one_len a c).2; have := htot a l; omega
theorem twice_T (s : List UInt8) (a b : Nat) (h0 : Heap) : CallT P 4 [.str s, by8 a, by8 b] h0 (.ret (.bool true) h0 none) := by
  by_cases hs : s.length ≤ 8192
  · have hel : (encS s (a % 7)).length ≤ 1000000 := by
      have h1 := htot (a % 7) (decL s)
      have h2 : (decL s).length ≤ s.length := decF_len
      unfold encS; omega
    by_cases h6 : a % 7 = 6
    · by_cases w1 : a % 7 ≤ b % 7
      · exact tw_1_4_x hs hel h6 w1 (by omega) (by omega) (by simp [lessB, w1, h6]; omega) h0
      · by_cases w4 : a % 7 = b % 7
        · omega
        · exact tw_1_1_f hs hel h6 (by omega) w4 (by simp [lessB, w1, w4]) h0
    · by_cases w1 : a % 7 ≤ b % 7
      · by_cases w2 : a % 7 = 3
        · by_cases w4 : a % 7 = b % 7
          · exact tw_0_2_t hs hel h6 w1 w2 w4 (by simp [lessB, w4]) h0
          · exact tw_0_2_f hs hel h6 w1 w2 w4 (by rw [w2] at w4; simp [lessB, w2]; omega) h0
        · by_cases w3 : a % 7 = 1
          · by_cases w4 : a % 7 = b % 7
            · exact tw_0_3_t hs hel h6 w1 w2 w3 w4 (by simp [lessB, w4]) h0
            · exact tw_0_3_f hs hel h6 w1 w2 w3 w4 (by rw [w3] at w4; simp [lessB, w3]; omega) h0
          · exact tw_0_4_x hs hel h6 w1 w2 w3 (by simp [lessB, w1, w2, w3]) h0
      · by_cases w4 : a % 7 = b % 7
        · omega
        · exact tw_0_1_f hs hel h6 (by omega) w4 (by simp [lessB, w1, w4]) h0
  · exact twice_big (by omega) h0
end Go.Proofs.YtlmpigpkdelopaaDoor
