/-
  A step of the proof of this seat's statement. No condition.
-/
import Derived.Test.YtbdpfpjpmilpbaaGreatDoorPA
namespace Go.Proofs.YtbdpfpjpmilpbaaGreatDoor
open Go Go.Rk
set_option maxRecDepth 1000000
set_option linter.unusedVariables false
set_option linter.unusedSimpArgs false
set_option linter.constructorNameAsVariable false
set_option linter.unusedSectionVars false
/-! the next scalar of a text -/
def contN (s : List UInt8) (all : Nat) : Nat → Nat → Nat → Nat → Nat
  | 0, _, _, n => n
  | f + 1, lo, hi, n => if n < all ∧ n < s.length ∧ lo ≤ (s.getD n 0).toNat ∧ (s.getD n 0).toNat ≤ hi then contN s all f 128 191 (n + 1) else n
section
variable (s : List UInt8) (all : Nat)
abbrev E32 (lo hi n : Nat) : T := envOf [(0, .str s), (2, i32 0), (3, i64 0), (4, .bool false), (5, by8 lo), (6, by8 hi), (7, i64 all), (8, i64 n)]
abbrev X32 (n : Nat) : T := envOf [(0, .str s), (2, i32 0), (3, i64 0), (4, .bool false), (7, i64 all), (8, i64 n)]
noncomputable abbrev H2 : Heap := hpT P
noncomputable def R32 (n : Nat) : XR := .exit 0 (X32 s all n) H2 d0
theorem s32a {lo hi n : Nat} (h : ¬ n < all) : Trip P 58 (lp cF32 0) (E32 s all lo hi n) H2 d0 (R32 s all n) :=
  trip_shed hF (by rfl) [(22, .e (.bool false))] oB2 KT [0, 2, 3, 4, 7, 8]
    (ofK (b := AV.bool (ltI (Int.ofNat n) (Int.ofNat all)) = .bool false ∧ (true = true ∧ true = true ∧ true = true ∧ True) ∧ R32 s all n = R32 s all n) (by kernel_rfl) ⟨by rw [ltF (by omega)], ⟨rfl, rfl, rfl, trivial⟩, rfl⟩)
theorem s32b {lo hi n : Nat} (h : n < all) (h1 : ¬ n < s.length) : Trip P 58 (lp cF32 0) (E32 s all lo hi n) H2 d0 (R32 s all n) :=
  trip_shed hF (by rfl) [(22, .e (.bool true)), (27, .e (.bool false))] oB2 KT [0, 2, 3, 4, 7, 8]
    (ofK (b := AV.bool (ltI (Int.ofNat n) (Int.ofNat all)) = .bool true ∧ AV.bool (ltI (Int.ofNat n) (Int.ofNat s.length)) = .bool false ∧ (true = true ∧ true = true ∧ true = true ∧ True) ∧ R32 s all n = R32 s all n) (by kernel_rfl)
      ⟨by rw [ltT h], by rw [ltF (by omega)], ⟨rfl, rfl, rfl, trivial⟩, rfl⟩)
theorem s32c {lo hi n : Nat} (h : n < all) (h1 : n < s.length) (h2 : ¬ lo ≤ (s.getD n 0).toNat) : Trip P 58 (lp cF32 0) (E32 s all lo hi n) H2 d0 (R32 s all n) :=
  trip_shed hF (by rfl) [(22, .e (.bool true)), (27, .e (.bool true)), (32, .u .undef), (34, .e (.bool false))] oB2 KT [0, 2, 3, 4, 7, 8]
    (ofK (b := AV.bool (ltI (Int.ofNat n) (Int.ofNat all)) = .bool true ∧ AV.bool (ltI (Int.ofNat n) (Int.ofNat s.length)) = .bool true ∧ n < s.length ∧ AV.bool (!ltI (Int.ofNat (s.getD n 0).toNat) (Int.ofNat lo)) = .bool false ∧ (true = true ∧ true = true ∧ true = true ∧ True) ∧ R32 s all n = R32 s all n) (by kernel_rfl)
      ⟨by rw [ltT h], by rw [ltT h1], h1, by rw [ltT (Nat.lt_of_not_le h2)]; rfl, ⟨rfl, rfl, rfl, trivial⟩, rfl⟩)
theorem s32d {lo hi n : Nat} (h : n < all) (h1 : n < s.length) (h2 : lo ≤ (s.getD n 0).toNat) (h3 : ¬ (s.getD n 0).toNat ≤ hi) : Trip P 58 (lp cF32 0) (E32 s all lo hi n) H2 d0 (R32 s all n) :=
  trip_shed hF (by rfl) [(22, .e (.bool true)), (27, .e (.bool true)), (32, .u .undef), (34, .e (.bool true)), (39, .u .undef), (41, .e (.bool false))] oB2 KT [0, 2, 3, 4, 7, 8]
    (ofK (b := AV.bool (ltI (Int.ofNat n) (Int.ofNat all)) = .bool true ∧ AV.bool (ltI (Int.ofNat n) (Int.ofNat s.length)) = .bool true ∧ n < s.length ∧ AV.bool (!ltI (Int.ofNat (s.getD n 0).toNat) (Int.ofNat lo)) = .bool true ∧ n < s.length ∧ AV.bool (!ltI (Int.ofNat hi) (Int.ofNat (s.getD n 0).toNat)) = .bool false ∧ (true = true ∧ true = true ∧ true = true ∧ True) ∧ R32 s all n = R32 s all n) (by kernel_rfl)
      ⟨by rw [ltT h], by rw [ltT h1], h1, by rw [ltF h2]; rfl, h1, by rw [ltT (Nat.lt_of_not_le h3)]; rfl, ⟨rfl, rfl, rfl, trivial⟩, rfl⟩)
theorem s32e {lo hi n : Nat} (h : n < all) (h1 : n < s.length) (h2 : lo ≤ (s.getD n 0).toNat) (h3 : (s.getD n 0).toNat ≤ hi) (h4 : n < 100) : Trip P 58 (lp cF32 0) (E32 s all lo hi n) H2 d0 (.nrm (E32 s all 128 191 (n + 1)) H2 d0) :=
  trip_shed hF (by rfl) [(22, .e (.bool true)), (27, .e (.bool true)), (32, .u .undef), (34, .e (.bool true)), (39, .u .undef), (41, .e (.bool true)), (44, .e (i64 (n + 1)))] oB2 KT [0, 2, 3, 4, 5, 6, 7, 8]
    (ofK (b := AV.bool (ltI (Int.ofNat n) (Int.ofNat all)) = .bool true ∧ AV.bool (ltI (Int.ofNat n) (Int.ofNat s.length)) = .bool true ∧ n < s.length ∧ AV.bool (!ltI (Int.ofNat (s.getD n 0).toNat) (Int.ofNat lo)) = .bool true ∧ n < s.length ∧ AV.bool (!ltI (Int.ofNat hi) (Int.ofNat (s.getD n 0).toNat)) = .bool true ∧ AV.int .i64 (wrapF .i64 (Int.ofNat (n + 1))) = i64 (n + 1) ∧ (true = true ∧ true = true ∧ true = true ∧ True) ∧ XR.nrm (E32 s all 128 191 (n + 1)) H2 d0 = .nrm (E32 s all 128 191 (n + 1)) H2 d0) (by kernel_rfl)
      ⟨by rw [ltT h], by rw [ltT h1], h1, by rw [ltF h2]; rfl, h1, by rw [ltF h3]; rfl, by rw [wrapI64 (by omega)], ⟨rfl, rfl, rfl, trivial⟩, rfl⟩)
theorem loop32 (ha : all ≤ 4) : ∀ x : { x : Nat × Nat × Nat × Nat // all ≤ x.2.2.2 + x.1 }, TripL P 58 (lp cF32 0) (E32 s all x.1.2.1 x.1.2.2.1 x.1.2.2.2) H2 d0 (R32 s all (contN s all x.1.1 x.1.2.1 x.1.2.2.1 x.1.2.2.2)) := by
  refine TripL.fam (fun (x : { x : Nat × Nat × Nat × Nat // all ≤ x.2.2.2 + x.1 }) => E32 s all x.1.2.1 x.1.2.2.1 x.1.2.2.2) (fun _ => H2) d0 (fun x => R32 s all (contN s all x.1.1 x.1.2.1 x.1.2.2.1 x.1.2.2.2)) (fun x => x.1.1) fun ⟨⟨f, lo, hi, n⟩, hx⟩ => ?_
  simp only at hx ⊢
  cases f with
  | zero => exact .inl ⟨rfl, s32a s all (by omega)⟩
  | succ f =>
    by_cases h : n < all ∧ n < s.length ∧ lo ≤ (s.getD n 0).toNat ∧ (s.getD n 0).toNat ≤ hi
    · have e : contN s all (f + 1) lo hi n = contN s all f 128 191 (n + 1) := by rw [contN, if_pos h]
      exact .inr ⟨⟨(f, 128, 191, n + 1), by simp only; omega⟩, by simp, by rw [e], s32e s all h.1 h.2.1 h.2.2.1 h.2.2.2 (by omega)⟩
    · have e : contN s all (f + 1) lo hi n = n := by rw [contN, if_neg h]
      rw [e]
      refine .inl ⟨rfl, ?_⟩
      by_cases h1 : n < all
      · by_cases h2 : n < s.length
        · by_cases h3 : lo ≤ (s.getD n 0).toNat
          · exact s32d s all h1 h2 h3 fun h4 => h ⟨h1, h2, h3, h4⟩
          · exact s32c s all h1 h2 h3
        · exact s32b s all h1 h2
      · exact s32a s all h1
end
def valOf : List UInt8 → Nat
  | [b0] => b0.toNat
  | [b0, b1] => r2 b0.toNat b1.toNat
  | [b0, b1, b2] => r3 b0.toNat b1.toNat b2.toNat
  | [b0, b1, b2, b3] => r4 b0.toNat b1.toNat b2.toNat b3.toNat
  | _ => 0
/-- P1.1: the scalar, how many bytes, whether it is whole -/
def nxt (s : List UInt8) : Nat × Nat × Bool := match s with
  | [] => (0, 0, false)
  | b0 :: t => bif Nat.beq (contN (b0 :: t) (roomN b0.toNat).2.2 4 (roomN b0.toNat).1 (roomN b0.toNat).2.1 1) (roomN b0.toNat).2.2 then
      (valOf ((b0 :: t).take (roomN b0.toNat).2.2), (roomN b0.toNat).2.2, true)
    else (65533, contN (b0 :: t) (roomN b0.toNat).2.2 4 (roomN b0.toNat).1 (roomN b0.toNat).2.1 1, false)
abbrev nxtV (x : Nat × Nat × Bool) : AV := .tup [i32 (Int.ofNat x.1), i64 x.2.1, .bool x.2.2]
theorem contN_le {s : List UInt8} {all : Nat} : ∀ {f lo hi n : Nat}, n ≤ s.length → contN s all f lo hi n ≤ s.length
  | 0, _, _, n, h => h
  | f + 1, lo, hi, n, h => by
    rw [contN]
    split
    · rename_i h1; exact contN_le (by omega)
    · exact h
theorem contN_ge {s : List UInt8} {all : Nat} : ∀ {f lo hi n : Nat}, n ≤ contN s all f lo hi n
  | 0, _, _, n => Nat.le_refl _
  | f + 1, lo, hi, n => by
    rw [contN]
    split
    · have := contN_ge (s := s) (all := all) (f := f) (lo := 128) (hi := 191) (n := n + 1); omega
    · exact Nat.le_refl _
theorem contN_max {s : List UInt8} {all : Nat} : ∀ {f lo hi n : Nat}, contN s all f lo hi n ≤ n + f
  | 0, _, _, n => Nat.le_refl _
  | f + 1, lo, hi, n => by
    rw [contN]
    split
    · have := contN_max (s := s) (all := all) (f := f) (lo := 128) (hi := 191) (n := n + 1); omega
    · omega
theorem room_all (b : Nat) : (roomN b).2.2 ≤ 4 := by
  unfold roomN
  repeat' split
  all_goals simp
end Go.Proofs.YtbdpfpjpmilpbaaGreatDoor

namespace Go.Proofs.YtbdpfpjpmilpbaaGreatDoor
open Go Go.Rk
set_option maxRecDepth 1000000
set_option linter.unusedVariables false
set_option linter.unusedSimpArgs false
set_option linter.constructorNameAsVariable false
set_option linter.unusedSectionVars false
theorem dec36_1 {b0 : UInt8} (h0 : b0.toNat < 128) (h : Heap) : CallT P kF36 [.str [b0]] h (.ret (.tup [i32 (Int.ofNat b0.toNat), i64 1]) h none) :=
  pure_hC tabOK hF (by rfl) (by rfl) [(9, .e (.bool true)), (13, .e (i32 (Int.ofNat b0.toNat)))] dF36 (by kernel_rfl)
    (ofK (b := AV.bool (ltI (Int.ofNat b0.toNat) (Int.ofNat 128)) = .bool true ∧ AV.int .i32 (wrapF .i32 (Int.ofNat b0.toNat)) = i32 (Int.ofNat b0.toNat) ∧ AV.tup [i32 (Int.ofNat b0.toNat), i64 1] = .tup [i32 (Int.ofNat b0.toNat), i64 1]) (by kernel_rfl)
      ⟨by rw [ltT h0], by rw [wrapI32 (by have := bt b0; omega)], rfl⟩) h
theorem dec36 {b0 : UInt8} {t : List UInt8} (h0 : 128 ≤ b0.toNat) {r n : Nat} (hc : ∀ h, CallT P kF37 [.str (b0 :: t)] h (.ret (.tup [i32 (Int.ofNat r), i64 n]) h none)) (h : Heap) : CallT P kF36 [.str (b0 :: t)] h (.ret (.tup [i32 (Int.ofNat r), i64 n]) h none) :=
  pure_hC tabOK hF (by rfl) (by rfl) [(9, .e (.bool false)), (16, .c (.ret (.tup [i32 (Int.ofNat r), i64 n]) (hpT P) none))] dF36 (by kernel_rfl)
    (ofK (b := AV.bool (ltI (Int.ofNat b0.toNat) (Int.ofNat 128)) = .bool false ∧ CallI P kF37 [.str (b0 :: t)] (hpT P) (.ret (.tup [i32 (Int.ofNat r), i64 n]) (hpT P) none) ∧ AV.tup [i32 (Int.ofNat r), i64 n] = .tup [i32 (Int.ofNat r), i64 n]) (by kernel_rfl)
      ⟨by rw [ltF h0], ⟨hc _⟩, rfl⟩) h
theorem contN_step {s : List UInt8} {all f lo hi n : Nat} (h : contN s all (f + 1) lo hi n = all) (hn : n < all) : n < s.length ∧ lo ≤ (s.getD n 0).toNat ∧ (s.getD n 0).toNat ≤ hi ∧ contN s all f 128 191 (n + 1) = all := by
  rw [contN] at h
  split at h
  · rename_i h1; exact ⟨h1.2.1, h1.2.2.1, h1.2.2.2, h⟩
  · omega
theorem cont2 {b0 : UInt8} {t : List UInt8} {lo hi : Nat} (h : contN (b0 :: t) 2 4 lo hi 1 = 2) : ∃ b1 t', t = b1 :: t' ∧ lo ≤ b1.toNat ∧ b1.toNat ≤ hi := by
  obtain ⟨h1, h2, h3, h4⟩ := contN_step h (by omega)
  cases t with
  | nil => simp at h1
  | cons b1 t => exact ⟨b1, t, rfl, by simpa using h2, by simpa using h3⟩
theorem cont3 {b0 : UInt8} {t : List UInt8} {lo hi : Nat} (h : contN (b0 :: t) 3 4 lo hi 1 = 3) : ∃ b1 b2 t', t = b1 :: b2 :: t' ∧ lo ≤ b1.toNat ∧ b1.toNat ≤ hi ∧ 128 ≤ b2.toNat ∧ b2.toNat ≤ 191 := by
  obtain ⟨h1, h2, h3, h4⟩ := contN_step h (by omega)
  obtain ⟨k1, k2, k3, k4⟩ := contN_step h4 (by omega)
  cases t with
  | nil => simp at h1
  | cons b1 t =>
    cases t with
    | nil => simp at k1
    | cons b2 t => exact ⟨b1, b2, t, rfl, by simpa using h2, by simpa using h3, by simpa using k2, by simpa using k3⟩
theorem cont4 {b0 : UInt8} {t : List UInt8} {lo hi : Nat} (h : contN (b0 :: t) 4 4 lo hi 1 = 4) : ∃ b1 b2 b3 t', t = b1 :: b2 :: b3 :: t' ∧ lo ≤ b1.toNat ∧ b1.toNat ≤ hi ∧ 128 ≤ b2.toNat ∧ b2.toNat ≤ 191 ∧ 128 ≤ b3.toNat ∧ b3.toNat ≤ 191 := by
  obtain ⟨h1, h2, h3, h4⟩ := contN_step h (by omega)
  obtain ⟨k1, k2, k3, k4⟩ := contN_step h4 (by omega)
  obtain ⟨g1, g2, g3, g4⟩ := contN_step k4 (by omega)
  cases t with
  | nil => simp at h1
  | cons b1 t =>
    cases t with
    | nil => simp at k1
    | cons b2 t =>
      cases t with
      | nil => simp at g1
      | cons b3 t => exact ⟨b1, b2, b3, t, rfl, by simpa using h2, by simpa using h3, by simpa using k2, by simpa using k3, by simpa using g2, by simpa using g3⟩
/-- what a first byte says, and what follows, if the scalar is whole -/
inductive Whole : List UInt8 → Nat → Prop
  | one {b0 t} (h : b0.toNat < 128) : Whole (b0 :: t) 1
  | two {b0 b1 t} (h1 : 194 ≤ b0.toNat) (h2 : b0.toNat ≤ 223) (h3 : 128 ≤ b1.toNat) (h4 : b1.toNat ≤ 191) : Whole (b0 :: b1 :: t) 2
  | three {b0 b1 b2 t} (h1 : 224 ≤ b0.toNat) (h2 : b0.toNat ≤ 239) (h3 : (if b0.toNat = 224 then 160 else 128) ≤ b1.toNat) (h4 : b1.toNat ≤ if b0.toNat = 237 then 159 else 191) (h5 : 128 ≤ b2.toNat) (h6 : b2.toNat ≤ 191) : Whole (b0 :: b1 :: b2 :: t) 3
  | four {b0 b1 b2 b3 t} (h1 : 240 ≤ b0.toNat) (h2 : b0.toNat ≤ 244) (h3 : (if b0.toNat = 240 then 144 else 128) ≤ b1.toNat) (h4 : b1.toNat ≤ if b0.toNat = 244 then 143 else 191) (h5 : 128 ≤ b2.toNat) (h6 : b2.toNat ≤ 191) (h7 : 128 ≤ b3.toNat) (h8 : b3.toNat ≤ 191) : Whole (b0 :: b1 :: b2 :: b3 :: t) 4
theorem whole_of {b0 : UInt8} {t : List UInt8} (h : contN (b0 :: t) (roomN b0.toNat).2.2 4 (roomN b0.toNat).1 (roomN b0.toNat).2.1 1 = (roomN b0.toNat).2.2) : Whole (b0 :: t) (roomN b0.toNat).2.2 := by
  have hge := contN_ge (s := b0 :: t) (all := (roomN b0.toNat).2.2) (f := 4) (lo := (roomN b0.toNat).1) (hi := (roomN b0.toNat).2.1) (n := 1)
  rw [h] at hge
  have hb := bt b0
  generalize hr : roomN b0.toNat = r at h hge ⊢
  obtain ⟨lo, hi, all⟩ := r
  simp only at h hge ⊢
  unfold roomN at hr
  split at hr
  · cases hr; exact .one ‹_›
  · split at hr
    · cases hr; omega
    · split at hr
      · cases hr
        obtain ⟨b1, t', rfl, h1, h2⟩ := cont2 h
        exact .two (by omega) (by omega) h1 h2
      · split at hr
        · rename_i e
          cases hr
          obtain ⟨b1, b2, t', rfl, h1, h2, h3, h4⟩ := cont3 h
          exact .three (by omega) (by omega) (by rw [if_pos e]; exact h1) (by rw [if_neg (by omega)]; exact h2) h3 h4
        · split at hr
          · rename_i e
            cases hr
            obtain ⟨b1, b2, t', rfl, h1, h2, h3, h4⟩ := cont3 h
            exact .three (by omega) (by omega) (by rw [if_neg (by omega)]; exact h1) (by rw [if_pos e]; exact h2) h3 h4
          · split at hr
            · cases hr
              obtain ⟨b1, b2, t', rfl, h1, h2, h3, h4⟩ := cont3 h
              exact .three (by omega) (by omega) (by rw [if_neg (by omega)]; exact h1) (by rw [if_neg (by omega)]; exact h2) h3 h4
            · split at hr
              · rename_i e
                cases hr
                obtain ⟨b1, b2, b3, t', rfl, h1, h2, h3, h4, h5, h6⟩ := cont4 h
                exact .four (by omega) (by omega) (by rw [if_pos e]; exact h1) (by rw [if_neg (by omega)]; exact h2) h3 h4 h5 h6
              · split at hr
                · rename_i e
                  cases hr
                  obtain ⟨b1, b2, b3, t', rfl, h1, h2, h3, h4, h5, h6⟩ := cont4 h
                  exact .four (by omega) (by omega) (by rw [if_neg (by omega)]; exact h1) (by rw [if_pos e]; exact h2) h3 h4 h5 h6
                · split at hr
                  · cases hr
                    obtain ⟨b1, b2, b3, t', rfl, h1, h2, h3, h4, h5, h6⟩ := cont4 h
                    exact .four (by omega) (by omega) (by rw [if_neg (by omega)]; exact h1) (by rw [if_neg (by omega)]; exact h2) h3 h4 h5 h6
                  · cases hr; omega
theorem dec_T {s : List UInt8} {all : Nat} (hw : Whole s all) (h : Heap) : CallT P kF36 [.str (s.take all)] h (.ret (.tup [i32 (Int.ofNat (valOf (s.take all))), i64 all]) h none) := by
  cases hw with
  | one h0 => exact dec36_1 h0 h
  | two h1 h2 h3 h4 => exact dec36 (by omega) (slow2 h1 h2 h3 h4) h
  | three h1 h2 h3 h4 h5 h6 =>
    rename_i b0 b1 b2 t
    refine dec36 (by omega) (fun h => ?_) h
    by_cases e1 : b0.toNat = 224
    · rw [if_pos e1] at h3
      rw [if_neg (by omega)] at h4
      exact slow3_19 (by simp [e1]) h3 h4 h5 h6 h
    · rw [if_neg e1] at h3
      by_cases e2 : b0.toNat = 237
      · rw [if_pos e2] at h4
        exact slow3_35 (by simp [e2]) h3 h4 h5 h6 h
      · rw [if_neg e2] at h4
        exact slow3_3 (by simp; omega) h3 h4 h5 h6 h
  | four h1 h2 h3 h4 h5 h6 h7 h8 =>
    rename_i b0 b1 b2 b3 t
    refine dec36 (by omega) (fun h => ?_) h
    by_cases e1 : b0.toNat = 240
    · rw [if_pos e1] at h3
      rw [if_neg (by omega)] at h4
      exact slow4_52 (by simp [e1]) h3 h4 h5 h6 h7 h8 h
    · rw [if_neg e1] at h3
      by_cases e2 : b0.toNat = 244
      · rw [if_pos e2] at h4
        exact slow4_68 (by simp [e2]) h3 h4 h5 h6 h7 h8 h
      · rw [if_neg e2] at h4
        exact slow4_4 (by simp; omega) h3 h4 h5 h6 h7 h8 h
theorem next_T (s : List UInt8) (h : Heap) : CallT P kF32 [.str s] h (.ret (nxtV (nxt s)) h none) := by
  cases s with
  | nil => exact pure_hC tabOK hF (by rfl) (by rfl) [] dF32 (by kernel_rfl) (ofK (b := nxtV (nxt []) = nxtV (nxt [])) (by kernel_rfl) rfl) h
  | cons b0 t =>
    have hroom := room_all b0.toNat
    have hle := contN_le (s := b0 :: t) (all := (roomN b0.toNat).2.2) (f := 4) (lo := (roomN b0.toNat).1) (hi := (roomN b0.toNat).2.1) (n := 1) (by simp)
    have hmax := contN_max (s := b0 :: t) (all := (roomN b0.toNat).2.2) (f := 4) (lo := (roomN b0.toNat).1) (hi := (roomN b0.toNat).2.1) (n := 1)
    have hlp := loop32 (b0 :: t) _ hroom ⟨(4, (roomN b0.toNat).1, (roomN b0.toNat).2.1, 1), by simp only; omega⟩
    simp only at hlp
    have hwh := whole_of (b0 := b0) (t := t)
    have hrT := room_T (bt b0)
    unfold roomV at hrT
    have hnx : nxt (b0 :: t) = bif Nat.beq (contN (b0 :: t) (roomN b0.toNat).2.2 4 (roomN b0.toNat).1 (roomN b0.toNat).2.1 1) (roomN b0.toNat).2.2 then
      (valOf ((b0 :: t).take (roomN b0.toNat).2.2), (roomN b0.toNat).2.2, true)
    else (65533, contN (b0 :: t) (roomN b0.toNat).2.2 4 (roomN b0.toNat).1 (roomN b0.toNat).2.1 1, false) := rfl
    rw [hnx]
    clear hnx
    generalize roomN b0.toNat = r at *
    obtain ⟨lo, hi, all⟩ := r
    simp only at hroom hle hlp hmax hwh hrT ⊢
    generalize contN (b0 :: t) all 4 lo hi 1 = n at *
    by_cases e : n = all
    · subst e
      simp only [beq_same, cond_true]
      exact pure_hC tabOK hF (by rfl) (by rfl) [(16, .c (.ret (.tup [by8 lo, by8 hi, i64 n]) H2 none)), (99, .l [0, 2, 3, 4, 5, 6, 7, 8] (R32 (b0 :: t) n n)), (47, .e (.bool false)), (52, .u .undef), (53, .c (.ret (.tup [i32 (Int.ofNat (valOf ((b0 :: t).take n))), i64 n]) H2 none))] dF32 (by kernel_rfl)
        (ofK (b := CallI P kF35 [by8 b0.toNat] H2 (.ret (.tup [by8 lo, by8 hi, i64 n]) H2 none) ∧ TripI P 58 (.loop (lp cF32 0)) (E32 (b0 :: t) n lo hi 1) H2 d0 (R32 (b0 :: t) n n) ∧ AV.bool (!eqI (Int.ofNat n) (Int.ofNat n)) = .bool false ∧ n ≤ (b0 :: t).length ∧
            CallI P kF36 [.str ((b0 :: t).take n)] H2 (.ret (.tup [i32 (Int.ofNat (valOf ((b0 :: t).take n))), i64 n]) H2 none) ∧ nxtV (valOf ((b0 :: t).take n), n, true) = nxtV (valOf ((b0 :: t).take n), n, true)) (by kernel_rfl)
          ⟨⟨hrT _⟩, ⟨hlp.trip⟩, by rw [eqN]; simp, hle, ⟨dec_T (hwh rfl) _⟩, rfl⟩) h
    · rw [beq_ne e, cond_false]
      exact pure_hC tabOK hF (by rfl) (by rfl) [(16, .c (.ret (.tup [by8 lo, by8 hi, i64 all]) H2 none)), (99, .l [0, 2, 3, 4, 5, 6, 7, 8] (R32 (b0 :: t) all n)), (47, .e (.bool true))] dF32 (by kernel_rfl)
        (ofK (b := CallI P kF35 [by8 b0.toNat] H2 (.ret (.tup [by8 lo, by8 hi, i64 all]) H2 none) ∧ TripI P 58 (.loop (lp cF32 0)) (E32 (b0 :: t) all lo hi 1) H2 d0 (R32 (b0 :: t) all n) ∧ AV.bool (!eqI (Int.ofNat n) (Int.ofNat all)) = .bool true ∧ nxtV (65533, n, false) = nxtV (65533, n, false)) (by kernel_rfl)
          ⟨⟨hrT _⟩, ⟨hlp.trip⟩, by rw [eqN]; simp [e], rfl⟩) h
end Go.Proofs.YtbdpfpjpmilpbaaGreatDoor

namespace Go.Proofs.YtbdpfpjpmilpbaaGreatDoor
open Go Go.Rk
set_option maxRecDepth 1000000
set_option linter.unusedVariables false
set_option linter.unusedSimpArgs false
set_option linter.constructorNameAsVariable false
set_option linter.unusedSectionVars false
/-! a text's scalars -/
def decF : Nat → List UInt8 → List Nat
  | 0, _ => []
  | _ + 1, [] => []
  | f + 1, b :: t => (nxt (b :: t)).1 :: decF f ((b :: t).drop (nxt (b :: t)).2.1)
def decL (s : List UInt8) : List Nat := decF s.length s
def runeV (l : List Nat) : List AV := l.map fun c => i32 (Int.ofNat c)
theorem nxt_le (s : List UInt8) : (nxt s).2.1 ≤ s.length := by
  cases s with
  | nil => exact Nat.le_refl _
  | cons b t =>
    have h := contN_le (s := b :: t) (all := (roomN b.toNat).2.2) (f := 4) (lo := (roomN b.toNat).1) (hi := (roomN b.toNat).2.1) (n := 1) (by simp)
    unfold nxt
    simp only []
    cases e : Nat.beq (contN (b :: t) (roomN b.toNat).2.2 4 (roomN b.toNat).1 (roomN b.toNat).2.1 1) (roomN b.toNat).2.2 with
    | true => rw [Nat.eq_of_beq_eq_true e] at h; exact h
    | false => exact h
theorem nxt_pos (b : UInt8) (t : List UInt8) : 1 ≤ (nxt (b :: t)).2.1 := by
  have h := contN_ge (s := b :: t) (all := (roomN b.toNat).2.2) (f := 4) (lo := (roomN b.toNat).1) (hi := (roomN b.toNat).2.1) (n := 1)
  unfold nxt
  simp only []
  cases e : Nat.beq (contN (b :: t) (roomN b.toNat).2.2 4 (roomN b.toNat).1 (roomN b.toNat).2.1 1) (roomN b.toNat).2.2 with
  | true => rw [Nat.eq_of_beq_eq_true e] at h; exact h
  | false => exact h
noncomputable abbrev rg16 : Code × Code := (rangesOf (bodyOf cF16)).getD 0 (.skip, .skip)
abbrev e16 (s0 : List UInt8) : T := envOf [(0, .str s0), (2, .slice0), (3, .ptr oB2 0 0), (5, .str s0), (6, .func kF31 [] [.ptr oB3 0 0])]
noncomputable def L16 (s0 : List UInt8) (st : LoopState) : AObj := .loop { st := st, pending := none, env := e16 s0, ps := [7, 8], assign := rg16.1, body := rg16.2, n := 14 }
noncomputable abbrev ob16 (s0 s : List UInt8) (v : AV) : List (Nat × AObj) := [(oB2, .cells [v] tY25 0 0 false), (oB3, .cells [.str s] tY9 0 0 false), (oB4, .dfd false), (oB5, L16 s0 .ready)]
noncomputable abbrev Ha (s0 s : List UInt8) : Heap := heapOf oB6 (ob16 s0 s .slice0 ++ tabs)
noncomputable abbrev Hb (s0 s : List UInt8) (cs : List AV) (g : Nat) : Heap := heapOf oB8 ((oB7, .cells cs tY21 g 0 false) :: (ob16 s0 s (.slice oB7 g 0 (g + 1) (g + 1) 1 false) ++ tabs))
noncomputable abbrev Hc (s0 s : List UInt8) (r : Int) : Heap := heapOf oB8 ((oB6, .cells [i32 r] tY21 0 0 false) :: (oB7, .cells [i32 r] tY21 0 0 false) :: (ob16 s0 s (.slice oB7 0 0 1 1 1 false) ++ tabs))
noncomputable abbrev He (s0 s : List UInt8) (cs : List AV) (g : Nat) (r : Int) : Heap := heapOf oB9 ((oB8, .cells [i32 r] tY21 0 0 false) :: (oB7, .cells (cs ++ [i32 r]) tY21 (g + 1) 0 false) :: (ob16 s0 s (.slice oB7 (g + 1) 0 (g + 1 + 1) (g + 1 + 1) 1 false) ++ tabs))
section
variable (s0 s : List UInt8)
theorem rnd16a (r : Int) (w : Bool) : RndT P oB5 [i32 r, .bool w] (Ha s0 s) (.ret (.bool true) (Hc s0 s r) none) :=
  rnd_hC hF [] (ofK (b := CR.ret (.bool true) (Hc s0 s r) none = .ret (.bool true) (Hc s0 s r) none) (by kernel_rfl) rfl)
theorem rnd16b (cs : List AV) (g : Nat) (r : Int) (w : Bool) (hl : cs.length = g + 1) (hg : g ≤ 10000000) : RndT P oB5 [i32 r, .bool w] (Hb s0 s cs g) (.ret (.bool true) (He s0 s cs g r) none) :=
  rnd_hC hF [(12, .u .undef)] (ofK (b := ((0 = 0 ∧ 1 ≤ 1) ∧ g + 1 < g + 1 + 1 ∧ (g + 1 + 1) * 5 ≤ 274877906944 ∧ 1 = 1 ∧ g = g ∧ 0 + (g + 1) * 1 = cs.length ∧ tY21 = tY21 ∧ 0 ≤ cs.length ∧ true = true) ∧ CR.ret (.bool true) (He s0 s cs g r) none = .ret (.bool true) (He s0 s cs g r) none) (by kernel_rfl)
    ⟨⟨⟨rfl, Nat.le_refl _⟩, by omega, by omega, rfl, rfl, by omega, rfl, Nat.zero_le _, rfl⟩, rfl⟩)
abbrev E31 : T := envOf [(0, .yield oB5), (1, .ptr oB3 0 0)]
abbrev ks31 : Keep := [(oB7, some []), (oB2, some []), (oB3, some []), (oB4, some []), (oB5, some [0, 2, 3, 5, 6])] ++ KT
theorem beq_cons (b : UInt8) (t : List UInt8) : beqB (b :: t) [] = false := rfl
theorem s31a (b : UInt8) (t : List UInt8) : Trip P 22 (lp cF31 0) E31 (Ha s0 (b :: t)) d0 (.nrm E31 (Hb s0 ((b :: t).drop (nxt (b :: t)).2.1) [i32 (Int.ofNat (nxt (b :: t)).1)] 0) d0) :=
  trip_shed hF (by rfl) [(10, .c (.ret (nxtV (nxt (b :: t))) (Ha s0 (b :: t)) none)), (17, .c (.ret (.bool true) (Hc s0 (b :: t) (Int.ofNat (nxt (b :: t)).1)) none)), (21, .u .undef)] oB8 ks31 [0, 1]
    (ofK (b := CallI P kF32 [.str (b :: t)] (Ha s0 (b :: t)) (.ret (nxtV (nxt (b :: t))) (Ha s0 (b :: t)) none) ∧ RndI P oB5 [i32 (Int.ofNat (nxt (b :: t)).1), .bool (nxt (b :: t)).2.2] (Ha s0 (b :: t)) (.ret (.bool true) (Hc s0 (b :: t) (Int.ofNat (nxt (b :: t)).1)) none) ∧
        (nxt (b :: t)).2.1 ≤ (b :: t).length ∧ (true = true ∧ true = true ∧ true = true ∧ true = true ∧ true = true ∧ true = true ∧ true = true ∧ true = true ∧ True) ∧
        XR.nrm E31 (Hb s0 ((b :: t).drop (nxt (b :: t)).2.1) [i32 (Int.ofNat (nxt (b :: t)).1)] 0) d0 = .nrm E31 (Hb s0 ((b :: t).drop (nxt (b :: t)).2.1) [i32 (Int.ofNat (nxt (b :: t)).1)] 0) d0) (by kernel_rfl)
      ⟨⟨next_T _ _⟩, ⟨rnd16a _ _ _ _⟩, nxt_le _, ⟨rfl, rfl, rfl, rfl, rfl, rfl, rfl, rfl, trivial⟩, rfl⟩)
theorem below_app {n : Nat} : ∀ {l m : List AV}, belowVs n l = true → belowVs n m = true → belowVs n (l ++ m) = true
  | [], m, _, h => h
  | a :: l, m, h, h' => by
    simp only [belowVs, Bool.and_eq_true, List.cons_append] at h ⊢
    exact ⟨h.1, below_app h.2 h'⟩
theorem s31b (b : UInt8) (t : List UInt8) (cs : List AV) (g : Nat) (hl : cs.length = g + 1) (hg : g ≤ 10000000) (hb : belowVs oB8 cs = true) : Trip P 22 (lp cF31 0) E31 (Hb s0 (b :: t) cs g) d0 (.nrm E31 (Hb s0 ((b :: t).drop (nxt (b :: t)).2.1) (cs ++ [i32 (Int.ofNat (nxt (b :: t)).1)]) (g + 1)) d0) :=
  trip_shed hF (by rfl) [(10, .c (.ret (nxtV (nxt (b :: t))) (Hb s0 (b :: t) cs g) none)), (17, .c (.ret (.bool true) (He s0 (b :: t) cs g (Int.ofNat (nxt (b :: t)).1)) none)), (21, .u .undef)] oB8 ks31 [0, 1]
    (ofK (b := CallI P kF32 [.str (b :: t)] (Hb s0 (b :: t) cs g) (.ret (nxtV (nxt (b :: t))) (Hb s0 (b :: t) cs g) none) ∧ RndI P oB5 [i32 (Int.ofNat (nxt (b :: t)).1), .bool (nxt (b :: t)).2.2] (Hb s0 (b :: t) cs g) (.ret (.bool true) (He s0 (b :: t) cs g (Int.ofNat (nxt (b :: t)).1)) none) ∧
        (nxt (b :: t)).2.1 ≤ (b :: t).length ∧ (true = true ∧ belowVs oB8 (cs ++ [i32 (Int.ofNat (nxt (b :: t)).1)]) = true ∧ true = true ∧ true = true ∧ true = true ∧ true = true ∧ true = true ∧ true = true ∧ True) ∧
        XR.nrm E31 (Hb s0 ((b :: t).drop (nxt (b :: t)).2.1) (cs ++ [i32 (Int.ofNat (nxt (b :: t)).1)]) (g + 1)) d0 = .nrm E31 (Hb s0 ((b :: t).drop (nxt (b :: t)).2.1) (cs ++ [i32 (Int.ofNat (nxt (b :: t)).1)]) (g + 1)) d0) (by kernel_rfl)
      ⟨⟨next_T _ _⟩, ⟨rnd16b _ _ _ _ _ _ hl hg⟩, nxt_le _, ⟨rfl, below_app hb rfl, rfl, rfl, rfl, rfl, rfl, rfl, trivial⟩, rfl⟩)
theorem s31c (cs : List AV) (g : Nat) (hb : belowVs oB8 cs = true) : Trip P 22 (lp cF31 0) E31 (Hb s0 [] cs g) d0 (.exit 0 E31 (Hb s0 [] cs g) d0) :=
  trip_shed hF (by rfl) [] oB8 ks31 [0, 1]
    (ofK (b := (true = true ∧ belowVs oB8 cs = true ∧ true = true ∧ true = true ∧ true = true ∧ true = true ∧ true = true ∧ true = true ∧ True) ∧ XR.exit 0 E31 (Hb s0 [] cs g) d0 = .exit 0 E31 (Hb s0 [] cs g) d0) (by kernel_rfl)
      ⟨⟨rfl, hb, rfl, rfl, rfl, rfl, rfl, rfl, trivial⟩, rfl⟩)
theorem s31d : Trip P 22 (lp cF31 0) E31 (Ha s0 []) d0 (.exit 0 E31 (Ha s0 []) d0) :=
  trip_shed hF (by rfl) [] oB6 ([(oB2, some []), (oB3, some []), (oB4, some []), (oB5, some [0, 2, 3, 5, 6])] ++ KT) [0, 1]
    (ofK (b := (true = true ∧ true = true ∧ true = true ∧ true = true ∧ true = true ∧ true = true ∧ true = true ∧ True) ∧ XR.exit 0 E31 (Ha s0 []) d0 = .exit 0 E31 (Ha s0 []) d0) (by kernel_rfl)
      ⟨⟨rfl, rfl, rfl, rfl, rfl, rfl, rfl, trivial⟩, rfl⟩)
structure St31 where
  f : Nat
  s : List UInt8
  cs : List AV
  g : Nat
  hf : s.length ≤ f
  hl : cs.length = g + 1
  hg : g + f ≤ 10000000
  hb : belowVs oB8 cs = true
theorem runeV_below {n : Nat} : ∀ {l : List Nat}, belowVs n (runeV l) = true
  | [] => rfl
  | a :: l => by
    show belowVs n (i32 (Int.ofNat a) :: runeV l) = true
    simp only [belowVs, belowV, Bool.true_and]
    exact runeV_below
theorem runeV_plain : ∀ {l : List Nat}, plainVs (runeV l) = true
  | [] => rfl
  | a :: l => by
    show plainVs (i32 (Int.ofNat a) :: runeV l) = true
    simp only [plainVs, plainV, Bool.true_and]
    exact runeV_plain
theorem loop31 : ∀ x : St31, TripL P 22 (lp cF31 0) E31 (Hb s0 x.s x.cs x.g) d0 (.exit 0 E31 (Hb s0 [] (x.cs ++ runeV (decF x.f x.s)) (x.g + (decF x.f x.s).length)) d0) := by
  refine TripL.fam (fun _ => E31) (fun (x : St31) => Hb s0 x.s x.cs x.g) d0 (fun (x : St31) => .exit 0 E31 (Hb s0 [] (x.cs ++ runeV (decF x.f x.s)) (x.g + (decF x.f x.s).length)) d0) (fun x => x.f) fun ⟨f, s, cs, g, hf, hl, hg, hb⟩ => ?_
  simp only
  cases s with
  | nil =>
    have : decF f [] = [] := by cases f <;> rfl
    rw [this]
    simp only [runeV, List.map_nil, List.append_nil, List.length_nil, Nat.add_zero]
    exact .inl ⟨rfl, s31c s0 cs g hb⟩
  | cons b t =>
    cases f with
    | zero => simp at hf
    | succ f =>
      have h1 := nxt_pos b t
      have h2 := nxt_le (b :: t)
      refine .inr ⟨⟨f, (b :: t).drop (nxt (b :: t)).2.1, cs ++ [i32 (Int.ofNat (nxt (b :: t)).1)], g + 1, ?_, by simp [hl], by omega, below_app hb rfl⟩, by simp, ?_, s31b s0 b t cs g hl (by omega) hb⟩
      · simp only [List.length_drop]; simp only [List.length_cons] at hf h2 ⊢; omega
      · simp only [decF, runeV, List.map_cons, List.append_assoc, List.singleton_append, List.length_cons, List.cons_append, List.nil_append]
        congr 2
        omega
end
end Go.Proofs.YtbdpfpjpmilpbaaGreatDoor

namespace Go.Proofs.YtbdpfpjpmilpbaaGreatDoor
open Go Go.Rk
set_option maxRecDepth 1000000
set_option linter.unusedVariables false
set_option linter.unusedSimpArgs false
set_option linter.constructorNameAsVariable false
set_option linter.unusedSectionVars false
section
variable (s0 : List UInt8)
theorem f31_T (b : UInt8) (t : List UInt8) (hlen : (b :: t).length ≤ 1000000) : CallT P kF31 [.yield oB5, .ptr oB3 0 0] (Ha (b :: t) (b :: t)) (.ret (.tup []) (Hb (b :: t) [] (runeV (decL (b :: t))) ((decL (b :: t)).length - 1)) none) := by
  have h1 := nxt_pos b t
  have h2 := nxt_le (b :: t)
  have hl := loop31 (b :: t) ⟨t.length, (b :: t).drop (nxt (b :: t)).2.1, [i32 (Int.ofNat (nxt (b :: t)).1)], 0, by simp only [List.length_drop, List.length_cons] at h2 ⊢; omega, rfl, by simp only [List.length_cons] at hlen; omega, rfl⟩
  simp only at hl
  have hd : decL (b :: t) = (nxt (b :: t)).1 :: decF t.length ((b :: t).drop (nxt (b :: t)).2.1) := rfl
  have e1 : [i32 (Int.ofNat (nxt (b :: t)).1)] ++ runeV (decF t.length ((b :: t).drop (nxt (b :: t)).2.1)) = runeV (decL (b :: t)) := by rw [hd]; rfl
  have e2 : 0 + (decF t.length ((b :: t).drop (nxt (b :: t)).2.1)).length = (decL (b :: t)).length - 1 := by rw [hd]; simp
  rw [e1, e2] at hl
  have hT := (TripL.next (s31a (b :: t) b t) hl).trip
  exact callT_hC hF [(99, .l [0, 1] (.exit 0 E31 (Hb (b :: t) [] (runeV (decL (b :: t))) ((decL (b :: t)).length - 1)) d0))] dF31 (c := bodyOf cF31) (by kernel_rfl) (by kernel_rfl) (by kernel_rfl) (by kernel_rfl)
    (ofK (b := TripI P 22 (.loop (lp cF31 0)) E31 (Ha (b :: t) (b :: t)) d0 (.exit 0 E31 (Hb (b :: t) [] (runeV (decL (b :: t))) ((decL (b :: t)).length - 1)) d0) ∧ CR.ret (.tup []) (Hb (b :: t) [] (runeV (decL (b :: t))) ((decL (b :: t)).length - 1)) none = .ret (.tup []) (Hb (b :: t) [] (runeV (decL (b :: t))) ((decL (b :: t)).length - 1)) none) (by kernel_rfl)
      ⟨⟨hT⟩, rfl⟩)
theorem f31_nil : CallT P kF31 [.yield oB5, .ptr oB3 0 0] (Ha [] []) (.ret (.tup []) (Ha [] []) none) :=
  callT_hC hF [(99, .l [0, 1] (.exit 0 E31 (Ha [] []) d0))] dF31 (c := bodyOf cF31) (by kernel_rfl) (by kernel_rfl) (by kernel_rfl) (by kernel_rfl)
    (ofK (b := TripI P 22 (.loop (lp cF31 0)) E31 (Ha [] []) d0 (.exit 0 E31 (Ha [] []) d0) ∧ CR.ret (.tup []) (Ha [] []) none = .ret (.tup []) (Ha [] []) none) (by kernel_rfl)
      ⟨⟨(TripL.stop rfl (s31d [])).trip⟩, rfl⟩)
end
noncomputable abbrev Hf (s0 : List UInt8) (cs : List AV) (g : Nat) : Heap := heapOf oB8 ([(oB7, .cells cs tY21 g 0 false), (oB2, .cells [.slice oB7 g 0 (g + 1) (g + 1) 1 false] tY25 0 0 false), (oB3, .cells [.str []] tY9 0 0 false), (oB4, .dfd true), (oB5, L16 s0 .exhausted)] ++ tabs)
theorem decode_nil (h : Heap) : CallT P kF16 [.str []] h (.ret .slice0 h none) :=
  pure_hC tabOK hF (by rfl) (by rfl) [(0, .c (.ret (.tup []) (Ha [] []) none))] dF16 (by kernel_rfl)
    (ofK (b := CallI P kF31 [.yield oB5, .ptr oB3 0 0] (Ha [] []) (.ret (.tup []) (Ha [] []) none) ∧ AV.slice0 = .slice0) (by kernel_rfl) ⟨⟨f31_nil⟩, rfl⟩) h
theorem decL_pos (b : UInt8) (t : List UInt8) : 1 ≤ (decL (b :: t)).length := by
  have hd : decL (b :: t) = (nxt (b :: t)).1 :: decF t.length ((b :: t).drop (nxt (b :: t)).2.1) := rfl
  rw [hd]; simp
theorem decode_T (b : UInt8) (t : List UInt8) (hlen : (b :: t).length ≤ 1000000) (h : Heap) : CallT P kF16 [.str (b :: t)] h (.ret (.slice h.next 0 0 (decL (b :: t)).length (decL (b :: t)).length 1 false) (h.new (.cells (runeV (decL (b :: t))) tY21 0 0 false)) none) := by
  have hp := decL_pos b t
  have hc : CallT P kF16 [.str (b :: t)] (hpT P) (.ret (.slice oB7 ((decL (b :: t)).length - 1) 0 ((decL (b :: t)).length - 1 + 1) ((decL (b :: t)).length - 1 + 1) 1 false) (Hf (b :: t) (runeV (decL (b :: t))) ((decL (b :: t)).length - 1)) none) :=
    callT_hC hF [(0, .c (.ret (.tup []) (Hb (b :: t) [] (runeV (decL (b :: t))) ((decL (b :: t)).length - 1)) none))] dF16 (c := bodyOf cF16) (by kernel_rfl) (by kernel_rfl) (by kernel_rfl) (by kernel_rfl)
      (ofK (b := CallI P kF31 [.yield oB5, .ptr oB3 0 0] (Ha (b :: t) (b :: t)) (.ret (.tup []) (Hb (b :: t) [] (runeV (decL (b :: t))) ((decL (b :: t)).length - 1)) none) ∧
          CR.ret (.slice oB7 ((decL (b :: t)).length - 1) 0 ((decL (b :: t)).length - 1 + 1) ((decL (b :: t)).length - 1 + 1) 1 false) (Hf (b :: t) (runeV (decL (b :: t))) ((decL (b :: t)).length - 1)) none = .ret (.slice oB7 ((decL (b :: t)).length - 1) 0 ((decL (b :: t)).length - 1 + 1) ((decL (b :: t)).length - 1 + 1) 1 false) (Hf (b :: t) (runeV (decL (b :: t))) ((decL (b :: t)).length - 1)) none) (by kernel_rfl)
        ⟨⟨f31_T b t hlen⟩, rfl⟩)
  have := callT_new tabOK (b := oB7) (g := (decL (b :: t)).length - 1) (ty := tY21) (fz := 0) (s := false) (cs := runeV (decL (b :: t))) (by rfl) hc (by simp [onlyV]) (Nat.le_of_ble_eq_true (by kernel_rfl)) (by kernel_rfl) runeV_plain h
  have e : (decL (b :: t)).length - 1 + 1 = (decL (b :: t)).length := by omega
  rw [e] at this
  exact this
end Go.Proofs.YtbdpfpjpmilpbaaGreatDoor
