/-
  A step of the proof of this seat's statement. No condition.
-/
import Derived.Test.YtbdpfpjpmilpbaaGreatDoorPD
namespace Go.Proofs.YtbdpfpjpmilpbaaGreatDoor
open Go Go.Rk
set_option maxRecDepth 1000000
set_option linter.unusedVariables false
set_option linter.unusedSimpArgs false
set_option linter.constructorNameAsVariable false
set_option linter.unusedSectionVars false
/-! texts whose first part is valid -/
theorem nxt_of {b0 : UInt8} {t : List UInt8} {lo hi n : Nat} (hr : roomN b0.toNat = (lo, hi, n)) (hc : contN (b0 :: t) n 4 lo hi 1 = n) : nxt (b0 :: t) = (valOf ((b0 :: t).take n), n, true) := by
  unfold nxt
  simp only [hr, hc, beq_same, cond_true]
theorem ofNat8 {n : Nat} (h : n < 256) : (UInt8.ofNat n).toNat = n := by simp [UInt8.toNat_ofNat']; omega
theorem nxt_enc2 {c : Nat} (h1 : 128 ≤ c) (h2 : c < 2048) (r : List UInt8) : nxt ([UInt8.ofNat (192 + c / 64), UInt8.ofNat (128 + c % 64)] ++ r) = (c, 2, true) := by
  have e0 : (UInt8.ofNat (192 + c / 64)).toNat = 192 + c / 64 := ofNat8 (by omega)
  have e1 : (UInt8.ofNat (128 + c % 64)).toNat = 128 + c % 64 := ofNat8 (by omega)
  generalize UInt8.ofNat (192 + c / 64) = b0 at *
  generalize UInt8.ofNat (128 + c % 64) = b1 at *
  show nxt (b0 :: b1 :: r) = _
  rw [nxt_of (lo := 128) (hi := 191) (n := 2)]
  · show (r2 b0.toNat b1.toNat, 2, true) = _
    rw [show r2 b0.toNat b1.toNat = c by rw [e0, e1]; unfold r2; omega]
  · unfold roomN
    rw [if_neg (by omega), if_neg (by omega), if_pos (by omega)]
  · unfold contN
    rw [if_pos ⟨by omega, by simp, by show 128 ≤ b1.toNat; omega, by show b1.toNat ≤ 191; omega⟩]
    unfold contN
    rw [if_neg (by omega)]
theorem nxt_enc3 {c : Nat} (h1 : 2048 ≤ c) (h2 : c < 65536) (hv : valid c) (r : List UInt8) : nxt ([UInt8.ofNat (224 + c / 4096), UInt8.ofNat (128 + c / 64 % 64), UInt8.ofNat (128 + c % 64)] ++ r) = (c, 3, true) := by
  have e0 : (UInt8.ofNat (224 + c / 4096)).toNat = 224 + c / 4096 := ofNat8 (by omega)
  have e1 : (UInt8.ofNat (128 + c / 64 % 64)).toNat = 128 + c / 64 % 64 := ofNat8 (by omega)
  have e2 : (UInt8.ofNat (128 + c % 64)).toNat = 128 + c % 64 := ofNat8 (by omega)
  generalize UInt8.ofNat (224 + c / 4096) = b0 at *
  generalize UInt8.ofNat (128 + c / 64 % 64) = b1 at *
  generalize UInt8.ofNat (128 + c % 64) = b2 at *
  show nxt (b0 :: b1 :: b2 :: r) = _
  obtain ⟨lo, hi, hr, hlo, hhi⟩ : ∃ lo hi, roomN b0.toNat = (lo, hi, 3) ∧ lo ≤ b1.toNat ∧ b1.toNat ≤ hi := by
    rw [e0, e1]
    unfold roomN
    unfold valid at hv
    rw [if_neg (by omega), if_neg (by omega), if_neg (by omega)]
    by_cases a1 : 224 + c / 4096 = 224
    · rw [if_pos a1]; exact ⟨160, 191, rfl, by omega, by omega⟩
    · rw [if_neg a1]
      by_cases a2 : 224 + c / 4096 = 237
      · rw [if_pos a2]; exact ⟨128, 159, rfl, by omega, by omega⟩
      · rw [if_neg a2, if_pos (by omega)]; exact ⟨128, 191, rfl, by omega, by omega⟩
  rw [nxt_of hr]
  · show (r3 b0.toNat b1.toNat b2.toNat, 3, true) = _
    rw [show r3 b0.toNat b1.toNat b2.toNat = c by rw [e0, e1, e2]; unfold r3; omega]
  · unfold contN
    rw [if_pos ⟨by omega, by simp, by show lo ≤ b1.toNat; omega, by show b1.toNat ≤ hi; omega⟩]
    unfold contN
    rw [if_pos ⟨by omega, by simp, by show 128 ≤ b2.toNat; omega, by show b2.toNat ≤ 191; omega⟩]
    unfold contN
    rw [if_neg (by omega)]
theorem nxt_enc4 {c : Nat} (h1 : 65536 ≤ c) (h2 : c ≤ 1114111) (r : List UInt8) :
    nxt ([UInt8.ofNat (240 + c / 262144), UInt8.ofNat (128 + c / 4096 % 64), UInt8.ofNat (128 + c / 64 % 64), UInt8.ofNat (128 + c % 64)] ++ r) = (c, 4, true) := by
  have e0 : (UInt8.ofNat (240 + c / 262144)).toNat = 240 + c / 262144 := ofNat8 (by omega)
  have e1 : (UInt8.ofNat (128 + c / 4096 % 64)).toNat = 128 + c / 4096 % 64 := ofNat8 (by omega)
  have e2 : (UInt8.ofNat (128 + c / 64 % 64)).toNat = 128 + c / 64 % 64 := ofNat8 (by omega)
  have e3 : (UInt8.ofNat (128 + c % 64)).toNat = 128 + c % 64 := ofNat8 (by omega)
  generalize UInt8.ofNat (240 + c / 262144) = b0 at *
  generalize UInt8.ofNat (128 + c / 4096 % 64) = b1 at *
  generalize UInt8.ofNat (128 + c / 64 % 64) = b2 at *
  generalize UInt8.ofNat (128 + c % 64) = b3 at *
  show nxt (b0 :: b1 :: b2 :: b3 :: r) = _
  obtain ⟨lo, hi, hr, hlo, hhi⟩ : ∃ lo hi, roomN b0.toNat = (lo, hi, 4) ∧ lo ≤ b1.toNat ∧ b1.toNat ≤ hi := by
    rw [e0, e1]
    unfold roomN
    rw [if_neg (by omega), if_neg (by omega), if_neg (by omega), if_neg (by omega), if_neg (by omega), if_neg (by omega)]
    by_cases a1 : 240 + c / 262144 = 240
    · rw [if_pos a1]; exact ⟨144, 191, rfl, by omega, by omega⟩
    · rw [if_neg a1]
      by_cases a2 : 240 + c / 262144 = 244
      · rw [if_pos a2]; exact ⟨128, 143, rfl, by omega, by omega⟩
      · rw [if_neg a2, if_pos (by omega)]; exact ⟨128, 191, rfl, by omega, by omega⟩
  rw [nxt_of hr]
  · show (r4 b0.toNat b1.toNat b2.toNat b3.toNat, 4, true) = _
    rw [show r4 b0.toNat b1.toNat b2.toNat b3.toNat = c by rw [e0, e1, e2, e3]; unfold r4; omega]
  · unfold contN
    rw [if_pos ⟨by omega, by simp, by show lo ≤ b1.toNat; omega, by show b1.toNat ≤ hi; omega⟩]
    unfold contN
    rw [if_pos ⟨by omega, by simp, by show 128 ≤ b2.toNat; omega, by show b2.toNat ≤ 191; omega⟩]
    unfold contN
    rw [if_pos ⟨by omega, by simp, by show 128 ≤ b3.toNat; omega, by show b3.toNat ≤ 191; omega⟩]
    unfold contN
    rw [if_neg (by omega)]
/-- the bytes of a scalar are read whole, whatever follows -/
theorem nxt_enc {c : Nat} (hv : valid c) (r : List UInt8) : nxt (encB c ++ r) = (c, (encB c).length, true) := by
  have hc : c ≤ 1114111 := by unfold valid at hv; omega
  by_cases h1 : c < 128
  · have e : encB c = [UInt8.ofNat c] := by simp [encB, encN, h1]
    rw [e]
    show nxt (UInt8.ofNat c :: r) = _
    rw [nxt_ascii _ _ (by rw [ofNat8 (by omega)]; exact h1), ofNat8 (by omega)]; rfl
  · by_cases h2 : c < 2048
    · have e : encB c = [UInt8.ofNat (192 + c / 64), UInt8.ofNat (128 + c % 64)] := by simp [encB, encN, h1, h2]
      rw [e]; exact nxt_enc2 (by omega) h2 r
    · by_cases h3 : c < 65536
      · have e : encB c = [UInt8.ofNat (224 + c / 4096), UInt8.ofNat (128 + c / 64 % 64), UInt8.ofNat (128 + c % 64)] := by simp [encB, encN, h1, h2, h3]
        rw [e]; exact nxt_enc3 (by omega) h3 hv r
      · have e : encB c = [UInt8.ofNat (240 + c / 262144), UInt8.ofNat (128 + c / 4096 % 64), UInt8.ofNat (128 + c / 64 % 64), UInt8.ofNat (128 + c % 64)] := by simp [encB, encN, h1, h2, h3]
        rw [e]; exact nxt_enc4 (by omega) hc r
theorem scal_valid {v : Int} (h : scal v = true) : ∃ c : Nat, v = Int.ofNat c ∧ valid c := by
  simp only [scal, Bool.and_eq_true, Bool.or_eq_true, decide_eq_true_eq] at h
  exact ⟨v.toNat, by simp only [Int.ofNat_eq_natCast]; omega, by unfold valid; omega⟩
theorem wholeB_enc {t : List UInt8} (h : wholeB t = true) : ∃ c, valid c ∧ t = encB c := by
  unfold wholeB at h
  cases hs : scal (VI t) with
  | false => rw [hs] at h; cases h
  | true =>
    rw [hs] at h
    obtain ⟨c, hc, hv⟩ := scal_valid hs
    rw [hc] at h
    exact ⟨c, hv, (beqB_iff.1 h).symm⟩
theorem wholeB_nxt {t : List UInt8} (h : wholeB t = true) (r : List UInt8) : nxt (t ++ r) = ((nxt t).1, t.length, true) := by
  obtain ⟨c, hv, rfl⟩ := wholeB_enc h
  have := nxt_enc hv []
  rw [List.append_nil] at this
  rw [nxt_enc hv r, this]
theorem fndN_spec {s : List UInt8} : ∀ {f n : Nat}, 1 ≤ n → fndN s f n ≠ 0 → 1 ≤ fndN s f n ∧ fndN s f n ≤ 4 ∧ fndN s f n ≤ s.length ∧ wholeB (s.take (fndN s f n)) = true
  | 0, n, _, h => absurd rfl h
  | f + 1, n, hn, h => by
    rw [fndN] at h ⊢
    by_cases h1 : n ≤ 4 ∧ n ≤ s.length
    · rw [if_pos h1] at h ⊢
      cases hw : wholeB (s.take n) with
      | true => exact ⟨hn, h1.1, h1.2, hw⟩
      | false =>
        rw [hw] at h
        exact fndN_spec (by omega) h
    · rw [if_neg h1] at h; exact absurd rfl h
/-- where the reading of valid scalars ends, and whether that is the text's end -/
def vend : Nat → List UInt8 → List UInt8 × Bool
  | 0, s => (s, true)
  | _ + 1, [] => ([], true)
  | f + 1, b :: t => bif Nat.beq (fndN (b :: t) 4 1) 0 then (b :: t, false) else vend f ((b :: t).drop (fndN (b :: t) 4 1))
theorem nxt_one (b : UInt8) (t : List UInt8) : 1 ≤ (nxt (b :: t)).2.1 ∧ (nxt (b :: t)).2.1 ≤ (b :: t).length := by
  refine ⟨?_, nxt_le _⟩
  unfold nxt
  simp only
  by_cases e : contN (b :: t) (roomN b.toNat).2.2 4 (roomN b.toNat).1 (roomN b.toNat).2.1 1 = (roomN b.toNat).2.2
  · rw [e, beq_same, cond_true]
    have := contN_ge (s := b :: t) (all := (roomN b.toNat).2.2) (f := 4) (lo := (roomN b.toNat).1) (hi := (roomN b.toNat).2.1) (n := 1)
    show 1 ≤ (roomN b.toNat).2.2
    omega
  · rw [beq_ne e, cond_false]
    exact contN_ge
theorem decF_more : ∀ {f g : Nat} {s : List UInt8}, s.length ≤ f → s.length ≤ g → decF f s = decF g s
  | 0, 0, s, _, _ => rfl
  | 0, g + 1, [], _, _ => rfl
  | 0, g + 1, b :: t, h, _ => absurd h (by simp)
  | f + 1, 0, [], _, _ => rfl
  | f + 1, 0, b :: t, _, h => absurd h (by simp)
  | f + 1, g + 1, [], _, _ => rfl
  | f + 1, g + 1, b :: t, h1, h2 => by
    rw [decF, decF]
    have := nxt_one b t
    rw [decF_more (f := f) (g := g)]
    · rw [List.length_drop]; simp only [List.length_cons] at *; omega
    · rw [List.length_drop]; simp only [List.length_cons] at *; omega
theorem decL_cons (b : UInt8) (t : List UInt8) : decL (b :: t) = (nxt (b :: t)).1 :: decL ((b :: t).drop (nxt (b :: t)).2.1) := by
  show decF (t.length + 1) (b :: t) = _
  rw [decF]
  have := nxt_one b t
  unfold decL
  rw [decF_more (f := t.length) (g := ((b :: t).drop (nxt (b :: t)).2.1).length)]
  · rw [List.length_drop]; simp only [List.length_cons] at *; omega
  · exact Nat.le_refl _
theorem decL_join (r : List UInt8) : ∀ {f : Nat} {s : List UInt8}, s.length ≤ f → (vend f s).2 = true → decL (s ++ r) = decL s ++ decL r
  | 0, [], _, _ => rfl
  | 0, b :: t, h, _ => absurd h (by simp)
  | f + 1, [], _, _ => rfl
  | f + 1, b :: t, h, hv => by
    rw [vend] at hv
    by_cases e : fndN (b :: t) 4 1 = 0
    · rw [e] at hv; cases hv
    · rw [beq_ne e, cond_false] at hv
      obtain ⟨h1, h2, h3, h4⟩ := fndN_spec (s := b :: t) (by omega) e
      generalize fndN (b :: t) 4 1 = n at *
      have hl : ((b :: t).take n).length = n := len_take _ h3
      have q1 := wholeB_nxt h4 ((b :: t).drop n)
      rw [List.take_append_drop, hl] at q1
      have q2 := wholeB_nxt h4 ((b :: t).drop n ++ r)
      rw [← List.append_assoc, List.take_append_drop, hl] at q2
      have hd : ((b :: t) ++ r).drop n = (b :: t).drop n ++ r := List.drop_append_of_le_length h3
      have ih := decL_join r (f := f) (s := (b :: t).drop n) (by rw [List.length_drop]; simp only [List.length_cons] at *; omega) hv
      rw [List.cons_append] at q2 hd ⊢
      rw [decL_cons, decL_cons, q1, q2]
      simp only
      rw [hd, ih]; rfl
theorem encS_join (a : Nat) {s r : List UInt8} (hv : (vend s.length s).2 = true) : encS (s ++ r) a = encS s a ++ encS r a := by
  unfold encS
  rw [decL_join r (Nat.le_refl _) hv, List.flatMap_append]
end Go.Proofs.YtbdpfpjpmilpbaaGreatDoor

namespace Go.Proofs.YtbdpfpjpmilpbaaGreatDoor
open Go Go.Rk
set_option maxRecDepth 1000000
set_option linter.unusedVariables false
set_option linter.unusedSimpArgs false
set_option linter.constructorNameAsVariable false
set_option linter.unusedSectionVars false
/-! the document's next scalar is the program's -/
theorem geQ_eq (a : UInt8) (n : Nat) : geQ a n = decide (n ≤ a.toNat) := by
  by_cases h : n ≤ a.toNat
  · rw [decide_eq_true h]; unfold geQ; rw [ltF h]; rfl
  · rw [decide_eq_false h]; unfold geQ; rw [ltT (by omega)]; rfl
theorem leQ_eq (a : UInt8) (n : Nat) : leQ a n = decide (a.toNat ≤ n) := by
  by_cases h : a.toNat ≤ n
  · rw [decide_eq_true h]; unfold leQ; rw [ltF h]; rfl
  · rw [decide_eq_false h]; unfold leQ; rw [ltT (by omega)]; rfl
theorem eqQ_eq (a : UInt8) (n : Nat) : eqQ a n = decide (a.toNat = n) := by
  unfold eqQ; rw [eqN]
def mid (x lo hi : Nat) (k : Bool) : Bool := bif decide (lo ≤ x) then (bif decide (x ≤ hi) then k else false) else false
theorem segB_eq (lo hi : Nat) (b : UInt8) (k : Bool) : segB lo hi b k = mid b.toNat lo hi k := by unfold segB mid; rw [geQ_eq, leQ_eq]
theorem mid_t {x lo hi : Nat} {k : Bool} (h1 : lo ≤ x) (h2 : x ≤ hi) : mid x lo hi k = k := by unfold mid; rw [decide_eq_true h1, decide_eq_true h2]; rfl
theorem mid_f {x lo hi : Nat} {k : Bool} (h : ¬ (lo ≤ x ∧ x ≤ hi)) : mid x lo hi k = false := by
  unfold mid
  by_cases h1 : lo ≤ x
  · rw [decide_eq_true h1, decide_eq_false (fun h2 => h ⟨h1, h2⟩)]; rfl
  · rw [decide_eq_false h1]; rfl
theorem bifT {p : Prop} [Decidable p] {α : Type} {a b : α} (h : p) : (bif decide p then a else b) = a := by rw [decide_eq_true h]; rfl
theorem bifF {p : Prop} [Decidable p] {α : Type} {a b : α} (h : ¬ p) : (bif decide p then a else b) = b := by rw [decide_eq_false h]; rfl
theorem ra1_room (a b : UInt8) (k : Bool) (h : ¬ (194 ≤ a.toNat ∧ a.toNat ≤ 223)) :
    ra1 a b k = bif decide (3 ≤ (roomN a.toNat).2.2) then mid b.toNat (roomN a.toNat).1 (roomN a.toNat).2.1 k else false := by
  unfold ra1 ra2 ra3 sub1 sub2 sub3
  simp only [segB_eq, geQ_eq, leQ_eq, eqQ_eq]
  generalize a.toNat = x at *
  generalize b.toNat = y
  unfold roomN
  by_cases c1 : x < 128
  · rw [if_pos c1, bifF (show ¬ x = 224 by omega), bifF (show ¬ x = 237 by omega), bifF (show ¬ 225 ≤ x by omega), bifF (show ¬ x = 240 by omega), bifF (show ¬ 241 ≤ x by omega), bifF (show ¬ x = 244 by omega)]; rfl
  rw [if_neg c1]
  by_cases c2 : x < 194
  · rw [if_pos c2, bifF (show ¬ x = 224 by omega), bifF (show ¬ x = 237 by omega), bifF (show ¬ 225 ≤ x by omega), bifF (show ¬ x = 240 by omega), bifF (show ¬ 241 ≤ x by omega), bifF (show ¬ x = 244 by omega)]; rfl
  rw [if_neg c2, if_neg (show ¬ x ≤ 223 by omega)]
  by_cases c3 : x = 224
  · rw [if_pos c3, bifT c3]; rfl
  rw [if_neg c3, bifF c3]
  by_cases c4 : x = 237
  · rw [if_pos c4, bifT c4]; rfl
  rw [if_neg c4, bifF c4]
  by_cases c5 : x ≤ 239
  · rw [if_pos c5, bifT (show 225 ≤ x by omega), bifT c5]; rfl
  rw [if_neg c5, bifT (show 225 ≤ x by omega), bifF c5]
  by_cases c6 : x = 240
  · rw [if_pos c6, bifT c6]; rfl
  rw [if_neg c6, bifF c6, bifT (show 241 ≤ x by omega)]
  by_cases c7 : x = 244
  · rw [if_pos c7, bifF (show ¬ x ≤ 243 by omega), bifT c7]; rfl
  rw [if_neg c7]
  by_cases c8 : x ≤ 244
  · rw [if_pos c8, bifT (show x ≤ 243 by omega)]; rfl
  · rw [if_neg c8, bifF (show ¬ x ≤ 243 by omega), bifF c7]; rfl
theorem room_low {x : Nat} (h : 194 ≤ x ∧ x ≤ 223) : roomN x = (128, 191, 2) := by
  unfold roomN
  rw [if_neg (by omega), if_neg (by omega), if_pos (by omega)]
theorem bg2_room (a b : UInt8) : bg2 a b = bif decide (2 ≤ (roomN a.toNat).2.2) then mid b.toNat (roomN a.toNat).1 (roomN a.toNat).2.1 true else false := by
  unfold bg2
  rw [geQ_eq, leQ_eq, segB_eq]
  by_cases h : 194 ≤ a.toNat ∧ a.toNat ≤ 223
  · rw [bifT h.1, bifT h.2, room_low h]; rfl
  · have e : ∀ k : Bool, (bif decide (3 ≤ (roomN a.toNat).2.2) then mid b.toNat (roomN a.toNat).1 (roomN a.toNat).2.1 k else false) = bif decide (2 ≤ (roomN a.toNat).2.2) then mid b.toNat (roomN a.toNat).1 (roomN a.toNat).2.1 k else false := fun k => by
      have h2 : (roomN a.toNat).2.2 ≠ 2 := by
        unfold roomN
        repeat' split
        all_goals first | (simp; done) | (simp; omega)
      by_cases h3 : 3 ≤ (roomN a.toNat).2.2
      · rw [bifT h3, bifT (by omega)]
      · rw [bifF h3, bifF (by omega)]
    rw [ra1_room a b true h, e]
    by_cases h1 : 194 ≤ a.toNat
    · rw [bifT h1, bifF (fun h2 => h ⟨h1, h2⟩)]
    · rw [bifF h1]
theorem bg3_room (a b c : UInt8) : bg3 a b c = bif decide (3 ≤ (roomN a.toNat).2.2) then mid b.toNat (roomN a.toNat).1 (roomN a.toNat).2.1 (mid c.toNat 128 191 true) else false := by
  unfold bg3
  rw [geQ_eq, leQ_eq, segB_eq]
  by_cases h : 194 ≤ a.toNat ∧ a.toNat ≤ 223
  · rw [bifT h.1, bifT h.2, room_low h]; rfl
  · rw [ra1_room a b _ h]
    by_cases h1 : 194 ≤ a.toNat
    · rw [bifT h1, bifF (fun h2 => h ⟨h1, h2⟩)]
    · rw [bifF h1]
theorem u8_ext {a : UInt8} {n : Nat} (h : a.toNat = n) : UInt8.ofNat n = a := by rw [← h]; simp
theorem whole_enc {s : List UInt8} {n : Nat} (hw : Whole s n) : VI (s.take n) = Int.ofNat (valOf (s.take n)) ∧ encB (valOf (s.take n)) = s.take n := by
  cases hw with
  | one h0 =>
    rename_i b0 t
    show (b0.toNat : Int) = Int.ofNat b0.toNat ∧ encB b0.toNat = [b0]
    exact ⟨rfl, by simp [encB, encN, h0]⟩
  | two h1 h2 h3 h4 =>
    rename_i b0 b1 t
    show V2 b0.toNat b1.toNat = Int.ofNat (r2 b0.toNat b1.toNat) ∧ encB (r2 b0.toNat b1.toNat) = [b0, b1]
    refine ⟨by unfold V2 r2; simp only [Int.ofNat_eq_natCast]; omega, ?_⟩
    unfold encB encN
    rw [if_neg (by unfold r2; omega), if_pos (by unfold r2; omega), List.map_cons, List.map_cons, List.map_nil, u8_ext (show b0.toNat = 192 + r2 b0.toNat b1.toNat / 64 by unfold r2; omega), u8_ext (show b1.toNat = 128 + r2 b0.toNat b1.toNat % 64 by unfold r2; omega)]
  | three h1 h2 h3 h4 h5 h6 =>
    rename_i b0 b1 b2 t
    show V3 b0.toNat b1.toNat b2.toNat = Int.ofNat (r3 b0.toNat b1.toNat b2.toNat) ∧ encB (r3 b0.toNat b1.toNat b2.toNat) = [b0, b1, b2]
    have hlo : 128 ≤ b1.toNat := by split at h3 <;> omega
    have hhi : b1.toNat ≤ 191 := by split at h4 <;> omega
    have h3' : b0.toNat = 224 → 160 ≤ b1.toNat := fun e => by rw [if_pos e] at h3; exact h3
    refine ⟨by unfold V3 r3; simp only [Int.ofNat_eq_natCast]; omega, ?_⟩
    unfold encB encN
    rw [if_neg (by unfold r3; omega), if_neg (by unfold r3; omega), if_pos (by unfold r3; omega), List.map_cons, List.map_cons, List.map_cons, List.map_nil,
      u8_ext (show b0.toNat = 224 + r3 b0.toNat b1.toNat b2.toNat / 4096 by unfold r3; omega), u8_ext (show b1.toNat = 128 + r3 b0.toNat b1.toNat b2.toNat / 64 % 64 by unfold r3; omega), u8_ext (show b2.toNat = 128 + r3 b0.toNat b1.toNat b2.toNat % 64 by unfold r3; omega)]
  | four h1 h2 h3 h4 h5 h6 h7 h8 =>
    rename_i b0 b1 b2 b3 t
    show V4 b0.toNat b1.toNat b2.toNat b3.toNat = Int.ofNat (r4 b0.toNat b1.toNat b2.toNat b3.toNat) ∧ encB (r4 b0.toNat b1.toNat b2.toNat b3.toNat) = [b0, b1, b2, b3]
    have hlo : 128 ≤ b1.toNat := by split at h3 <;> omega
    have hhi : b1.toNat ≤ 191 := by split at h4 <;> omega
    have h3' : b0.toNat = 240 → 144 ≤ b1.toNat := fun e => by rw [if_pos e] at h3; exact h3
    refine ⟨by unfold V4 r4; simp only [Int.ofNat_eq_natCast]; omega, ?_⟩
    unfold encB encN
    rw [if_neg (by unfold r4; omega), if_neg (by unfold r4; omega), if_neg (by unfold r4; omega), List.map_cons, List.map_cons, List.map_cons, List.map_cons, List.map_nil,
      u8_ext (show b0.toNat = 240 + r4 b0.toNat b1.toNat b2.toNat b3.toNat / 262144 by unfold r4; omega), u8_ext (show b1.toNat = 128 + r4 b0.toNat b1.toNat b2.toNat b3.toNat / 4096 % 64 by unfold r4; omega),
      u8_ext (show b2.toNat = 128 + r4 b0.toNat b1.toNat b2.toNat b3.toNat / 64 % 64 by unfold r4; omega), u8_ext (show b3.toNat = 128 + r4 b0.toNat b1.toNat b2.toNat b3.toNat % 64 by unfold r4; omega)]
theorem valid_scal {c : Nat} (h : valid c) : scal (Int.ofNat c) = true := by
  unfold valid at h
  simp only [scal, Bool.and_eq_true, Bool.or_eq_true, decide_eq_true_eq, Int.ofNat_eq_natCast]
  omega
theorem whole_wholeB {s : List UInt8} {n : Nat} (hw : Whole s n) : wholeB (s.take n) = true := by
  obtain ⟨h1, h2⟩ := whole_enc hw
  unfold wholeB
  rw [h1, valid_scal (whole_valid hw)]
  show beqB (encB (valOf (s.take n))) (s.take n) = true
  rw [h2]; exact beqB_iff.2 rfl
theorem whole_le {s : List UInt8} {n : Nat} (hw : Whole s n) : 1 ≤ n ∧ n ≤ 4 ∧ n ≤ s.length := by
  cases hw <;> simp
/-- a beginning that is whole is the one that is read -/
theorem wholeB_is {s : List UInt8} {k : Nat} (h : wholeB (s.take k) = true) (hk : k ≤ s.length) : (nxt s).2 = (k, true) := by
  have := wholeB_nxt h (s.drop k)
  rw [List.take_append_drop] at this
  rw [this]; simp only [List.length_take]; rw [Nat.min_eq_left hk]
theorem fnd_hit {s : List UInt8} {n : Nat} (hn : n ≤ 4) (hl : n ≤ s.length) (hw : wholeB (s.take n) = true) : ∀ {f k : Nat}, 1 ≤ k → k ≤ n → n < k + f → fndN s f k = n
  | 0, k, _, h1, h2 => by omega
  | f + 1, k, h0, h1, h2 => by
    rw [fndN, if_pos ⟨by omega, by omega⟩]
    by_cases e : k = n
    · subst e; rw [hw]; rfl
    · cases hk : wholeB (s.take k) with
      | true =>
        have a := wholeB_is hk (by omega)
        have b := wholeB_is hw hl
        rw [a] at b
        exact absurd (Prod.mk.inj b).1 e
      | false => exact fnd_hit hn hl hw (by omega) (by omega) (by omega)
theorem fnd_none {s : List UInt8} (h : (nxt s).2.2 = false) : ∀ {f k : Nat}, 1 ≤ k → fndN s f k = 0
  | 0, _, _ => rfl
  | f + 1, k, hk => by
    rw [fndN]
    by_cases h1 : k ≤ 4 ∧ k ≤ s.length
    · rw [if_pos h1]
      cases hw : wholeB (s.take k) with
      | true => rw [wholeB_is hw h1.2] at h; cases h
      | false => exact fnd_none h (by omega)
    · rw [if_neg h1]
theorem cnt_eq (b : UInt8) (t : List UInt8) (h : contN (b :: t) (roomN b.toNat).2.2 4 (roomN b.toNat).1 (roomN b.toNat).2.1 1 ≠ (roomN b.toNat).2.2) :
    cntB (b :: t) 2 1 = contN (b :: t) (roomN b.toNat).2.2 4 (roomN b.toNat).1 (roomN b.toNat).2.1 1 := by
  have hall := room_all b.toNat
  have g2 : ∀ x, bg2 b x = _ := fun x => bg2_room b x
  have g3 : ∀ x y, bg3 b x y = _ := fun x y => bg3_room b x y
  generalize roomN b.toNat = r at *
  obtain ⟨lo, hi, all⟩ := r
  simp only at hall g2 g3 h ⊢
  cases t with
  | nil =>
    have e1 : contN [b] all 4 lo hi 1 = 1 := by unfold contN; rw [if_neg (fun h => absurd h.2.1 (by simp))]
    have e2 : cntB [b] 2 1 = 1 := by unfold cntB; rw [if_neg (fun h => absurd h.1 (by simp))]
    rw [e1, e2]
  | cons x t =>
    have e2 : cntB (b :: x :: t) 2 1 = bif bg2 b x then cntB (b :: x :: t) 1 2 else 1 := by unfold cntB; rw [if_pos ⟨by simp, by omega⟩]; rfl
    rw [e2, g2]
    have e1 : contN (b :: x :: t) all 4 lo hi 1 = if 1 < all ∧ lo ≤ x.toNat ∧ x.toNat ≤ hi then contN (b :: x :: t) all 3 128 191 2 else 1 := by
      rw [contN]
      by_cases c : 1 < all ∧ lo ≤ x.toNat ∧ x.toNat ≤ hi
      · rw [if_pos c, if_pos ⟨c.1, by simp, c.2.1, c.2.2⟩]
      · rw [if_neg c, if_neg fun h => c ⟨h.1, h.2.2.1, h.2.2.2⟩]
    rw [e1] at h ⊢
    by_cases c : 1 < all ∧ lo ≤ x.toNat ∧ x.toNat ≤ hi
    · rw [if_pos c] at h ⊢
      rw [bifT (show 2 ≤ all from c.1), mid_t c.2.1 c.2.2, cond_true]
      cases t with
      | nil =>
        have e3 : contN [b, x] all 3 128 191 2 = 2 := by unfold contN; rw [if_neg (fun h => absurd h.2.1 (by simp))]
        have e4 : cntB [b, x] 1 2 = 2 := by unfold cntB; rw [if_neg (fun h => absurd h.1 (by simp))]
        rw [e3, e4]
      | cons y t =>
        have e4 : cntB (b :: x :: y :: t) 1 2 = bif bg3 b x y then 3 else 2 := by unfold cntB; rw [if_pos ⟨by simp, by omega⟩]; rfl
        rw [e4, g3]
        have e3 : contN (b :: x :: y :: t) all 3 128 191 2 = if 2 < all ∧ 128 ≤ y.toNat ∧ y.toNat ≤ 191 then contN (b :: x :: y :: t) all 2 128 191 3 else 2 := by
          rw [contN]
          by_cases c : 2 < all ∧ 128 ≤ y.toNat ∧ y.toNat ≤ 191
          · rw [if_pos c, if_pos ⟨c.1, by simp, c.2.1, c.2.2⟩]
          · rw [if_neg c, if_neg fun h => c ⟨h.1, h.2.2.1, h.2.2.2⟩]
        rw [e3] at h ⊢
        by_cases c3 : 2 < all ∧ 128 ≤ y.toNat ∧ y.toNat ≤ 191
        · rw [if_pos c3] at h ⊢
          rw [bifT (show 3 ≤ all from c3.1), mid_t c.2.1 c.2.2, mid_t c3.2.1 c3.2.2, cond_true]
          have h5 : ∀ f lo hi, contN (b :: x :: y :: t) all f lo hi 3 ≤ 4 := by
            intro f lo hi
            cases f with
            | zero => show 3 ≤ 4; omega
            | succ f =>
              rw [contN]
              split
              · cases f with
                | zero => show 4 ≤ 4; omega
                | succ f => rw [contN, if_neg (by omega)]; omega
              · omega
          have h6 := contN_ge (s := b :: x :: y :: t) (all := all) (f := 2) (lo := 128) (hi := 191) (n := 3)
          by_cases e : contN (b :: x :: y :: t) all 2 128 191 3 = 3
          · exact e.symm
          · exfalso
            have h7 := h5 2 128 191
            have h8 : all = 4 := by
              rw [contN] at e
              split at e
              · rename_i q; omega
              · exact absurd rfl e
            omega
        · rw [if_neg c3] at h ⊢
          have : (bif decide (3 ≤ all) then mid x.toNat lo hi (mid y.toNat 128 191 true) else false) = false := by
            by_cases c4 : 3 ≤ all
            · rw [bifT c4, mid_t c.2.1 c.2.2]; exact mid_f fun h => c3 ⟨c4, h.1, h.2⟩
            · exact bifF c4
          rw [this]; rfl
    · rw [if_neg c] at h ⊢
      have : (bif decide (2 ≤ all) then mid x.toNat lo hi true else false) = false := by
        by_cases c4 : 2 ≤ all
        · rw [bifT c4]; exact mid_f fun h => c ⟨c4, h.1, h.2⟩
        · exact bifF c4
      rw [this]; rfl
theorem rnx_eq (b : UInt8) (t : List UInt8) : rnx (b :: t) = nxtV (nxt (b :: t)) := by
  by_cases e : contN (b :: t) (roomN b.toNat).2.2 4 (roomN b.toNat).1 (roomN b.toNat).2.1 1 = (roomN b.toNat).2.2
  · have hw := whole_of e
    have hx : nxt (b :: t) = (valOf ((b :: t).take (roomN b.toNat).2.2), (roomN b.toNat).2.2, true) := by
      unfold nxt; simp only [e, beq_same, cond_true]
    obtain ⟨h1, h2, h3⟩ := whole_le hw
    have hf := fnd_hit h2 h3 (whole_wholeB hw) (f := 4) (k := 1) (by omega) h1 (by omega)
    unfold rnx
    rw [hf, beq_ne (by omega), hx, (whole_enc hw).1]
    rfl
  · have hx : nxt (b :: t) = (65533, contN (b :: t) (roomN b.toNat).2.2 4 (roomN b.toNat).1 (roomN b.toNat).2.1 1, false) := by
      unfold nxt; simp only [beq_ne e, cond_false]
    have hf := fnd_none (s := b :: t) (by rw [hx]) (f := 4) (k := 1) (by omega)
    unfold rnx
    rw [hf, hx, cnt_eq b t e]
    rfl
theorem rnextN_T (b : UInt8) (t : List UInt8) (h : Heap) : CallT P kF15 [.str (b :: t)] h (.ret (nxtV (nxt (b :: t))) h none) := by rw [← rnx_eq]; exact rnext_T b t h
end Go.Proofs.YtbdpfpjpmilpbaaGreatDoor

namespace Go.Proofs.YtbdpfpjpmilpbaaGreatDoor
open Go Go.Rk
set_option maxRecDepth 1000000
set_option linter.unusedVariables false
set_option linter.unusedSimpArgs false
set_option linter.constructorNameAsVariable false
set_option linter.unusedSectionVars false
/-! the document's answer: the scalars of a text, and the text of scalars -/
abbrev E8 (s : List UInt8) (v : AV) : T := envOf [(0, .str s), (2, .slice0), (3, v)]
noncomputable abbrev H8 (cs : List AV) (g : Nat) : Heap := heapOf oB4 ((oB3, .cells cs tY21 g 0 false) :: tabs)
abbrev v8 (g : Nat) : AV := .slice oB3 g 0 (g + 1) (g + 1) 1 false
abbrev K8 : Keep := (oB3, some []) :: KT
theorem s8a (b : UInt8) (t : List UInt8) : Trip P 23 (lp cF8 0) (E8 (b :: t) .slice0) H2 d0 (.nrm (E8 ((b :: t).drop (nxt (b :: t)).2.1) (v8 0)) (H8 [i32 (Int.ofNat (nxt (b :: t)).1)] 0) d0) :=
  trip_shed hF (by rfl) [(11, .c (.ret (nxtV (nxt (b :: t))) H2 none)), (21, .u .undef)] oB4 K8 [0, 2, 3]
    (ofK (b := CallI P kF15 [.str (b :: t)] H2 (.ret (nxtV (nxt (b :: t))) H2 none) ∧ (nxt (b :: t)).2.1 ≤ (b :: t).length ∧ (true = true ∧ true = true ∧ true = true ∧ true = true ∧ True) ∧
        XR.nrm (E8 ((b :: t).drop (nxt (b :: t)).2.1) (v8 0)) (H8 [i32 (Int.ofNat (nxt (b :: t)).1)] 0) d0 = .nrm (E8 ((b :: t).drop (nxt (b :: t)).2.1) (v8 0)) (H8 [i32 (Int.ofNat (nxt (b :: t)).1)] 0) d0) (by kernel_rfl)
      ⟨⟨rnextN_T _ _ _⟩, nxt_le _, ⟨rfl, rfl, rfl, rfl, trivial⟩, rfl⟩)
theorem s8b (b : UInt8) (t : List UInt8) (cs : List AV) (g : Nat) (hl : cs.length = g + 1) (hg : g ≤ 10000000) (hb : belowVs oB4 cs = true) :
    Trip P 23 (lp cF8 0) (E8 (b :: t) (v8 g)) (H8 cs g) d0 (.nrm (E8 ((b :: t).drop (nxt (b :: t)).2.1) (v8 (g + 1))) (H8 (cs ++ [i32 (Int.ofNat (nxt (b :: t)).1)]) (g + 1)) d0) :=
  trip_shed hF (by rfl) [(11, .c (.ret (nxtV (nxt (b :: t))) (H8 cs g) none)), (18, .u .undef), (21, .u .undef)] oB4 K8 [0, 2, 3]
    (ofK (b := CallI P kF15 [.str (b :: t)] (H8 cs g) (.ret (nxtV (nxt (b :: t))) (H8 cs g) none) ∧
        ((0 = 0 ∧ 1 ≤ 1) ∧ g + 1 < g + 1 + 1 ∧ (g + 1 + 1) * 5 ≤ 274877906944 ∧ 1 = 1 ∧ g = g ∧ 0 + (g + 1) * 1 = cs.length ∧ tY21 = tY21 ∧ 0 ≤ cs.length ∧ true = true) ∧
        (nxt (b :: t)).2.1 ≤ (b :: t).length ∧ (true = true ∧ belowVs oB4 (cs ++ [i32 (Int.ofNat (nxt (b :: t)).1)]) = true ∧ true = true ∧ true = true ∧ True) ∧
        XR.nrm (E8 ((b :: t).drop (nxt (b :: t)).2.1) (v8 (g + 1))) (H8 (cs ++ [i32 (Int.ofNat (nxt (b :: t)).1)]) (g + 1)) d0 = .nrm (E8 ((b :: t).drop (nxt (b :: t)).2.1) (v8 (g + 1))) (H8 (cs ++ [i32 (Int.ofNat (nxt (b :: t)).1)]) (g + 1)) d0) (by kernel_rfl)
      ⟨⟨rnextN_T _ _ _⟩, ⟨⟨rfl, Nat.le_refl _⟩, by omega, by omega, rfl, rfl, by omega, rfl, Nat.zero_le _, rfl⟩, nxt_le _, ⟨rfl, below_app hb rfl, rfl, rfl, trivial⟩, rfl⟩)
theorem s8c (cs : List AV) (g : Nat) (hb : belowVs oB4 cs = true) : Trip P 23 (lp cF8 0) (E8 [] (v8 g)) (H8 cs g) d0 (.exit 0 (E8 [] (v8 g)) (H8 cs g) d0) :=
  trip_shed hF (by rfl) [] oB4 K8 [0, 2, 3]
    (ofK (b := (true = true ∧ belowVs oB4 cs = true ∧ true = true ∧ true = true ∧ True) ∧ XR.exit 0 (E8 [] (v8 g)) (H8 cs g) d0 = .exit 0 (E8 [] (v8 g)) (H8 cs g) d0) (by kernel_rfl) ⟨⟨rfl, hb, rfl, rfl, trivial⟩, rfl⟩)
theorem s8d : Trip P 23 (lp cF8 0) (E8 [] .slice0) H2 d0 (.exit 0 (E8 [] .slice0) H2 d0) :=
  trip_shed hF (by rfl) [] oB2 KT [0, 2, 3]
    (ofK (b := (true = true ∧ true = true ∧ true = true ∧ True) ∧ XR.exit 0 (E8 [] .slice0) H2 d0 = .exit 0 (E8 [] .slice0) H2 d0) (by kernel_rfl) ⟨⟨rfl, rfl, rfl, trivial⟩, rfl⟩)
structure St8 where
  f : Nat
  s : List UInt8
  cs : List AV
  g : Nat
  hf : s.length ≤ f
  hl : cs.length = g + 1
  hg : g + f ≤ 10000000
  hb : belowVs oB4 cs = true
theorem loop8 : ∀ x : St8, TripL P 23 (lp cF8 0) (E8 x.s (v8 x.g)) (H8 x.cs x.g) d0 (.exit 0 (E8 [] (v8 (x.g + (decF x.f x.s).length))) (H8 (x.cs ++ runeV (decF x.f x.s)) (x.g + (decF x.f x.s).length)) d0) := by
  refine TripL.fam (fun (x : St8) => E8 x.s (v8 x.g)) (fun (x : St8) => H8 x.cs x.g) d0 (fun (x : St8) => .exit 0 (E8 [] (v8 (x.g + (decF x.f x.s).length))) (H8 (x.cs ++ runeV (decF x.f x.s)) (x.g + (decF x.f x.s).length)) d0) (fun x => x.f) fun ⟨f, s, cs, g, hf, hl, hg, hb⟩ => ?_
  simp only
  cases s with
  | nil =>
    have : decF f [] = [] := by cases f <;> rfl
    rw [this]
    simp only [runeV, List.map_nil, List.append_nil, List.length_nil, Nat.add_zero]
    exact .inl ⟨rfl, s8c cs g hb⟩
  | cons b t =>
    cases f with
    | zero => simp at hf
    | succ f =>
      have h1 := nxt_pos b t
      have h2 := nxt_le (b :: t)
      refine .inr ⟨⟨f, (b :: t).drop (nxt (b :: t)).2.1, cs ++ [i32 (Int.ofNat (nxt (b :: t)).1)], g + 1, ?_, by simp [hl], by omega, below_app hb rfl⟩, by simp, ?_, s8b b t cs g hl (by omega) hb⟩
      · simp only [List.length_drop]; simp only [List.length_cons] at hf h2 ⊢; omega
      · have e : g + 1 + (decF f ((b :: t).drop (nxt (b :: t)).2.1)).length = g + (decF (f + 1) (b :: t)).length := by rw [decF, List.length_cons]; omega
        simp only
        rw [e]
        simp only [decF, runeV, List.map_cons, List.append_assoc, List.singleton_append, List.length_cons, List.cons_append, List.nil_append]
theorem rdecode_nil (h : Heap) : CallT P kF8 [.str []] h (.ret .slice0 h none) :=
  pure_hC tabOK hF (by rfl) (by rfl) [(99, .l [0, 2, 3] (.exit 0 (E8 [] .slice0) H2 d0))] dF8 (by kernel_rfl)
    (ofK (b := TripI P 23 (.loop (lp cF8 0)) (E8 [] .slice0) H2 d0 (.exit 0 (E8 [] .slice0) H2 d0) ∧ AV.slice0 = .slice0) (by kernel_rfl) ⟨⟨(TripL.stop rfl s8d).trip⟩, rfl⟩) h
theorem rdecode_T (b : UInt8) (t : List UInt8) (hlen : (b :: t).length ≤ 1000000) (h : Heap) : CallT P kF8 [.str (b :: t)] h (.ret (.slice h.next 0 0 (decL (b :: t)).length (decL (b :: t)).length 1 false) (h.new (.cells (runeV (decL (b :: t))) tY21 0 0 false)) none) := by
  have h1 := nxt_pos b t
  have h2 := nxt_le (b :: t)
  have hl := loop8 ⟨t.length, (b :: t).drop (nxt (b :: t)).2.1, [i32 (Int.ofNat (nxt (b :: t)).1)], 0, by simp only [List.length_drop, List.length_cons] at h2 ⊢; omega, rfl, by simp only [List.length_cons] at hlen; omega, rfl⟩
  simp only at hl
  have hd : decL (b :: t) = (nxt (b :: t)).1 :: decF t.length ((b :: t).drop (nxt (b :: t)).2.1) := rfl
  have e1 : [i32 (Int.ofNat (nxt (b :: t)).1)] ++ runeV (decF t.length ((b :: t).drop (nxt (b :: t)).2.1)) = runeV (decL (b :: t)) := by rw [hd]; rfl
  have e2 : 0 + (decF t.length ((b :: t).drop (nxt (b :: t)).2.1)).length = (decL (b :: t)).length - 1 := by rw [hd]; simp
  rw [e1, e2] at hl
  have hT := (TripL.next (s8a b t) hl).trip
  have hp := decL_pos b t
  generalize hg : (decL (b :: t)).length - 1 = g at *
  generalize hcs : runeV (decL (b :: t)) = cs at *
  have hpl : plainVs cs = true := by rw [← hcs]; exact runeV_plain
  have hc : CallT P kF8 [.str (b :: t)] (hpT P) (.ret (v8 g) (H8 cs g) none) :=
    callT_hC hF [(99, .l [0, 2, 3] (.exit 0 (E8 [] (v8 g)) (H8 cs g) d0))] dF8 (c := bodyOf cF8) (by kernel_rfl) (by kernel_rfl) (by kernel_rfl) (by kernel_rfl)
      (ofK (b := TripI P 23 (.loop (lp cF8 0)) (E8 (b :: t) .slice0) H2 d0 (.exit 0 (E8 [] (v8 g)) (H8 cs g) d0) ∧ CR.ret (v8 g) (H8 cs g) none = .ret (v8 g) (H8 cs g) none) (by kernel_rfl) ⟨⟨hT⟩, rfl⟩)
  have := callT_new tabOK (b := oB3) (g := g) (ty := tY21) (fz := 0) (s := false) (cs := cs) (by rfl) hc (by simp [onlyV]) (Nat.le_of_ble_eq_true (by kernel_rfl)) (by kernel_rfl) hpl h
  have e : g + 1 = (decL (b :: t)).length := by omega
  have this' : CallT P kF8 [.str (b :: t)] h (.ret (.slice h.next 0 0 (g + 1) (g + 1) 1 false) (h.new (.cells cs tY21 0 0 false)) none) := this
  rw [e] at this'
  exact this'
end Go.Proofs.YtbdpfpjpmilpbaaGreatDoor
