/-
  A step of the proof of this seat's statement. No condition.
-/
import Derived.Test.YtlmpigpkdelopaaDoorPE
namespace Go.Proofs.YtlmpigpkdelopaaDoor
open Go Go.Rk
set_option maxRecDepth 1000000
set_option linter.unusedVariables false
set_option linter.unusedSimpArgs false
set_option linter.constructorNameAsVariable false
set_option linter.unusedSectionVars false
/-! the document's next scalar is the program's -/
theorem geQ_eq (a : UInt8) (n : Nat) : geQ a n = decide (n ≤ a.toNat) := by
  by_cases h : n ≤ a.toNat
  · rw [decide_eq_true h]; unfold geQ; rw [ltF h]; rfl
  · rw [decide_eq_false h]; unfold geQ; rw [ltT (by omega)]; rfl
theorem leQ_eq (a : UInt8) (n : Nat) : leQ a n = decide (a.toNat ≤ n) := by
  by_cases h : a.toNat ≤ n
  · rw [decide_eq_true h]; unfold leQ; rw [ltF h]; rfl
  · rw [decide_eq_false h]; unfold leQ; rw [ltT (by omega)]; rfl
theorem eqQ_eq (a : UInt8) (n : Nat) : eqQ a n = decide (a.toNat = n) := by
  unfold eqQ; rw [eqN]
def mid (x lo hi : Nat) (k : Bool) : Bool := bif decide (lo ≤ x) then (bif decide (x ≤ hi) then k else false) else false
theorem segB_eq (lo hi : Nat) (b : UInt8) (k : Bool) : segB lo hi b k = mid b.toNat lo hi k := by unfold segB mid; rw [geQ_eq, leQ_eq]
theorem mid_t {x lo hi : Nat} {k : Bool} (h1 : lo ≤ x) (h2 : x ≤ hi) : mid x lo hi k = k := by unfold mid; rw [decide_eq_true h1, decide_eq_true h2]; rfl
theorem mid_f {x lo hi : Nat} {k : Bool} (h : ¬ (lo ≤ x ∧ x ≤ hi)) : mid x lo hi k = false := by
  unfold mid
  by_cases h1 : lo ≤ x
  · rw [decide_eq_true h1, decide_eq_false (fun h2 => h ⟨h1, h2⟩)]; rfl
  · rw [decide_eq_false h1]; rfl
theorem bifT {p : Prop} [Decidable p] {α : Type} {a b : α} (h : p) : (bif decide p then a else b) = a := by rw [decide_eq_true h]; rfl
theorem bifF {p : Prop} [Decidable p] {α : Type} {a b : α} (h : ¬ p) : (bif decide p then a else b) = b := by rw [decide_eq_false h]; rfl
theorem ra1_room (a b : UInt8) (k : Bool) (h : ¬ (194 ≤ a.toNat ∧ a.toNat ≤ 223)) :
    ra1 a b k = bif decide (3 ≤ (roomN a.toNat).2.2) then mid b.toNat (roomN a.toNat).1 (roomN a.toNat).2.1 k else false := by
  unfold ra1 ra2 ra3 sub1 sub2 sub3
  simp only [segB_eq, geQ_eq, leQ_eq, eqQ_eq]
  generalize a.toNat = x at *
  generalize b.toNat = y
  unfold roomN
  by_cases c1 : x < 128
  · rw [if_pos c1, bifF (show ¬ x = 224 by omega), bifF (show ¬ x = 237 by omega), bifF (show ¬ 225 ≤ x by omega), bifF (show ¬ x = 240 by omega), bifF (show ¬ 241 ≤ x by omega), bifF (show ¬ x = 244 by omega)]; rfl
  rw [if_neg c1]
  by_cases c2 : x < 194
  · rw [if_pos c2, bifF (show ¬ x = 224 by omega), bifF (show ¬ x = 237 by omega), bifF (show ¬ 225 ≤ x by omega), bifF (show ¬ x = 240 by omega), bifF (show ¬ 241 ≤ x by omega), bifF (show ¬ x = 244 by omega)]; rfl
  rw [if_neg c2, if_neg (show ¬ x ≤ 223 by omega)]
  by_cases c3 : x = 224
  · rw [if_pos c3, bifT c3]; rfl
  rw [if_neg c3, bifF c3]
  by_cases c4 : x = 237
  · rw [if_pos c4, bifT c4]; rfl
  rw [if_neg c4, bifF c4]
  by_cases c5 : x ≤ 239
  · rw [if_pos c5, bifT (show 225 ≤ x by omega), bifT c5]; rfl
  rw [if_neg c5, bifT (show 225 ≤ x by omega), bifF c5]
  by_cases c6 : x = 240
  · rw [if_pos c6, bifT c6]; rfl
  rw [if_neg c6, bifF c6, bifT (show 241 ≤ x by omega)]
  by_cases c7 : x = 244
  · rw [if_pos c7, bifF (show ¬ x ≤ 243 by omega), bifT c7]; rfl
  rw [if_neg c7]
  by_cases c8 : x ≤ 244
  · rw [if_pos c8, bifT (show x ≤ 243 by omega)]; rfl
  · rw [if_neg c8, bifF (show ¬ x ≤ 243 by omega), bifF c7]; rfl
theorem room_low {x : Nat} (h : 194 ≤ x ∧ x ≤ 223) : roomN x = (128, 191, 2) := by
  unfold roomN
  rw [if_neg (by omega), if_neg (by omega), if_pos (by omega)]
theorem bg2_room (a b : UInt8) : bg2 a b = bif decide (2 ≤ (roomN a.toNat).2.2) then mid b.toNat (roomN a.toNat).1 (roomN a.toNat).2.1 true else false := by
  unfold bg2
  rw [geQ_eq, leQ_eq, segB_eq]
  by_cases h : 194 ≤ a.toNat ∧ a.toNat ≤ 223
  · rw [bifT h.1, bifT h.2, room_low h]; rfl
  · have e : ∀ k : Bool, (bif decide (3 ≤ (roomN a.toNat).2.2) then mid b.toNat (roomN a.toNat).1 (roomN a.toNat).2.1 k else false) = bif decide (2 ≤ (roomN a.toNat).2.2) then mid b.toNat (roomN a.toNat).1 (roomN a.toNat).2.1 k else false := fun k => by
      have h2 : (roomN a.toNat).2.2 ≠ 2 := by
        unfold roomN
        repeat' split
        all_goals first | (simp; done) | (simp; omega)
      by_cases h3 : 3 ≤ (roomN a.toNat).2.2
      · rw [bifT h3, bifT (by omega)]
      · rw [bifF h3, bifF (by omega)]
    rw [ra1_room a b true h, e]
    by_cases h1 : 194 ≤ a.toNat
    · rw [bifT h1, bifF (fun h2 => h ⟨h1, h2⟩)]
    · rw [bifF h1]
theorem bg3_room (a b c : UInt8) : bg3 a b c = bif decide (3 ≤ (roomN a.toNat).2.2) then mid b.toNat (roomN a.toNat).1 (roomN a.toNat).2.1 (mid c.toNat 128 191 true) else false := by
  unfold bg3
  rw [geQ_eq, leQ_eq, segB_eq]
  by_cases h : 194 ≤ a.toNat ∧ a.toNat ≤ 223
  · rw [bifT h.1, bifT h.2, room_low h]; rfl
  · rw [ra1_room a b _ h]
    by_cases h1 : 194 ≤ a.toNat
    · rw [bifT h1, bifF (fun h2 => h ⟨h1, h2⟩)]
    · rw [bifF h1]
theorem u8_ext {a : UInt8} {n : Nat} (h : a.toNat = n) : UInt8.ofNat n = a := by rw [← h]; simp
theorem whole_enc {s : List UInt8} {n : Nat} (hw : Whole s n) : VI (s.take n) = Int.ofNat (valOf (s.take n)) ∧ encB (valOf (s.take n)) = s.take n := by
  cases hw with
  | one h0 =>
    rename_i b0 t
    show (b0.toNat : Int) = Int.ofNat b0.toNat ∧ encB b0.toNat = [b0]
    exact ⟨rfl, by simp [encB, encN, h0]⟩
  | two h1 h2 h3 h4 =>
    rename_i b0 b1 t
    show V2 b0.toNat b1.toNat = Int.ofNat (r2 b0.toNat b1.toNat) ∧ encB (r2 b0.toNat b1.toNat) = [b0, b1]
    refine ⟨by unfold V2 r2; simp only [Int.ofNat_eq_natCast]; omega, ?_⟩
    unfold encB encN
    rw [if_neg (by unfold r2; omega), if_pos (by unfold r2; omega), List.map_cons, List.map_cons, List.map_nil, u8_ext (show b0.toNat = 192 + r2 b0.toNat b1.toNat / 64 by unfold r2; omega), u8_ext (show b1.toNat = 128 + r2 b0.toNat b1.toNat % 64 by unfold r2; omega)]
  | three h1 h2 h3 h4 h5 h6 =>
    rename_i b0 b1 b2 t
    show V3 b0.toNat b1.toNat b2.toNat = Int.ofNat (r3 b0.toNat b1.toNat b2.toNat) ∧ encB (r3 b0.toNat b1.toNat b2.toNat) = [b0, b1, b2]
    have hlo : 128 ≤ b1.toNat := by split at h3 <;> omega
    have hhi : b1.toNat ≤ 191 := by split at h4 <;> omega
    have h3' : b0.toNat = 224 → 160 ≤ b1.toNat := fun e => by rw [if_pos e] at h3; exact h3
    refine ⟨by unfold V3 r3; simp only [Int.ofNat_eq_natCast]; omega, ?_⟩
    unfold encB encN
    rw [if_neg (by unfold r3; omega), if_neg (by unfold r3; omega), if_pos (by unfold r3; omega), List.map_cons, List.map_cons, List.map_cons, List.map_nil,
      u8_ext (show b0.toNat = 224 + r3 b0.toNat b1.toNat b2.toNat / 4096 by unfold r3; omega), u8_ext (show b1.toNat = 128 + r3 b0.toNat b1.toNat b2.toNat / 64 % 64 by unfold r3; omega), u8_ext (show b2.toNat = 128 + r3 b0.toNat b1.toNat b2.toNat % 64 by unfold r3; omega)]
  | four h1 h2 h3 h4 h5 h6 h7 h8 =>
    rename_i b0 b1 b2 b3 t
    show V4 b0.toNat b1.toNat b2.toNat b3.toNat = Int.ofNat (r4 b0.toNat b1.toNat b2.toNat b3.toNat) ∧ encB (r4 b0.toNat b1.toNat b2.toNat b3.toNat) = [b0, b1, b2, b3]
    have hlo : 128 ≤ b1.toNat := by split at h3 <;> omega
    have hhi : b1.toNat ≤ 191 := by split at h4 <;> omega
    have h3' : b0.toNat = 240 → 144 ≤ b1.toNat := fun e => by rw [if_pos e] at h3; exact h3
    refine ⟨by unfold V4 r4; simp only [Int.ofNat_eq_natCast]; omega, ?_⟩
    unfold encB encN
    rw [if_neg (by unfold r4; omega), if_neg (by unfold r4; omega), if_neg (by unfold r4; omega), List.map_cons, List.map_cons, List.map_cons, List.map_cons, List.map_nil,
      u8_ext (show b0.toNat = 240 + r4 b0.toNat b1.toNat b2.toNat b3.toNat / 262144 by unfold r4; omega), u8_ext (show b1.toNat = 128 + r4 b0.toNat b1.toNat b2.toNat b3.toNat / 4096 % 64 by unfold r4; omega),
      u8_ext (show b2.toNat = 128 + r4 b0.toNat b1.toNat b2.toNat b3.toNat / 64 % 64 by unfold r4; omega), u8_ext (show b3.toNat = 128 + r4 b0.toNat b1.toNat b2.toNat b3.toNat % 64 by unfold r4; omega)]
theorem valid_scal {c : Nat} (h : valid c) : scal (Int.ofNat c) = true := by
  unfold valid at h
  simp only [scal, Bool.and_eq_true, Bool.or_eq_true, decide_eq_true_eq, Int.ofNat_eq_natCast]
  omega
theorem whole_wholeB {s : List UInt8} {n : Nat} (hw : Whole s n) : wholeB (s.take n) = true := by
  obtain ⟨h1, h2⟩ := whole_enc hw
  unfold wholeB
  rw [h1, valid_scal (whole_valid hw)]
  show beqB (encB (valOf (s.take n))) (s.take n) = true
  rw [h2]; exact beqB_iff.2 rfl
theorem whole_le {s : List UInt8} {n : Nat} (hw : Whole s n) : 1 ≤ n ∧ n ≤ 4 ∧ n ≤ s.length := by
  cases hw <;> simp
/-- a beginning that is whole is the one that is read -/
theorem wholeB_is {s : List UInt8} {k : Nat} (h : wholeB (s.take k) = true) (hk : k ≤ s.length) : (nxt s).2 = (k, true) := by
  have := wholeB_nxt h (s.drop k)
  rw [List.take_append_drop] at this
  rw [this]; simp only [List.length_take]; rw [Nat.min_eq_left hk]
theorem fnd_hit {s : List UInt8} {n : Nat} (hn : n ≤ 4) (hl : n ≤ s.length) (hw : wholeB (s.take n) = true) : ∀ {f k : Nat}, 1 ≤ k → k ≤ n → n < k + f → fndN s f k = n
  | 0, k, _, h1, h2 => by omega
  | f + 1, k, h0, h1, h2 => by
    rw [fndN, if_pos ⟨by omega, by omega⟩]
    by_cases e : k = n
    · subst e; rw [hw]; rfl
    · cases hk : wholeB (s.take k) with
      | true =>
        have a := wholeB_is hk (by omega)
        have b := wholeB_is hw hl
        rw [a] at b
        exact absurd (Prod.mk.inj b).1 e
      | false => exact fnd_hit hn hl hw (by omega) (by omega) (by omega)
theorem fnd_none {s : List UInt8} (h : (nxt s).2.2 = false) : ∀ {f k : Nat}, 1 ≤ k → fndN s f k = 0
  | 0, _, _ => rfl
  | f + 1, k, hk => by
    rw [fndN]
    by_cases h1 : k ≤ 4 ∧ k ≤ s.length
    · rw [if_pos h1]
      cases hw : wholeB (s.take k) with
      | true => rw [wholeB_is hw h1.2] at h; cases h
      | false => exact fnd_none h (by omega)
    · rw [if_neg h1]
theorem cnt_eq (b : UInt8) (t : List UInt8) (h : contN (b :: t) (roomN b.toNat).2.2 4 (roomN b.toNat).1 (roomN b.toNat).2.1 1 ≠ (roomN b.toNat).2.2) :
    cntB (b :: t) 2 1 = contN (b :: t) (roomN b.toNat).2.2 4 (roomN b.toNat).1 (roomN b.toNat).2.1 1 := by
  have hall := room_all b.toNat
  have g2 : ∀ x, bg2 b x = _ := fun x => bg2_room b x
  have g3 : ∀ x y, bg3 b x y = _ := fun x y => bg3_room b x y
  generalize roomN b.toNat = r at *
  obtain ⟨lo, hi, all⟩ := r
  simp only at hall g2 g3 h ⊢
  cases t with
  | nil =>
    have e1 : contN [b] all 4 lo hi 1 = 1 := by unfold contN; rw [if_neg (fun h => absurd h.2.1 (by simp))]
    have e2 : cntB [b] 2 1 = 1 := by unfold cntB; rw [if_neg (fun h => absurd h.1 (by simp))]
    rw [e1, e2]
  | cons x t =>
    have e2 : cntB (b :: x :: t) 2 1 = bif bg2 b x then cntB (b :: x :: t) 1 2 else 1 := by unfold cntB; rw [if_pos ⟨by simp, by omega⟩]; rfl
    rw [e2, g2]
    have e1 : contN (b :: x :: t) all 4 lo hi 1 = if 1 < all ∧ lo ≤ x.toNat ∧ x.toNat ≤ hi then contN (b :: x :: t) all 3 128 191 2 else 1 := by
      rw [contN]
      by_cases c : 1 < all ∧ lo ≤ x.toNat ∧ x.toNat ≤ hi
      · rw [if_pos c, if_pos ⟨c.1, by simp, c.2.1, c.2.2⟩]
      · rw [if_neg c, if_neg fun h => c ⟨h.1, h.2.2.1, h.2.2.2⟩]
    rw [e1] at h ⊢
    by_cases c : 1 < all ∧ lo ≤ x.toNat ∧ x.toNat ≤ hi
    · rw [if_pos c] at h ⊢
      rw [bifT (show 2 ≤ all from c.1), mid_t c.2.1 c.2.2, cond_true]
      cases t with
      | nil =>
        have e3 : contN [b, x] all 3 128 191 2 = 2 := by unfold contN; rw [if_neg (fun h => absurd h.2.1 (by simp))]
        have e4 : cntB [b, x] 1 2 = 2 := by unfold cntB; rw [if_neg (fun h => absurd h.1 (by simp))]
        rw [e3, e4]
      | cons y t =>
        have e4 : cntB (b :: x :: y :: t) 1 2 = bif bg3 b x y then 3 else 2 := by unfold cntB; rw [if_pos ⟨by simp, by omega⟩]; rfl
        rw [e4, g3]
        have e3 : contN (b :: x :: y :: t) all 3 128 191 2 = if 2 < all ∧ 128 ≤ y.toNat ∧ y.toNat ≤ 191 then contN (b :: x :: y :: t) all 2 128 191 3 else 2 := by
          rw [contN]
          by_cases c : 2 < all ∧ 128 ≤ y.toNat ∧ y.toNat ≤ 191
          · rw [if_pos c, if_pos ⟨c.1, by simp, c.2.1, c.2.2⟩]
          · rw [if_neg c, if_neg fun h => c ⟨h.1, h.2.2.1, h.2.2.2⟩]
        rw [e3] at h ⊢
        by_cases c3 : 2 < all ∧ 128 ≤ y.toNat ∧ y.toNat ≤ 191
        · rw [if_pos c3] at h ⊢
          rw [bifT (show 3 ≤ all from c3.1), mid_t c.2.1 c.2.2, mid_t c3.2.1 c3.2.2, cond_true]
          have h5 : ∀ f lo hi, contN (b :: x :: y :: t) all f lo hi 3 ≤ 4 := by
            intro f lo hi
            cases f with
            | zero => show 3 ≤ 4; omega
            | succ f =>
              rw [contN]
              split
              · cases f with
                | zero => show 4 ≤ 4; omega
                | succ f => rw [contN, if_neg (by omega)]; omega
              · omega
          have h6 := contN_ge (s := b :: x :: y :: t) (all := all) (f := 2) (lo := 128) (hi := 191) (n := 3)
          by_cases e : contN (b :: x :: y :: t) all 2 128 191 3 = 3
          · exact e.symm
          · exfalso
            have h7 := h5 2 128 191
            have h8 : all = 4 := by
              rw [contN] at e
              split at e
              · rename_i q; omega
              · exact absurd rfl e
            omega
        · rw [if_neg c3] at h ⊢
          have : (bif decide (3 ≤ all) then mid x.toNat lo hi (mid y.toNat 128 191 true) else false) = false := by
            by_cases c4 : 3 ≤ all
            · rw [bifT c4, mid_t c.2.1 c.2.2]; exact mid_f fun h => c3 ⟨c4, h.1, h.2⟩
            · exact bifF c4
          rw [this]; rfl
    · rw [if_neg c] at h ⊢
      have : (bif decide (2 ≤ all) then mid x.toNat lo hi true else false) = false := by
        by_cases c4 : 2 ≤ all
        · rw [bifT c4]; exact mid_f fun h => c ⟨c4, h.1, h.2⟩
        · exact bifF c4
      rw [this]; rfl
theorem rnx_eq (b : UInt8) (t : List UInt8) : rnx (b :: t) = nxtV (nxt (b :: t)) := by
  by_cases e : contN (b :: t) (roomN b.toNat).2.2 4 (roomN b.toNat).1 (roomN b.toNat).2.1 1 = (roomN b.toNat).2.2
  · have hw := whole_of e
    have hx : nxt (b :: t) = (valOf ((b :: t).take (roomN b.toNat).2.2), (roomN b.toNat).2.2, true) := by
      unfold nxt; simp only [e, beq_same, cond_true]
    obtain ⟨h1, h2, h3⟩ := whole_le hw
    have hf := fnd_hit h2 h3 (whole_wholeB hw) (f := 4) (k := 1) (by omega) h1 (by omega)
    unfold rnx
    rw [hf, beq_ne (by omega), hx, (whole_enc hw).1]
    rfl
  · have hx : nxt (b :: t) = (65533, contN (b :: t) (roomN b.toNat).2.2 4 (roomN b.toNat).1 (roomN b.toNat).2.1 1, false) := by
      unfold nxt; simp only [beq_ne e, cond_false]
    have hf := fnd_none (s := b :: t) (by rw [hx]) (f := 4) (k := 1) (by omega)
    unfold rnx
    rw [hf, hx, cnt_eq b t e]
    rfl
theorem rnextN_T (b : UInt8) (t : List UInt8) (h : Heap) : CallT P 15 [.str (b :: t)] h (.ret (nxtV (nxt (b :: t))) h none) := by rw [← rnx_eq]; exact rnext_T b t h
end Go.Proofs.YtlmpigpkdelopaaDoor

namespace Go.Proofs.YtlmpigpkdelopaaDoor
open Go Go.Rk
set_option maxRecDepth 1000000
set_option linter.unusedVariables false
set_option linter.unusedSimpArgs false
set_option linter.constructorNameAsVariable false
set_option linter.unusedSectionVars false
/-! the document's answer: the scalars of a text, and the text of scalars -/
abbrev E8 (s : List UInt8) (v : AV) : T := envOf [(0, .str s), (2, .slice0), (3, v)]
noncomputable abbrev H8 (cs : List AV) (g : Nat) : Heap := heapOf 4 ((3, .cells cs 21 g 0 false) :: tabs)
abbrev v8 (g : Nat) : AV := .slice 3 g 0 (g + 1) (g + 1) 1 false
abbrev K8 : Keep := (3, some []) :: KT
theorem s8a (b : UInt8) (t : List UInt8) : Trip P 23 (lp Tryd.f8 0) (E8 (b :: t) .slice0) H2 d0 (.nrm (E8 ((b :: t).drop (nxt (b :: t)).2.1) (v8 0)) (H8 [i32 (Int.ofNat (nxt (b :: t)).1)] 0) d0) :=
  trip_shed hF (by rfl) [(11, .c (.ret (nxtV (nxt (b :: t))) H2 none)), (21, .u .undef)] 4 K8 [0, 2, 3]
    (ofK (b := CallI P 15 [.str (b :: t)] H2 (.ret (nxtV (nxt (b :: t))) H2 none) ∧ (nxt (b :: t)).2.1 ≤ (b :: t).length ∧ (true = true ∧ true = true ∧ true = true ∧ true = true ∧ True) ∧
        XR.nrm (E8 ((b :: t).drop (nxt (b :: t)).2.1) (v8 0)) (H8 [i32 (Int.ofNat (nxt (b :: t)).1)] 0) d0 = .nrm (E8 ((b :: t).drop (nxt (b :: t)).2.1) (v8 0)) (H8 [i32 (Int.ofNat (nxt (b :: t)).1)] 0) d0) (by kernel_rfl)
      ⟨⟨rnextN_T _ _ _⟩, nxt_le _, ⟨rfl, rfl, rfl, rfl, trivial⟩, rfl⟩)
theorem s8b (b : UInt8) (t : List UInt8) (cs : List AV) (g : Nat) (hl : cs.length = g + 1) (hg : g ≤ 10000000) (hb : belowVs 4 cs = true) :
    Trip P 23 (lp Tryd.f8 0) (E8 (b :: t) (v8 g)) (H8 cs g) d0 (.nrm (E8 ((b :: t).drop (nxt (b :: t)).2.1) (v8 (g + 1))) (H8 (cs ++ [i32 (Int.ofNat (nxt (b :: t)).1)]) (g + 1)) d0) :=
  trip_shed hF (by rfl) [(11, .c (.ret (nxtV (nxt (b :: t))) (H8 cs g) none)), (18, .u .undef), (21, .u .undef)] 4 K8 [0, 2, 3]
    (ofK (b := CallI P 15 [.str (b :: t)] (H8 cs g) (.ret (nxtV (nxt (b :: t))) (H8 cs g) none) ∧
        ((0 = 0 ∧ 1 ≤ 1) ∧ g + 1 < g + 1 + 1 ∧ (g + 1 + 1) * 5 ≤ 274877906944 ∧ 1 = 1 ∧ g = g ∧ 0 + (g + 1) * 1 = cs.length ∧ 21 = 21 ∧ 0 ≤ cs.length ∧ true = true) ∧
        (nxt (b :: t)).2.1 ≤ (b :: t).length ∧ (true = true ∧ belowVs 4 (cs ++ [i32 (Int.ofNat (nxt (b :: t)).1)]) = true ∧ true = true ∧ true = true ∧ True) ∧
        XR.nrm (E8 ((b :: t).drop (nxt (b :: t)).2.1) (v8 (g + 1))) (H8 (cs ++ [i32 (Int.ofNat (nxt (b :: t)).1)]) (g + 1)) d0 = .nrm (E8 ((b :: t).drop (nxt (b :: t)).2.1) (v8 (g + 1))) (H8 (cs ++ [i32 (Int.ofNat (nxt (b :: t)).1)]) (g + 1)) d0) (by kernel_rfl)
      ⟨⟨rnextN_T _ _ _⟩, ⟨⟨rfl, Nat.le_refl _⟩, by omega, by omega, rfl, rfl, by omega, rfl, Nat.zero_le _, rfl⟩, nxt_le _, ⟨rfl, below_app hb rfl, rfl, rfl, trivial⟩, rfl⟩)
theorem s8c (cs : List AV) (g : Nat) (hb : belowVs 4 cs = true) : Trip P 23 (lp Tryd.f8 0) (E8 [] (v8 g)) (H8 cs g) d0 (.exit 0 (E8 [] (v8 g)) (H8 cs g) d0) :=
  trip_shed hF (by rfl) [] 4 K8 [0, 2, 3]
    (ofK (b := (true = true ∧ belowVs 4 cs = true ∧ true = true ∧ true = true ∧ True) ∧ XR.exit 0 (E8 [] (v8 g)) (H8 cs g) d0 = .exit 0 (E8 [] (v8 g)) (H8 cs g) d0) (by kernel_rfl) ⟨⟨rfl, hb, rfl, rfl, trivial⟩, rfl⟩)
theorem s8d : Trip P 23 (lp Tryd.f8 0) (E8 [] .slice0) H2 d0 (.exit 0 (E8 [] .slice0) H2 d0) :=
  trip_shed hF (by rfl) [] 2 KT [0, 2, 3]
    (ofK (b := (true = true ∧ true = true ∧ true = true ∧ True) ∧ XR.exit 0 (E8 [] .slice0) H2 d0 = .exit 0 (E8 [] .slice0) H2 d0) (by kernel_rfl) ⟨⟨rfl, rfl, rfl, trivial⟩, rfl⟩)
structure St8 where
  f : Nat
  s : List UInt8
  cs : List AV
  g : Nat
  hf : s.length ≤ f
  hl : cs.length = g + 1
  hg : g + f ≤ 10000000
  hb : belowVs 4 cs = true
theorem loop8 : ∀ x : St8, TripL P 23 (lp Tryd.f8 0) (E8 x.s (v8 x.g)) (H8 x.cs x.g) d0 (.exit 0 (E8 [] (v8 (x.g + (decF x.f x.s).length))) (H8 (x.cs ++ runeV (decF x.f x.s)) (x.g + (decF x.f x.s).length)) d0) := by
  refine TripL.fam (fun (x : St8) => E8 x.s (v8 x.g)) (fun (x : St8) => H8 x.cs x.g) d0 (fun (x : St8) => .exit 0 (E8 [] (v8 (x.g + (decF x.f x.s).length))) (H8 (x.cs ++ runeV (decF x.f x.s)) (x.g + (decF x.f x.s).length)) d0) (fun x => x.f) fun ⟨f, s, cs, g, hf, hl, hg, hb⟩ => ?_
  simp only
  cases s with
  | nil =>
    have : decF f [] = [] := by cases f <;> rfl
    rw [this]
    simp only [runeV, List.map_nil, List.append_nil, List.length_nil, Nat.add_zero]
    exact .inl ⟨rfl, s8c cs g hb⟩
  | cons b t =>
    cases f with
    | zero => simp at hf
    | succ f =>
      have h1 := nxt_pos b t
      have h2 := nxt_le (b :: t)
      refine .inr ⟨⟨f, (b :: t).drop (nxt (b :: t)).2.1, cs ++ [i32 (Int.ofNat (nxt (b :: t)).1)], g + 1, ?_, by simp [hl], by omega, below_app hb rfl⟩, by simp, ?_, s8b b t cs g hl (by omega) hb⟩
      · simp only [List.length_drop]; simp only [List.length_cons] at hf h2 ⊢; omega
      · have e : g + 1 + (decF f ((b :: t).drop (nxt (b :: t)).2.1)).length = g + (decF (f + 1) (b :: t)).length := by rw [decF, List.length_cons]; omega
        simp only
        rw [e]
        simp only [decF, runeV, List.map_cons, List.append_assoc, List.singleton_append, List.length_cons, List.cons_append, List.nil_append]
theorem rdecode_nil (h : Heap) : CallT P 8 [.str []] h (.ret .slice0 h none) :=
  pure_hC tabOK hF (by rfl) (by rfl) [(99, .l [0, 2, 3] (.exit 0 (E8 [] .slice0) H2 d0))] Tryd.func8 (by kernel_rfl)
    (ofK (b := TripI P 23 (.loop (lp Tryd.f8 0)) (E8 [] .slice0) H2 d0 (.exit 0 (E8 [] .slice0) H2 d0) ∧ AV.slice0 = .slice0) (by kernel_rfl) ⟨⟨(TripL.stop rfl s8d).trip⟩, rfl⟩) h
theorem rdecode_T (b : UInt8) (t : List UInt8) (hlen : (b :: t).length ≤ 1000000) (h : Heap) : CallT P 8 [.str (b :: t)] h (.ret (.slice h.next 0 0 (decL (b :: t)).length (decL (b :: t)).length 1 false) (h.new (.cells (runeV (decL (b :: t))) 21 0 0 false)) none) := by
  have h1 := nxt_pos b t
  have h2 := nxt_le (b :: t)
  have hl := loop8 ⟨t.length, (b :: t).drop (nxt (b :: t)).2.1, [i32 (Int.ofNat (nxt (b :: t)).1)], 0, by simp only [List.length_drop, List.length_cons] at h2 ⊢; omega, rfl, by simp only [List.length_cons] at hlen; omega, rfl⟩
  simp only at hl
  have hd : decL (b :: t) = (nxt (b :: t)).1 :: decF t.length ((b :: t).drop (nxt (b :: t)).2.1) := rfl
  have e1 : [i32 (Int.ofNat (nxt (b :: t)).1)] ++ runeV (decF t.length ((b :: t).drop (nxt (b :: t)).2.1)) = runeV (decL (b :: t)) := by rw [hd]; rfl
  have e2 : 0 + (decF t.length ((b :: t).drop (nxt (b :: t)).2.1)).length = (decL (b :: t)).length - 1 := by rw [hd]; simp
  rw [e1, e2] at hl
  have hT := (TripL.next (s8a b t) hl).trip
  have hp := decL_pos b t
  generalize hg : (decL (b :: t)).length - 1 = g at *
  generalize hcs : runeV (decL (b :: t)) = cs at *
  have hpl : plainVs cs = true := by rw [← hcs]; exact runeV_plain
  have hc : CallT P 8 [.str (b :: t)] (hpT P) (.ret (v8 g) (H8 cs g) none) :=
    callT_hC hF [(99, .l [0, 2, 3] (.exit 0 (E8 [] (v8 g)) (H8 cs g) d0))] Tryd.func8 (c := bodyOf Tryd.f8) (by kernel_rfl) (by kernel_rfl) (by kernel_rfl) (by kernel_rfl)
      (ofK (b := TripI P 23 (.loop (lp Tryd.f8 0)) (E8 (b :: t) .slice0) H2 d0 (.exit 0 (E8 [] (v8 g)) (H8 cs g) d0) ∧ CR.ret (v8 g) (H8 cs g) none = .ret (v8 g) (H8 cs g) none) (by kernel_rfl) ⟨⟨hT⟩, rfl⟩)
  have := callT_new tabOK (b := 3) (g := g) (ty := 21) (fz := 0) (s := false) (cs := cs) (by rfl) hc (by simp [onlyV]) (by rw [show P.globals.size = 2 by kernel_rfl]; omega) (by kernel_rfl) hpl h
  have e : g + 1 = (decL (b :: t)).length := by omega
  have this' : CallT P 8 [.str (b :: t)] h (.ret (.slice h.next 0 0 (g + 1) (g + 1) 1 false) (h.new (.cells cs 21 0 0 false)) none) := this
  rw [e] at this'
  exact this'
/-! text of scalars -/
abbrev E7 (len : Nat) (out : List UInt8) (i : Nat) : T := envOf [(0, .slice 2 0 0 len len 1 false), (2, .str []), (3, .bool false), (4, .str out), (5, i64 i)]
noncomputable abbrev H7 (cs : List AV) (fz : Nat) : Heap := hpOne P cs 21 fz
abbrev K7 : Keep := (2, some []) :: KT
section
variable (cs : List AV) (fz : Nat)
theorem s7a {len i c : Nat} {out bs : List UInt8} (hb : belowVs 3 cs = true) (hi : i < len) (hl : len ≤ 1000000) (hc : cs[0 + i * 1]? = some (i32 (Int.ofNat c))) (h1 : ∀ h, CallT P 13 [i32 (Int.ofNat c)] h (.ret (.bool true) h none)) (h2 : ∀ h, CallT P 14 [i32 (Int.ofNat c)] h (.ret (.str bs) h none))
    (hs : out.length + bs.length ≤ 9223372036854775807) :
    Trip P 26 (lp Tryd.f7 0) (E7 len out i) (H7 cs fz) d0 (.nrm (E7 len (out ++ bs) (i + 1)) (H7 cs fz) d0) :=
  trip_shed hF (by rfl) [(9, .e (.bool true)), (14, .u .undef), (15, .u (i32 (Int.ofNat c))), (16, .c (.ret (.bool true) (H7 cs fz) none)), (21, .u .undef), (22, .u (i32 (Int.ofNat c))), (23, .c (.ret (.str bs) (H7 cs fz) none)), (24, .u .undef), (11, .e (i64 (i + 1)))] 3 K7 [0, 2, 3, 4, 5]
    (ofK (b := AV.bool (ltI (Int.ofNat i) (Int.ofNat len)) = .bool true ∧ i < len ∧ (0 = 0 ∧ cs[0 + i * 1]? = some (i32 (Int.ofNat c))) ∧ CallI P 13 [i32 (Int.ofNat c)] (H7 cs fz) (.ret (.bool true) (H7 cs fz) none) ∧
        i < len ∧ (0 = 0 ∧ cs[0 + i * 1]? = some (i32 (Int.ofNat c))) ∧ CallI P 14 [i32 (Int.ofNat c)] (H7 cs fz) (.ret (.str bs) (H7 cs fz) none) ∧ out.length + bs.length ≤ 9223372036854775807 ∧ AV.int .i64 (wrapF .i64 (Int.ofNat (i + 1))) = i64 (i + 1) ∧
        (true = true ∧ belowVs 3 cs = true ∧ true = true ∧ true = true ∧ True) ∧ XR.nrm (E7 len (out ++ bs) (i + 1)) (H7 cs fz) d0 = .nrm (E7 len (out ++ bs) (i + 1)) (H7 cs fz) d0) (by kernel_rfl)
      ⟨by rw [ltT hi], hi, ⟨rfl, hc⟩, ⟨h1 _⟩, hi, ⟨rfl, hc⟩, ⟨h2 _⟩, hs, by rw [wrapI64 (by omega)], ⟨rfl, hb, rfl, rfl, trivial⟩, rfl⟩)
theorem s7b {len i : Nat} {out : List UInt8} (hb : belowVs 3 cs = true) (hi : ¬ i < len) : Trip P 26 (lp Tryd.f7 0) (E7 len out i) (H7 cs fz) d0 (.exit 0 (E7 len out i) (H7 cs fz) d0) :=
  trip_shed hF (by rfl) [(9, .e (.bool false))] 3 K7 [0, 2, 3, 4, 5]
    (ofK (b := AV.bool (ltI (Int.ofNat i) (Int.ofNat len)) = .bool false ∧ (true = true ∧ belowVs 3 cs = true ∧ true = true ∧ true = true ∧ True) ∧ XR.exit 0 (E7 len out i) (H7 cs fz) d0 = .exit 0 (E7 len out i) (H7 cs fz) d0) (by kernel_rfl)
      ⟨by rw [ltF (by omega)], ⟨rfl, hb, rfl, rfl, trivial⟩, rfl⟩)
end
theorem flat_le : ∀ l : List Nat, (l.flatMap encB).length ≤ 4 * l.length
  | [] => by simp
  | c :: l => by rw [List.flatMap_cons, List.length_append, List.length_cons]; have := (encB_len c).2; have := flat_le l; omega
theorem scalar_V {c : Nat} (hv : valid c) (h : Heap) : CallT P 13 [i32 (Int.ofNat c)] h (.ret (.bool true) h none) := by
  have := scalar_T (Int.ofNat c) h
  rw [valid_scal hv] at this
  exact this
theorem loop7 (fz : Nat) (rs : List Nat) (hv : ∀ c ∈ rs, valid c) (hlen : rs.length ≤ 1000000) : ∀ i : { i : Nat // i ≤ rs.length }, TripL P 26 (lp Tryd.f7 0) (E7 rs.length ((rs.take i.1).flatMap encB) i.1) (H7 (runeV rs) fz) d0 (.exit 0 (E7 rs.length (rs.flatMap encB) rs.length) (H7 (runeV rs) fz) d0) := by
  refine TripL.fam (fun (i : { i : Nat // i ≤ rs.length }) => E7 rs.length ((rs.take i.1).flatMap encB) i.1) (fun _ => H7 (runeV rs) fz) d0 (fun _ => .exit 0 (E7 rs.length (rs.flatMap encB) rs.length) (H7 (runeV rs) fz) d0) (fun i => rs.length - i.1) fun ⟨i, hi⟩ => ?_
  simp only
  by_cases h : i < rs.length
  · have hc : (runeV rs)[0 + i * 1]? = some (i32 (Int.ofNat rs[i])) := by unfold runeV; simp [h]
    have ht : rs.take (i + 1) = rs.take i ++ [rs[i]] := by rw [List.take_add_one, List.getElem?_eq_getElem h]; rfl
    have hm : rs[i] ∈ rs := List.getElem_mem h
    have hcv := hv _ hm
    have hfl := flat_le (rs.take i)
    have hel := (encB_len rs[i]).2
    refine .inr ⟨⟨i + 1, h⟩, (by show rs.length - (i + 1) < rs.length - i; omega), trivial, ?_⟩
    rw [ht, List.flatMap_append, List.flatMap_cons, List.flatMap_nil, List.append_nil]
    exact s7a (runeV rs) fz runeV_below h hlen hc (scalar_V hcv) (bytes_T (by unfold valid at hcv; omega)) (by rw [List.length_take] at hfl; omega)
  · have e : i = rs.length := by omega
    subst e
    rw [List.take_length]
    exact .inl ⟨rfl, s7b (runeV rs) fz runeV_below (by omega)⟩
theorem rencode_nil (h : Heap) : CallT P 7 [.slice0] h (.ret (.tup [.str [], .bool true]) h none) :=
  pure_hC tabOK hF (by rfl) (by rfl) [(99, .l [0, 2, 3, 4, 5] (.exit 0 (envOf [(0, .slice0), (2, .str []), (3, .bool false), (4, .str []), (5, i64 0)]) H2 d0))] Tryd.func7 (by kernel_rfl)
    (ofK (b := TripI P 26 (.loop (lp Tryd.f7 0)) (envOf [(0, .slice0), (2, .str []), (3, .bool false), (4, .str []), (5, i64 0)]) H2 d0 (.exit 0 (envOf [(0, .slice0), (2, .str []), (3, .bool false), (4, .str []), (5, i64 0)]) H2 d0) ∧ AV.tup [.str [], .bool true] = .tup [.str [], .bool true]) (by kernel_rfl)
      ⟨⟨(TripL.stop rfl (trip_shed hF (by rfl) [] 2 KT [0, 2, 3, 4, 5] (ofK (b := (true = true ∧ true = true ∧ true = true ∧ True) ∧ XR.exit 0 (envOf [(0, .slice0), (2, .str []), (3, .bool false), (4, .str []), (5, i64 0)]) H2 d0 = .exit 0 (envOf [(0, .slice0), (2, .str []), (3, .bool false), (4, .str []), (5, i64 0)]) H2 d0) (by kernel_rfl) ⟨⟨rfl, rfl, rfl, trivial⟩, rfl⟩))).trip⟩, rfl⟩) h
theorem rencode_T (rs : List Nat) (hv : ∀ c ∈ rs, valid c) (hlen : rs.length ≤ 1000000) {b g fz : Nat} (hb : 2 ≤ b) (h : Heap) (hget : h.t.get b = some (.cells (runeV rs) 21 g fz false)) :
    CallT P 7 [.slice b g 0 rs.length rs.length 1 false] h (.ret (.tup [.str (rs.flatMap encB), .bool true]) h none) := by
  have hl := (loop7 fz rs hv hlen ⟨0, Nat.zero_le _⟩).trip
  simp only [List.take_zero, List.flatMap_nil] at hl
  generalize rs.flatMap encB = out at *
  generalize rs.length = len at *
  have hpl : plainVs (runeV rs) = true := runeV_plain
  generalize runeV rs = cs at *
  obtain ⟨hs', x, h1, h2⟩ := hC_ok hF (N := 26) (by omega) (bodyOf Tryd.f7) [(99, .l [0, 2, 3, 4, 5] (.exit 0 (E7 len out len) (H7 cs fz) d0))] (mkEnv 0 [.slice 2 0 0 len len 1 false] .e) (H7 cs fz) d0
    (fun _ x => (leaveX F.call (cfunc P Tryd.f7).res x).gives (.tup [.str out, .bool true]))
    (ofK (b := TripI P 26 (.loop (lp Tryd.f7 0)) (E7 len [] 0) (H7 cs fz) d0 (.exit 0 (E7 len out len) (H7 cs fz) d0) ∧ AV.tup [.str out, .bool true] = .tup [.str out, .bool true]) (by kernel_rfl) ⟨⟨hl⟩, rfl⟩)
  obtain ⟨h', h3⟩ := CR.gives_eq h1
  refine callT_read tabOK (args := [.slice b g 0 len len 1 false]) (cs := cs) (ty := 21) (fz := fz) (h' := h') (b := b) (g := g) ?_ (by simp [onlyVs, onlyV]) hpl rfl h (by rw [show P.globals.size = 2 by kernel_rfl]; exact hb) hget
  rw [← h3]
  exact callT_of hF Tryd.func7 (c := bodyOf Tryd.f7) (by kernel_rfl) (by kernel_rfl) (by kernel_rfl) (by kernel_rfl) (by rw [show P.globals.size = 2 by kernel_rfl]; exact h2)
end Go.Proofs.YtlmpigpkdelopaaDoor

namespace Go.Proofs.YtlmpigpkdelopaaDoor
open Go Go.Rk
set_option maxRecDepth 1000000
set_option linter.unusedVariables false
set_option linter.unusedSimpArgs false
set_option linter.constructorNameAsVariable false
set_option linter.unusedSectionVars false
/-! what is told by percent signs is read -/
abbrev E11 (s : List UInt8) (v : AV) : T := envOf [(0, .str s), (2, .str []), (3, v)]
noncomputable abbrev H11 (cs : List AV) (g : Nat) : Heap := heapOf 5 ((4, .cells cs 5 g 0 false) :: tabs)
abbrev v11 (g : Nat) : AV := .slice 4 g 0 (g + 1) (g + 1) 1 false
abbrev K11 : Keep := (4, some []) :: KT
theorem or_all : ((List.range 16).all fun m => (List.range 16).all fun n => decide (orI .u8 (shlI .u8 (Int.ofNat m) 4) (Int.ofNat n) = Int.ofNat (m * 16 + n))) = true := by kernel_rfl
theorem or_eq {m n : Nat} (hm : m < 16) (hn : n < 16) : orI .u8 (shlI .u8 (Int.ofNat m) 4) (Int.ofNat n) = Int.ofNat (m * 16 + n) := by
  have h1 := List.all_eq_true.1 or_all m (List.mem_range.2 hm)
  exact of_decide_eq_true (List.all_eq_true.1 h1 n (List.mem_range.2 hn))
theorem digN_lt {x m : Nat} (h : digN x = some m) : m < 16 := by
  unfold digN at h
  repeat' split at h
  all_goals first | (cases h; omega) | cases h
theorem digN_some {x m : Nat} (hx : x < 256) (h : digN x = some m) (hp : Heap) : CallT P 23 [by8 x] hp (.ret (.tup [by8 m, .bool true]) hp none) := by
  have := digit_T hx hp
  unfold digV at this
  rw [h] at this
  exact this
theorem digN_none {x : Nat} (hx : x < 256) (h : digN x = none) (hp : Heap) : CallT P 23 [by8 x] hp (.ret (.tup [by8 0, .bool false]) hp none) := by
  have := digit_T hx hp
  unfold digV at this
  rw [h] at this
  exact this
def pstep (b : UInt8) (t : List UInt8) : UInt8 × List UInt8 := if b.toNat = 37 then (match t with
  | x :: y :: t => (match digN x.toNat, digN y.toNat with
    | some m, some n => (UInt8.ofNat (m * 16 + n), t)
    | _, _ => (b, x :: y :: t))
  | t => (b, t)) else (b, t)
def pdF : Nat → List UInt8 → List UInt8
  | 0, _ => []
  | _ + 1, [] => []
  | f + 1, b :: t => (pstep b t).1 :: pdF f (pstep b t).2

theorem s11F_A {b : UInt8} {t : List UInt8} (hb0 : ¬ b.toNat = 37) : Trip P 52 (lp Tryd.f11 0) (E11 (b :: t) .slice0) H2 d0 (.nrm (E11 t (v11 0)) (H11 [u8 b] 0) d0) :=
  trip_shed hF (by rfl) [(12, .e (.bool false)), (49, .u .undef)] 5 K11 [0, 2, 3]
    (ofK (b := AV.bool (eqI (Int.ofNat b.toNat) (Int.ofNat 37)) = .bool false ∧ 1 ≤ (b :: t).length ∧ (true = true ∧ true = true ∧ true = true ∧ true = true ∧ True) ∧ XR.nrm (E11 t (v11 0)) (H11 [u8 b] 0) d0 = XR.nrm (E11 t (v11 0)) (H11 [u8 b] 0) d0) (by kernel_rfl) ⟨by rw [eqN]; simp [hb0], by simp, ⟨rfl, rfl, rfl, rfl, trivial⟩, rfl⟩)
theorem s11F_B {b : UInt8} (hb0 : b.toNat = 37) : Trip P 52 (lp Tryd.f11 0) (E11 [b] .slice0) H2 d0 (.nrm (E11 [] (v11 0)) (H11 [u8 b] 0) d0) :=
  trip_shed hF (by rfl) [(12, .e (.bool true)), (49, .u .undef)] 5 K11 [0, 2, 3]
    (ofK (b := AV.bool (eqI (Int.ofNat b.toNat) (Int.ofNat 37)) = .bool true ∧ 1 ≤ 1 ∧ (true = true ∧ true = true ∧ true = true ∧ true = true ∧ True) ∧ XR.nrm (E11 [] (v11 0)) (H11 [u8 b] 0) d0 = XR.nrm (E11 [] (v11 0)) (H11 [u8 b] 0) d0) (by kernel_rfl) ⟨by rw [eqN]; simp [hb0], Nat.le_refl _, ⟨rfl, rfl, rfl, rfl, trivial⟩, rfl⟩)
theorem s11F_C {b : UInt8} {x : UInt8} (hb0 : b.toNat = 37) : Trip P 52 (lp Tryd.f11 0) (E11 [b, x] .slice0) H2 d0 (.nrm (E11 [x] (v11 0)) (H11 [u8 b] 0) d0) :=
  trip_shed hF (by rfl) [(12, .e (.bool true)), (49, .u .undef)] 5 K11 [0, 2, 3]
    (ofK (b := AV.bool (eqI (Int.ofNat b.toNat) (Int.ofNat 37)) = .bool true ∧ 1 ≤ 2 ∧ (true = true ∧ true = true ∧ true = true ∧ true = true ∧ True) ∧ XR.nrm (E11 [x] (v11 0)) (H11 [u8 b] 0) d0 = XR.nrm (E11 [x] (v11 0)) (H11 [u8 b] 0) d0) (by kernel_rfl) ⟨by rw [eqN]; simp [hb0], by omega, ⟨rfl, rfl, rfl, rfl, trivial⟩, rfl⟩)
theorem s11F_D {b : UInt8} {x y : UInt8} {t : List UInt8} (hb0 : b.toNat = 37) (k1 : digN x.toNat = none) (k2 : digN y.toNat = none) : Trip P 52 (lp Tryd.f11 0) (E11 (b :: x :: y :: t) .slice0) H2 d0 (.nrm (E11 (x :: y :: t) (v11 0)) (H11 [u8 b] 0) d0) :=
  trip_shed hF (by rfl) [(12, .e (.bool true)), (21, .c (.ret (.tup [by8 0, .bool false]) H2 none)), (27, .c (.ret (.tup [by8 0, .bool false]) H2 none)), (49, .u .undef)] 5 K11 [0, 2, 3]
    (ofK (b := AV.bool (eqI (Int.ofNat b.toNat) (Int.ofNat 37)) = .bool true ∧ CallI P 23 [by8 x.toNat] H2 (.ret (.tup [by8 0, .bool false]) H2 none) ∧ CallI P 23 [by8 y.toNat] H2 (.ret (.tup [by8 0, .bool false]) H2 none) ∧ 1 ≤ (b :: x :: y :: t).length ∧ (true = true ∧ true = true ∧ true = true ∧ true = true ∧ True) ∧ XR.nrm (E11 (x :: y :: t) (v11 0)) (H11 [u8 b] 0) d0 = XR.nrm (E11 (x :: y :: t) (v11 0)) (H11 [u8 b] 0) d0) (by kernel_rfl) ⟨by rw [eqN]; simp [hb0], ⟨digN_none (bt x) k1 _⟩, ⟨digN_none (bt y) k2 _⟩, by simp, ⟨rfl, rfl, rfl, rfl, trivial⟩, rfl⟩)
theorem s11F_E {b : UInt8} {x y : UInt8} {t : List UInt8} (hb0 : b.toNat = 37) {n : Nat} (k1 : digN x.toNat = none) (k2 : digN y.toNat = some n) : Trip P 52 (lp Tryd.f11 0) (E11 (b :: x :: y :: t) .slice0) H2 d0 (.nrm (E11 (x :: y :: t) (v11 0)) (H11 [u8 b] 0) d0) :=
  trip_shed hF (by rfl) [(12, .e (.bool true)), (21, .c (.ret (.tup [by8 0, .bool false]) H2 none)), (27, .c (.ret (.tup [by8 n, .bool true]) H2 none)), (49, .u .undef)] 5 K11 [0, 2, 3]
    (ofK (b := AV.bool (eqI (Int.ofNat b.toNat) (Int.ofNat 37)) = .bool true ∧ CallI P 23 [by8 x.toNat] H2 (.ret (.tup [by8 0, .bool false]) H2 none) ∧ CallI P 23 [by8 y.toNat] H2 (.ret (.tup [by8 n, .bool true]) H2 none) ∧ 1 ≤ (b :: x :: y :: t).length ∧ (true = true ∧ true = true ∧ true = true ∧ true = true ∧ True) ∧ XR.nrm (E11 (x :: y :: t) (v11 0)) (H11 [u8 b] 0) d0 = XR.nrm (E11 (x :: y :: t) (v11 0)) (H11 [u8 b] 0) d0) (by kernel_rfl) ⟨by rw [eqN]; simp [hb0], ⟨digN_none (bt x) k1 _⟩, ⟨digN_some (bt y) k2 _⟩, by simp, ⟨rfl, rfl, rfl, rfl, trivial⟩, rfl⟩)
theorem s11F_G {b : UInt8} {x y : UInt8} {t : List UInt8} (hb0 : b.toNat = 37) {m : Nat} (k1 : digN x.toNat = some m) (k2 : digN y.toNat = none) : Trip P 52 (lp Tryd.f11 0) (E11 (b :: x :: y :: t) .slice0) H2 d0 (.nrm (E11 (x :: y :: t) (v11 0)) (H11 [u8 b] 0) d0) :=
  trip_shed hF (by rfl) [(12, .e (.bool true)), (21, .c (.ret (.tup [by8 m, .bool true]) H2 none)), (27, .c (.ret (.tup [by8 0, .bool false]) H2 none)), (49, .u .undef)] 5 K11 [0, 2, 3]
    (ofK (b := AV.bool (eqI (Int.ofNat b.toNat) (Int.ofNat 37)) = .bool true ∧ CallI P 23 [by8 x.toNat] H2 (.ret (.tup [by8 m, .bool true]) H2 none) ∧ CallI P 23 [by8 y.toNat] H2 (.ret (.tup [by8 0, .bool false]) H2 none) ∧ 1 ≤ (b :: x :: y :: t).length ∧ (true = true ∧ true = true ∧ true = true ∧ true = true ∧ True) ∧ XR.nrm (E11 (x :: y :: t) (v11 0)) (H11 [u8 b] 0) d0 = XR.nrm (E11 (x :: y :: t) (v11 0)) (H11 [u8 b] 0) d0) (by kernel_rfl) ⟨by rw [eqN]; simp [hb0], ⟨digN_some (bt x) k1 _⟩, ⟨digN_none (bt y) k2 _⟩, by simp, ⟨rfl, rfl, rfl, rfl, trivial⟩, rfl⟩)
theorem s11F_H {b : UInt8} {x y : UInt8} {t : List UInt8} {m n : Nat} (hb0 : b.toNat = 37) (k1 : digN x.toNat = some m) (k2 : digN y.toNat = some n) : Trip P 52 (lp Tryd.f11 0) (E11 (b :: x :: y :: t) .slice0) H2 d0 (.nrm (E11 t (v11 0)) (H11 [by8 (m * 16 + n)] 0) d0) :=
  trip_shed hF (by rfl) [(12, .e (.bool true)), (21, .c (.ret (.tup [by8 m, .bool true]) H2 none)), (27, .c (.ret (.tup [by8 n, .bool true]) H2 none)), (38, .e (by8 (m * 16 + n))), (42, .u .undef)] 5 K11 [0, 2, 3]
    (ofK (b := AV.bool (eqI (Int.ofNat b.toNat) (Int.ofNat 37)) = .bool true ∧ CallI P 23 [by8 x.toNat] H2 (.ret (.tup [by8 m, .bool true]) H2 none) ∧ CallI P 23 [by8 y.toNat] H2 (.ret (.tup [by8 n, .bool true]) H2 none) ∧ AV.int .u8 (orI .u8 (shlI .u8 (Int.ofNat m) 4) (Int.ofNat n)) = by8 (m * 16 + n) ∧ 3 ≤ (b :: x :: y :: t).length ∧ (true = true ∧ true = true ∧ true = true ∧ true = true ∧ True) ∧ XR.nrm (E11 t (v11 0)) (H11 [by8 (m * 16 + n)] 0) d0 = XR.nrm (E11 t (v11 0)) (H11 [by8 (m * 16 + n)] 0) d0) (by kernel_rfl) ⟨by rw [eqN]; simp [hb0], ⟨digN_some (bt x) k1 _⟩, ⟨digN_some (bt y) k2 _⟩, by rw [or_eq (digN_lt k1) (digN_lt k2)], by simp, ⟨rfl, rfl, rfl, rfl, trivial⟩, rfl⟩)
theorem s11F (b : UInt8) (t : List UInt8) : Trip P 52 (lp Tryd.f11 0) (E11 (b :: t) .slice0) H2 d0 (.nrm (E11 (pstep b t).2 (v11 0)) (H11 [u8 (pstep b t).1] 0) d0) := by
  by_cases h37 : b.toNat = 37
  · match t with
    | [] =>
      have e : pstep b [] = (b, []) := by unfold pstep; rw [if_pos h37]
      rw [e]; exact s11F_B h37
    | [x] =>
      have e : pstep b [x] = (b, [x]) := by unfold pstep; rw [if_pos h37]
      rw [e]; exact s11F_C h37
    | x :: y :: t =>
      have e : pstep b (x :: y :: t) = (match digN x.toNat, digN y.toNat with
        | some m, some n => (UInt8.ofNat (m * 16 + n), t)
        | _, _ => (b, x :: y :: t)) := by unfold pstep; rw [if_pos h37]
      rw [e]
      cases k1 : digN x.toNat with
      | none =>
        cases k2 : digN y.toNat with
        | none => exact s11F_D h37 k1 k2
        | some n => exact s11F_E h37 k1 k2
      | some m =>
        cases k2 : digN y.toNat with
        | none => exact s11F_G h37 k1 k2
        | some n =>
          have h := s11F_H (t := t) h37 k1 k2
          have hm := digN_lt k1
          have hn := digN_lt k2
          have e2 : u8 (UInt8.ofNat (m * 16 + n)) = by8 (m * 16 + n) := by show by8 (UInt8.ofNat (m * 16 + n)).toNat = _; rw [ofNat8 (by omega)]
          simp only
          rw [e2]; exact h
  · have e : pstep b t = (b, t) := by unfold pstep; rw [if_neg h37]
    rw [e]; exact s11F_A h37
theorem s11L_A {b : UInt8} (cs : List AV) (g : Nat) (hl : cs.length = g + 1) (hg : g ≤ 10000000) (hb : belowVs 5 cs = true) {t : List UInt8} (hb0 : ¬ b.toNat = 37) : Trip P 52 (lp Tryd.f11 0) (E11 (b :: t) (v11 g)) (H11 cs g) d0 (.nrm (E11 t (v11 (g + 1))) (H11 (cs ++ [u8 b]) (g + 1)) d0) :=
  trip_shed hF (by rfl) [(12, .e (.bool false)), (49, .u .undef), (47, .u .undef)] 5 K11 [0, 2, 3]
    (ofK (b := AV.bool (eqI (Int.ofNat b.toNat) (Int.ofNat 37)) = .bool false ∧ 1 ≤ (b :: t).length ∧ ((0 = 0 ∧ 1 ≤ 1) ∧ g + 1 < g + 1 + 1 ∧ (g + 1 + 1) * 2 ≤ 274877906944 ∧ 1 = 1 ∧ g = g ∧ 0 + (g + 1) * 1 = cs.length ∧ 5 = 5 ∧ 0 ≤ cs.length ∧ true = true) ∧ (true = true ∧ belowVs 5 (cs ++ [u8 b]) = true ∧ true = true ∧ true = true ∧ True) ∧ XR.nrm (E11 t (v11 (g + 1))) (H11 (cs ++ [u8 b]) (g + 1)) d0 = XR.nrm (E11 t (v11 (g + 1))) (H11 (cs ++ [u8 b]) (g + 1)) d0) (by kernel_rfl) ⟨by rw [eqN]; simp [hb0], by simp, ⟨⟨rfl, Nat.le_refl _⟩, by omega, by omega, rfl, rfl, by omega, rfl, Nat.zero_le _, rfl⟩, ⟨rfl, below_app hb rfl, rfl, rfl, trivial⟩, rfl⟩)
theorem s11L_B {b : UInt8} (cs : List AV) (g : Nat) (hl : cs.length = g + 1) (hg : g ≤ 10000000) (hb : belowVs 5 cs = true) (hb0 : b.toNat = 37) : Trip P 52 (lp Tryd.f11 0) (E11 [b] (v11 g)) (H11 cs g) d0 (.nrm (E11 [] (v11 (g + 1))) (H11 (cs ++ [u8 b]) (g + 1)) d0) :=
  trip_shed hF (by rfl) [(12, .e (.bool true)), (49, .u .undef), (47, .u .undef)] 5 K11 [0, 2, 3]
    (ofK (b := AV.bool (eqI (Int.ofNat b.toNat) (Int.ofNat 37)) = .bool true ∧ 1 ≤ 1 ∧ ((0 = 0 ∧ 1 ≤ 1) ∧ g + 1 < g + 1 + 1 ∧ (g + 1 + 1) * 2 ≤ 274877906944 ∧ 1 = 1 ∧ g = g ∧ 0 + (g + 1) * 1 = cs.length ∧ 5 = 5 ∧ 0 ≤ cs.length ∧ true = true) ∧ (true = true ∧ belowVs 5 (cs ++ [u8 b]) = true ∧ true = true ∧ true = true ∧ True) ∧ XR.nrm (E11 [] (v11 (g + 1))) (H11 (cs ++ [u8 b]) (g + 1)) d0 = XR.nrm (E11 [] (v11 (g + 1))) (H11 (cs ++ [u8 b]) (g + 1)) d0) (by kernel_rfl) ⟨by rw [eqN]; simp [hb0], Nat.le_refl _, ⟨⟨rfl, Nat.le_refl _⟩, by omega, by omega, rfl, rfl, by omega, rfl, Nat.zero_le _, rfl⟩, ⟨rfl, below_app hb rfl, rfl, rfl, trivial⟩, rfl⟩)
theorem s11L_C {b : UInt8} (cs : List AV) (g : Nat) (hl : cs.length = g + 1) (hg : g ≤ 10000000) (hb : belowVs 5 cs = true) {x : UInt8} (hb0 : b.toNat = 37) : Trip P 52 (lp Tryd.f11 0) (E11 [b, x] (v11 g)) (H11 cs g) d0 (.nrm (E11 [x] (v11 (g + 1))) (H11 (cs ++ [u8 b]) (g + 1)) d0) :=
  trip_shed hF (by rfl) [(12, .e (.bool true)), (49, .u .undef), (47, .u .undef)] 5 K11 [0, 2, 3]
    (ofK (b := AV.bool (eqI (Int.ofNat b.toNat) (Int.ofNat 37)) = .bool true ∧ 1 ≤ 2 ∧ ((0 = 0 ∧ 1 ≤ 1) ∧ g + 1 < g + 1 + 1 ∧ (g + 1 + 1) * 2 ≤ 274877906944 ∧ 1 = 1 ∧ g = g ∧ 0 + (g + 1) * 1 = cs.length ∧ 5 = 5 ∧ 0 ≤ cs.length ∧ true = true) ∧ (true = true ∧ belowVs 5 (cs ++ [u8 b]) = true ∧ true = true ∧ true = true ∧ True) ∧ XR.nrm (E11 [x] (v11 (g + 1))) (H11 (cs ++ [u8 b]) (g + 1)) d0 = XR.nrm (E11 [x] (v11 (g + 1))) (H11 (cs ++ [u8 b]) (g + 1)) d0) (by kernel_rfl) ⟨by rw [eqN]; simp [hb0], by omega, ⟨⟨rfl, Nat.le_refl _⟩, by omega, by omega, rfl, rfl, by omega, rfl, Nat.zero_le _, rfl⟩, ⟨rfl, below_app hb rfl, rfl, rfl, trivial⟩, rfl⟩)
theorem s11L_D {b : UInt8} (cs : List AV) (g : Nat) (hl : cs.length = g + 1) (hg : g ≤ 10000000) (hb : belowVs 5 cs = true) {x y : UInt8} {t : List UInt8} (hb0 : b.toNat = 37) (k1 : digN x.toNat = none) (k2 : digN y.toNat = none) : Trip P 52 (lp Tryd.f11 0) (E11 (b :: x :: y :: t) (v11 g)) (H11 cs g) d0 (.nrm (E11 (x :: y :: t) (v11 (g + 1))) (H11 (cs ++ [u8 b]) (g + 1)) d0) :=
  trip_shed hF (by rfl) [(12, .e (.bool true)), (21, .c (.ret (.tup [by8 0, .bool false]) (H11 cs g) none)), (27, .c (.ret (.tup [by8 0, .bool false]) (H11 cs g) none)), (49, .u .undef), (47, .u .undef)] 5 K11 [0, 2, 3]
    (ofK (b := AV.bool (eqI (Int.ofNat b.toNat) (Int.ofNat 37)) = .bool true ∧ CallI P 23 [by8 x.toNat] (H11 cs g) (.ret (.tup [by8 0, .bool false]) (H11 cs g) none) ∧ CallI P 23 [by8 y.toNat] (H11 cs g) (.ret (.tup [by8 0, .bool false]) (H11 cs g) none) ∧ 1 ≤ (b :: x :: y :: t).length ∧ ((0 = 0 ∧ 1 ≤ 1) ∧ g + 1 < g + 1 + 1 ∧ (g + 1 + 1) * 2 ≤ 274877906944 ∧ 1 = 1 ∧ g = g ∧ 0 + (g + 1) * 1 = cs.length ∧ 5 = 5 ∧ 0 ≤ cs.length ∧ true = true) ∧ (true = true ∧ belowVs 5 (cs ++ [u8 b]) = true ∧ true = true ∧ true = true ∧ True) ∧ XR.nrm (E11 (x :: y :: t) (v11 (g + 1))) (H11 (cs ++ [u8 b]) (g + 1)) d0 = XR.nrm (E11 (x :: y :: t) (v11 (g + 1))) (H11 (cs ++ [u8 b]) (g + 1)) d0) (by kernel_rfl) ⟨by rw [eqN]; simp [hb0], ⟨digN_none (bt x) k1 _⟩, ⟨digN_none (bt y) k2 _⟩, by simp, ⟨⟨rfl, Nat.le_refl _⟩, by omega, by omega, rfl, rfl, by omega, rfl, Nat.zero_le _, rfl⟩, ⟨rfl, below_app hb rfl, rfl, rfl, trivial⟩, rfl⟩)
theorem s11L_E {b : UInt8} (cs : List AV) (g : Nat) (hl : cs.length = g + 1) (hg : g ≤ 10000000) (hb : belowVs 5 cs = true) {x y : UInt8} {t : List UInt8} (hb0 : b.toNat = 37) {n : Nat} (k1 : digN x.toNat = none) (k2 : digN y.toNat = some n) : Trip P 52 (lp Tryd.f11 0) (E11 (b :: x :: y :: t) (v11 g)) (H11 cs g) d0 (.nrm (E11 (x :: y :: t) (v11 (g + 1))) (H11 (cs ++ [u8 b]) (g + 1)) d0) :=
  trip_shed hF (by rfl) [(12, .e (.bool true)), (21, .c (.ret (.tup [by8 0, .bool false]) (H11 cs g) none)), (27, .c (.ret (.tup [by8 n, .bool true]) (H11 cs g) none)), (49, .u .undef), (47, .u .undef)] 5 K11 [0, 2, 3]
    (ofK (b := AV.bool (eqI (Int.ofNat b.toNat) (Int.ofNat 37)) = .bool true ∧ CallI P 23 [by8 x.toNat] (H11 cs g) (.ret (.tup [by8 0, .bool false]) (H11 cs g) none) ∧ CallI P 23 [by8 y.toNat] (H11 cs g) (.ret (.tup [by8 n, .bool true]) (H11 cs g) none) ∧ 1 ≤ (b :: x :: y :: t).length ∧ ((0 = 0 ∧ 1 ≤ 1) ∧ g + 1 < g + 1 + 1 ∧ (g + 1 + 1) * 2 ≤ 274877906944 ∧ 1 = 1 ∧ g = g ∧ 0 + (g + 1) * 1 = cs.length ∧ 5 = 5 ∧ 0 ≤ cs.length ∧ true = true) ∧ (true = true ∧ belowVs 5 (cs ++ [u8 b]) = true ∧ true = true ∧ true = true ∧ True) ∧ XR.nrm (E11 (x :: y :: t) (v11 (g + 1))) (H11 (cs ++ [u8 b]) (g + 1)) d0 = XR.nrm (E11 (x :: y :: t) (v11 (g + 1))) (H11 (cs ++ [u8 b]) (g + 1)) d0) (by kernel_rfl) ⟨by rw [eqN]; simp [hb0], ⟨digN_none (bt x) k1 _⟩, ⟨digN_some (bt y) k2 _⟩, by simp, ⟨⟨rfl, Nat.le_refl _⟩, by omega, by omega, rfl, rfl, by omega, rfl, Nat.zero_le _, rfl⟩, ⟨rfl, below_app hb rfl, rfl, rfl, trivial⟩, rfl⟩)
theorem s11L_G {b : UInt8} (cs : List AV) (g : Nat) (hl : cs.length = g + 1) (hg : g ≤ 10000000) (hb : belowVs 5 cs = true) {x y : UInt8} {t : List UInt8} (hb0 : b.toNat = 37) {m : Nat} (k1 : digN x.toNat = some m) (k2 : digN y.toNat = none) : Trip P 52 (lp Tryd.f11 0) (E11 (b :: x :: y :: t) (v11 g)) (H11 cs g) d0 (.nrm (E11 (x :: y :: t) (v11 (g + 1))) (H11 (cs ++ [u8 b]) (g + 1)) d0) :=
  trip_shed hF (by rfl) [(12, .e (.bool true)), (21, .c (.ret (.tup [by8 m, .bool true]) (H11 cs g) none)), (27, .c (.ret (.tup [by8 0, .bool false]) (H11 cs g) none)), (49, .u .undef), (47, .u .undef)] 5 K11 [0, 2, 3]
    (ofK (b := AV.bool (eqI (Int.ofNat b.toNat) (Int.ofNat 37)) = .bool true ∧ CallI P 23 [by8 x.toNat] (H11 cs g) (.ret (.tup [by8 m, .bool true]) (H11 cs g) none) ∧ CallI P 23 [by8 y.toNat] (H11 cs g) (.ret (.tup [by8 0, .bool false]) (H11 cs g) none) ∧ 1 ≤ (b :: x :: y :: t).length ∧ ((0 = 0 ∧ 1 ≤ 1) ∧ g + 1 < g + 1 + 1 ∧ (g + 1 + 1) * 2 ≤ 274877906944 ∧ 1 = 1 ∧ g = g ∧ 0 + (g + 1) * 1 = cs.length ∧ 5 = 5 ∧ 0 ≤ cs.length ∧ true = true) ∧ (true = true ∧ belowVs 5 (cs ++ [u8 b]) = true ∧ true = true ∧ true = true ∧ True) ∧ XR.nrm (E11 (x :: y :: t) (v11 (g + 1))) (H11 (cs ++ [u8 b]) (g + 1)) d0 = XR.nrm (E11 (x :: y :: t) (v11 (g + 1))) (H11 (cs ++ [u8 b]) (g + 1)) d0) (by kernel_rfl) ⟨by rw [eqN]; simp [hb0], ⟨digN_some (bt x) k1 _⟩, ⟨digN_none (bt y) k2 _⟩, by simp, ⟨⟨rfl, Nat.le_refl _⟩, by omega, by omega, rfl, rfl, by omega, rfl, Nat.zero_le _, rfl⟩, ⟨rfl, below_app hb rfl, rfl, rfl, trivial⟩, rfl⟩)
theorem s11L_H {b : UInt8} (cs : List AV) (g : Nat) (hl : cs.length = g + 1) (hg : g ≤ 10000000) (hb : belowVs 5 cs = true) {x y : UInt8} {t : List UInt8} {m n : Nat} (hb0 : b.toNat = 37) (k1 : digN x.toNat = some m) (k2 : digN y.toNat = some n) : Trip P 52 (lp Tryd.f11 0) (E11 (b :: x :: y :: t) (v11 g)) (H11 cs g) d0 (.nrm (E11 t (v11 (g + 1))) (H11 (cs ++ [by8 (m * 16 + n)]) (g + 1)) d0) :=
  trip_shed hF (by rfl) [(12, .e (.bool true)), (21, .c (.ret (.tup [by8 m, .bool true]) (H11 cs g) none)), (27, .c (.ret (.tup [by8 n, .bool true]) (H11 cs g) none)), (38, .e (by8 (m * 16 + n))), (42, .u .undef), (40, .u .undef)] 5 K11 [0, 2, 3]
    (ofK (b := AV.bool (eqI (Int.ofNat b.toNat) (Int.ofNat 37)) = .bool true ∧ CallI P 23 [by8 x.toNat] (H11 cs g) (.ret (.tup [by8 m, .bool true]) (H11 cs g) none) ∧ CallI P 23 [by8 y.toNat] (H11 cs g) (.ret (.tup [by8 n, .bool true]) (H11 cs g) none) ∧ AV.int .u8 (orI .u8 (shlI .u8 (Int.ofNat m) 4) (Int.ofNat n)) = by8 (m * 16 + n) ∧ 3 ≤ (b :: x :: y :: t).length ∧ ((0 = 0 ∧ 1 ≤ 1) ∧ g + 1 < g + 1 + 1 ∧ (g + 1 + 1) * 2 ≤ 274877906944 ∧ 1 = 1 ∧ g = g ∧ 0 + (g + 1) * 1 = cs.length ∧ 5 = 5 ∧ 0 ≤ cs.length ∧ true = true) ∧ (true = true ∧ belowVs 5 (cs ++ [by8 (m * 16 + n)]) = true ∧ true = true ∧ true = true ∧ True) ∧ XR.nrm (E11 t (v11 (g + 1))) (H11 (cs ++ [by8 (m * 16 + n)]) (g + 1)) d0 = XR.nrm (E11 t (v11 (g + 1))) (H11 (cs ++ [by8 (m * 16 + n)]) (g + 1)) d0) (by kernel_rfl) ⟨by rw [eqN]; simp [hb0], ⟨digN_some (bt x) k1 _⟩, ⟨digN_some (bt y) k2 _⟩, by rw [or_eq (digN_lt k1) (digN_lt k2)], by simp, ⟨⟨rfl, Nat.le_refl _⟩, by omega, by omega, rfl, rfl, by omega, rfl, Nat.zero_le _, rfl⟩, ⟨rfl, below_app hb rfl, rfl, rfl, trivial⟩, rfl⟩)
theorem s11L (b : UInt8) (t : List UInt8) (cs : List AV) (g : Nat) (hl : cs.length = g + 1) (hg : g ≤ 10000000) (hb : belowVs 5 cs = true) : Trip P 52 (lp Tryd.f11 0) (E11 (b :: t) (v11 g)) (H11 cs g) d0 (.nrm (E11 (pstep b t).2 (v11 (g + 1))) (H11 (cs ++ [u8 (pstep b t).1]) (g + 1)) d0) := by
  by_cases h37 : b.toNat = 37
  · match t with
    | [] =>
      have e : pstep b [] = (b, []) := by unfold pstep; rw [if_pos h37]
      rw [e]; exact s11L_B cs g hl hg hb h37
    | [x] =>
      have e : pstep b [x] = (b, [x]) := by unfold pstep; rw [if_pos h37]
      rw [e]; exact s11L_C cs g hl hg hb h37
    | x :: y :: t =>
      have e : pstep b (x :: y :: t) = (match digN x.toNat, digN y.toNat with
        | some m, some n => (UInt8.ofNat (m * 16 + n), t)
        | _, _ => (b, x :: y :: t)) := by unfold pstep; rw [if_pos h37]
      rw [e]
      cases k1 : digN x.toNat with
      | none =>
        cases k2 : digN y.toNat with
        | none => exact s11L_D cs g hl hg hb h37 k1 k2
        | some n => exact s11L_E cs g hl hg hb h37 k1 k2
      | some m =>
        cases k2 : digN y.toNat with
        | none => exact s11L_G cs g hl hg hb h37 k1 k2
        | some n =>
          have h := s11L_H (t := t) cs g hl hg hb h37 k1 k2
          have hm := digN_lt k1
          have hn := digN_lt k2
          have e2 : u8 (UInt8.ofNat (m * 16 + n)) = by8 (m * 16 + n) := by show by8 (UInt8.ofNat (m * 16 + n)).toNat = _; rw [ofNat8 (by omega)]
          simp only
          rw [e2]; exact h
  · have e : pstep b t = (b, t) := by unfold pstep; rw [if_neg h37]
    rw [e]; exact s11L_A cs g hl hg hb h37
theorem s11c (cs : List AV) (g : Nat) (hb : belowVs 5 cs = true) : Trip P 52 (lp Tryd.f11 0) (E11 [] (v11 g)) (H11 cs g) d0 (.exit 0 (E11 [] (v11 g)) (H11 cs g) d0) :=
  trip_shed hF (by rfl) [] 5 K11 [0, 2, 3]
    (ofK (b := (true = true ∧ belowVs 5 cs = true ∧ true = true ∧ true = true ∧ True) ∧ XR.exit 0 (E11 [] (v11 g)) (H11 cs g) d0 = .exit 0 (E11 [] (v11 g)) (H11 cs g) d0) (by kernel_rfl) ⟨⟨rfl, hb, rfl, rfl, trivial⟩, rfl⟩)
theorem s11d : Trip P 52 (lp Tryd.f11 0) (E11 [] .slice0) H2 d0 (.exit 0 (E11 [] .slice0) H2 d0) :=
  trip_shed hF (by rfl) [] 2 KT [0, 2, 3]
    (ofK (b := (true = true ∧ true = true ∧ true = true ∧ True) ∧ XR.exit 0 (E11 [] .slice0) H2 d0 = .exit 0 (E11 [] .slice0) H2 d0) (by kernel_rfl) ⟨⟨rfl, rfl, rfl, trivial⟩, rfl⟩)
theorem pstep_le (b : UInt8) (t : List UInt8) : (pstep b t).2.length ≤ t.length := by
  unfold pstep
  split
  · split
    · split
      · simp only [List.length_cons]; omega
      · exact Nat.le_refl _
    · exact Nat.le_refl _
  · exact Nat.le_refl _
structure St11 where
  f : Nat
  s : List UInt8
  cs : List AV
  g : Nat
  hf : s.length ≤ f
  hl : cs.length = g + 1
  hg : g + f ≤ 10000000
  hb : belowVs 5 cs = true
theorem loop11 : ∀ x : St11, TripL P 52 (lp Tryd.f11 0) (E11 x.s (v11 x.g)) (H11 x.cs x.g) d0 (.exit 0 (E11 [] (v11 (x.g + (pdF x.f x.s).length))) (H11 (x.cs ++ (pdF x.f x.s).map u8) (x.g + (pdF x.f x.s).length)) d0) := by
  refine TripL.fam (fun (x : St11) => E11 x.s (v11 x.g)) (fun (x : St11) => H11 x.cs x.g) d0 (fun (x : St11) => .exit 0 (E11 [] (v11 (x.g + (pdF x.f x.s).length))) (H11 (x.cs ++ (pdF x.f x.s).map u8) (x.g + (pdF x.f x.s).length)) d0) (fun x => x.f) fun ⟨f, s, cs, g, hf, hl, hg, hb⟩ => ?_
  simp only
  cases s with
  | nil =>
    have : pdF f [] = [] := by cases f <;> rfl
    rw [this]
    simp only [List.map_nil, List.append_nil, List.length_nil, Nat.add_zero]
    exact .inl ⟨rfl, s11c cs g hb⟩
  | cons b t =>
    cases f with
    | zero => simp at hf
    | succ f =>
      have h2 := pstep_le b t
      refine .inr ⟨⟨f, (pstep b t).2, cs ++ [u8 (pstep b t).1], g + 1, ?_, by simp [hl], by omega, below_app hb rfl⟩, by simp, ?_, s11L b t cs g hl (by omega) hb⟩
      · simp only [List.length_cons] at hf; omega
      · have e : g + 1 + (pdF f (pstep b t).2).length = g + (pdF (f + 1) (b :: t)).length := by rw [pdF, List.length_cons]; omega
        simp only
        rw [e]
        simp only [pdF, List.map_cons, List.append_assoc, List.singleton_append, List.length_cons, List.cons_append, List.nil_append]
/-- P9.3 -/
def pdL (s : List UInt8) : List UInt8 := pdF s.length s
theorem takeN_all (cs : List AV) : takeN cs 0 cs.length = cs := by unfold takeN; simp
theorem pdecode_T (s : List UInt8) (hlen : s.length ≤ 1000000) (h : Heap) : CallT P 11 [.str s] h (.ret (.str (pdL s)) h none) := by
  cases s with
  | nil =>
    exact pure_hC tabOK hF (by rfl) (by rfl) [(99, .l [0, 2, 3] (.exit 0 (E11 [] .slice0) H2 d0))] Tryd.func11 (by kernel_rfl)
      (ofK (b := TripI P 52 (.loop (lp Tryd.f11 0)) (E11 [] .slice0) H2 d0 (.exit 0 (E11 [] .slice0) H2 d0) ∧ AV.str [] = .str []) (by kernel_rfl) ⟨⟨(TripL.stop rfl s11d).trip⟩, rfl⟩) h
  | cons b t =>
    have h2 := pstep_le b t
    have hl := loop11 ⟨t.length, (pstep b t).2, [u8 (pstep b t).1], 0, h2, rfl, by simp only [List.length_cons] at hlen; omega, rfl⟩
    simp only at hl
    have hd : pdL (b :: t) = (pstep b t).1 :: pdF t.length (pstep b t).2 := rfl
    have e1 : [u8 (pstep b t).1] ++ (pdF t.length (pstep b t).2).map u8 = (pdL (b :: t)).map u8 := by rw [hd]; rfl
    have e2 : 0 + (pdF t.length (pstep b t).2).length + 1 = (pdL (b :: t)).length := by rw [hd]; simp
    rw [e1] at hl
    generalize 0 + (pdF t.length (pstep b t).2).length = g at *
    have hT := (TripL.next (s11F b t) hl).trip
    generalize pdL (b :: t) = out at *
    have hcs : (out.map u8).length = g + 1 := by rw [List.length_map]; omega
    have htk : takeN (out.map u8) 0 (g + 1) = out.map u8 := by rw [← hcs]; exact takeN_all _
    generalize hc : out.map u8 = cs at *
    exact pure_hC tabOK hF (by rfl) (by rfl) [(99, .l [0, 2, 3] (.exit 0 (E11 [] (v11 g)) (H11 cs g) d0)), (51, .u (.str out))] Tryd.func11 (by kernel_rfl)
      (ofK (b := TripI P 52 (.loop (lp Tryd.f11 0)) (E11 (b :: t) .slice0) H2 d0 (.exit 0 (E11 [] (v11 g)) (H11 cs g) d0) ∧ (g = g ∧ 0 + (g + 1) ≤ cs.length ∧ takeN cs 0 (g + 1) = out.map u8) ∧ AV.str out = .str out) (by kernel_rfl)
        ⟨⟨hT⟩, ⟨rfl, by omega, by rw [hc]; exact htk⟩, rfl⟩) h
end Go.Proofs.YtlmpigpkdelopaaDoor

namespace Go.Proofs.YtlmpigpkdelopaaDoor
open Go Go.Rk
set_option maxRecDepth 1000000
set_option linter.unusedVariables false
set_option linter.unusedSimpArgs false
set_option linter.constructorNameAsVariable false
set_option linter.unusedSectionVars false
/-! what is told by percent signs is what it was -/
theorem pdF_more : ∀ {f g : Nat} {s : List UInt8}, s.length ≤ f → s.length ≤ g → pdF f s = pdF g s
  | 0, 0, s, _, _ => rfl
  | 0, g + 1, [], _, _ => rfl
  | 0, g + 1, b :: t, h, _ => absurd h (by simp)
  | f + 1, 0, [], _, _ => rfl
  | f + 1, 0, b :: t, _, h => absurd h (by simp)
  | f + 1, g + 1, [], _, _ => rfl
  | f + 1, g + 1, b :: t, h1, h2 => by
    rw [pdF, pdF]
    have := pstep_le b t
    simp only [List.length_cons] at h1 h2
    rw [pdF_more (f := f) (g := g) (by omega) (by omega)]
theorem pdL_cons (b : UInt8) (t : List UInt8) : pdL (b :: t) = (pstep b t).1 :: pdL (pstep b t).2 := by
  show pdF (t.length + 1) (b :: t) = _
  rw [pdF]
  have := pstep_le b t
  unfold pdL
  rw [pdF_more (f := t.length) (g := (pstep b t).2.length) this (Nat.le_refl _)]
theorem dig_back : ((List.range 16).all fun k => decide (digN (digs.getD k 0).toNat = some k)) = true := by kernel_rfl
theorem dig_some {k : Nat} (h : k < 16) : digN (digs.getD k 0).toNat = some k := of_decide_eq_true (List.all_eq_true.1 dig_back k (List.mem_range.2 h))
theorem pd_hex (b : UInt8) (r : List UInt8) : pdL (hexB b ++ r) = b :: pdL r := by
  have hb := bt b
  show pdL (37 :: digs.getD (b.toNat / 16) 0 :: digs.getD (b.toNat % 16) 0 :: r) = _
  rw [pdL_cons]
  have e : pstep 37 (digs.getD (b.toNat / 16) 0 :: digs.getD (b.toNat % 16) 0 :: r) = (b, r) := by
    unfold pstep
    rw [if_pos (by rfl)]
    simp only [dig_some (show b.toNat / 16 < 16 by omega), dig_some (show b.toNat % 16 < 16 by omega)]
    rw [show b.toNat / 16 * 16 + b.toNat % 16 = b.toNat by omega, u8_ext rfl]
  rw [e]
theorem pd_flat : ∀ (l r : List UInt8), pdL (l.flatMap hexB ++ r) = l ++ pdL r
  | [], r => rfl
  | b :: l, r => by rw [List.flatMap_cons, List.append_assoc, pd_hex, pd_flat l r]; rfl
theorem in_pct : inS 37 6 = true := by kernel_rfl
theorem pd_one {c : Nat} (r : List UInt8) : pdL (one 6 c ++ r) = encB c ++ pdL r := by
  unfold one
  cases h : inS c 6 with
  | true => exact pd_flat _ _
  | false =>
    have h1 := inS_false (by omega) h
    have e : encB c = [UInt8.ofNat c] := by simp [encB, encN, show c < 128 by omega]
    have h37 : c ≠ 37 := fun e => by rw [e, in_pct] at h; cases h
    show pdL (encB c ++ r) = _
    rw [e]
    show pdL (UInt8.ofNat c :: r) = UInt8.ofNat c :: pdL r
    rw [pdL_cons]
    have e2 : pstep (UInt8.ofNat c) r = (UInt8.ofNat c, r) := by unfold pstep; rw [if_neg (by rw [ofNat8 (by omega)]; exact h37)]
    rw [e2]
theorem pd_all : ∀ cs : List Nat, pdL (cs.flatMap (one 6)) = cs.flatMap encB
  | [] => rfl
  | c :: cs => by rw [List.flatMap_cons, pd_one, pd_all cs, List.flatMap_cons]
theorem pd_enc (s : List UInt8) : pdL (encS s 6) = (decL s).flatMap encB := pd_all _
theorem dig_out : (digs.all fun x => !inS x.toNat 6) = true := by kernel_rfl
theorem dig_mem {k : Nat} (h : k < 16) : digs.getD k 0 ∈ digs := by
  have h' : k < digs.length := h
  rw [List.getD_eq_getElem?_getD, List.getElem?_eq_getElem h']
  exact List.getElem_mem h'
theorem dig_ok {k : Nat} (h : k < 16) : inS (digs.getD k 0).toNat 6 = false := by
  have := List.all_eq_true.1 dig_out _ (dig_mem h)
  simpa using this
/-- what is told has, of the set, the percent sign alone -/
theorem enc_in {s : List UInt8} {x : UInt8} (hx : x ∈ encS s 6) : x.toNat = 37 ∨ inS x.toNat 6 = false := by
  unfold encS at hx
  obtain ⟨c, _, hx⟩ := List.mem_flatMap.1 hx
  unfold one at hx
  cases h : inS c 6 with
  | true =>
    rw [h] at hx
    obtain ⟨b, _, hx⟩ := List.mem_flatMap.1 (show x ∈ (encB c).flatMap hexB from hx)
    have hb := bt b
    simp only [hexB, List.mem_cons, List.mem_nil_iff, or_false] at hx
    rcases hx with rfl | rfl | rfl
    · exact .inl rfl
    · exact .inr (dig_ok (by omega))
    · exact .inr (dig_ok (by omega))
  | false =>
    rw [h] at hx
    have h1 := inS_false (by omega) h
    have e : encB c = [UInt8.ofNat c] := by simp [encB, encN, show c < 128 by omega]
    have hx : x ∈ encB c := hx
    rw [e] at hx
    have hx := List.mem_singleton.1 hx
    subst hx
    rw [ofNat8 (by omega)]
    exact .inr h
/-! the law -/
abbrev E3 (s e c : List UInt8) (i : Nat) : T := envOf [(0, .str s), (2, .bool false), (3, .str c), (5, .str e), (6, i64 i)]
noncomputable abbrev H3 (cs : List AV) : Heap := heapOf 3 ((2, .cells cs 21 0 0 false) :: tabs)
section
variable (s e c : List UInt8) (cs : List AV)
abbrev at3 (i : Nat) : UInt8 := e.getD i 0
theorem w3 (b : UInt8) : AV.int .i32 (wrapF .i32 (Int.ofNat b.toNat)) = i32 (Int.ofNat b.toNat) := by have := bt b; rw [wrapI32 (by omega)]
theorem s3a {i : Nat} (hb : belowVs 3 cs = true) (hi : i < e.length) (hl : e.length ≤ 1000000) (hin : inS (e.getD i 0).toNat 6 = false) : Trip P 43 (lp Tryd.f3 0) (E3 s e c i) (H3 cs) d0 (.nrm (E3 s e c (i + 1)) (H3 cs) d0) :=
  trip_shed hF (by rfl) [(22, .e (.bool true)), (27, .u .undef), (28, .e (i32 (Int.ofNat (e.getD i 0).toNat))), (29, .c (.ret (.bool false) (H3 cs) none)), (24, .e (i64 (i + 1)))] 3 K7 [0, 2, 3, 5, 6]
    (ofK (b := AV.bool (ltI (Int.ofNat i) (Int.ofNat e.length)) = .bool true ∧ i < e.length ∧ AV.int .i32 (wrapF .i32 (Int.ofNat (e.getD i 0).toNat)) = i32 (Int.ofNat (e.getD i 0).toNat) ∧ CallI P 10 [i32 (Int.ofNat (e.getD i 0).toNat), by8 6] (H3 cs) (.ret (.bool false) (H3 cs) none) ∧
        AV.int .i64 (wrapF .i64 (Int.ofNat (i + 1))) = i64 (i + 1) ∧ (true = true ∧ belowVs 3 cs = true ∧ true = true ∧ true = true ∧ True) ∧ XR.nrm (E3 s e c (i + 1)) (H3 cs) d0 = .nrm (E3 s e c (i + 1)) (H3 cs) d0) (by kernel_rfl)
      ⟨by rw [ltT hi], hi, w3 _, ⟨by rw [← hin]; exact in_T _⟩, by rw [wrapI64 (by omega)], ⟨rfl, hb, rfl, rfl, trivial⟩, rfl⟩)
theorem s3b {i : Nat} (hb : belowVs 3 cs = true) (hi : i < e.length) (hl : e.length ≤ 1000000) (hin : inS (e.getD i 0).toNat 6 = true) (h37 : (e.getD i 0).toNat = 37) : Trip P 43 (lp Tryd.f3 0) (E3 s e c i) (H3 cs) d0 (.nrm (E3 s e c (i + 1)) (H3 cs) d0) :=
  trip_shed hF (by rfl) [(22, .e (.bool true)), (27, .u .undef), (28, .e (i32 (Int.ofNat (e.getD i 0).toNat))), (29, .c (.ret (.bool true) (H3 cs) none)), (33, .u .undef), (34, .e (.bool false)), (24, .e (i64 (i + 1)))] 3 K7 [0, 2, 3, 5, 6]
    (ofK (b := AV.bool (ltI (Int.ofNat i) (Int.ofNat e.length)) = .bool true ∧ i < e.length ∧ AV.int .i32 (wrapF .i32 (Int.ofNat (e.getD i 0).toNat)) = i32 (Int.ofNat (e.getD i 0).toNat) ∧ CallI P 10 [i32 (Int.ofNat (e.getD i 0).toNat), by8 6] (H3 cs) (.ret (.bool true) (H3 cs) none) ∧
        i < e.length ∧ AV.bool (!eqI (Int.ofNat (e.getD i 0).toNat) (Int.ofNat 37)) = .bool false ∧ AV.int .i64 (wrapF .i64 (Int.ofNat (i + 1))) = i64 (i + 1) ∧ (true = true ∧ belowVs 3 cs = true ∧ true = true ∧ true = true ∧ True) ∧ XR.nrm (E3 s e c (i + 1)) (H3 cs) d0 = .nrm (E3 s e c (i + 1)) (H3 cs) d0) (by kernel_rfl)
      ⟨by rw [ltT hi], hi, w3 _, ⟨by rw [← hin]; exact in_T _⟩, hi, by rw [eqN, decide_eq_true h37]; rfl, by rw [wrapI64 (by omega)], ⟨rfl, hb, rfl, rfl, trivial⟩, rfl⟩)
theorem s3c {i : Nat} (hb : belowVs 3 cs = true) (hi : ¬ i < e.length) : Trip P 43 (lp Tryd.f3 0) (E3 s e c i) (H3 cs) d0 (.exit 0 (E3 s e c i) (H3 cs) d0) :=
  trip_shed hF (by rfl) [(22, .e (.bool false))] 3 K7 [0, 2, 3, 5, 6]
    (ofK (b := AV.bool (ltI (Int.ofNat i) (Int.ofNat e.length)) = .bool false ∧ (true = true ∧ belowVs 3 cs = true ∧ true = true ∧ true = true ∧ True) ∧ XR.exit 0 (E3 s e c i) (H3 cs) d0 = .exit 0 (E3 s e c i) (H3 cs) d0) (by kernel_rfl) ⟨by rw [ltF (by omega)], ⟨rfl, hb, rfl, rfl, trivial⟩, rfl⟩)
theorem loop3 (hb : belowVs 3 cs = true) (hl : e.length ≤ 1000000) (he : ∀ x ∈ e, x.toNat = 37 ∨ inS x.toNat 6 = false) : ∀ i : { i : Nat // i ≤ e.length }, TripL P 43 (lp Tryd.f3 0) (E3 s e c i.1) (H3 cs) d0 (.exit 0 (E3 s e c e.length) (H3 cs) d0) := by
  refine TripL.fam (fun (i : { i : Nat // i ≤ e.length }) => E3 s e c i.1) (fun _ => H3 cs) d0 (fun _ => .exit 0 (E3 s e c e.length) (H3 cs) d0) (fun i => e.length - i.1) fun ⟨i, hi⟩ => ?_
  simp only
  by_cases h : i < e.length
  · refine .inr ⟨⟨i + 1, h⟩, (by show e.length - (i + 1) < e.length - i; omega), trivial, ?_⟩
    have hm : e.getD i 0 ∈ e := by
      rw [List.getD_eq_getElem?_getD, List.getElem?_eq_getElem h]
      exact List.getElem_mem h
    cases hin : inS (e.getD i 0).toNat 6 with
    | true =>
      rcases he _ hm with h1 | h1
      · exact s3b s e c cs hb h hl hin h1
      · rw [hin] at h1; cases h1
    | false => exact s3a s e c cs hb h hl hin
  · have e' : i = e.length := by omega
    subst e'
    exact .inl ⟨rfl, s3c s e c cs hb (by omega)⟩
end
theorem back_big {s : List UInt8} (h : 8192 < s.length) (h0 : Heap) : CallT P 3 [.str s] h0 (.ret (.bool true) h0 none) :=
  pure_hC tabOK hF (by rfl) (by rfl) [(9, .e (.bool true)), (10, .c (.ret (.bool true) H2 none))] Tryd.func3 (by kernel_rfl)
    (ofK (b := AV.bool (ltI (Int.ofNat 8192) (Int.ofNat s.length)) = .bool true ∧ CallI P 6 [] H2 (.ret (.bool true) H2 none) ∧ AV.bool true = .bool true) (by kernel_rfl) ⟨by rw [ltT h], ⟨works_T _⟩, rfl⟩) h0
abbrev E30 : T := E3 [] [] [] 0
theorem s3d : Trip P 43 (lp Tryd.f3 0) E30 H2 d0 (.exit 0 E30 H2 d0) :=
  trip_shed hF (by rfl) [] 2 KT [0, 2, 3, 5, 6]
    (ofK (b := (true = true ∧ true = true ∧ true = true ∧ True) ∧ XR.exit 0 E30 H2 d0 = .exit 0 E30 H2 d0) (by kernel_rfl) ⟨⟨rfl, rfl, rfl, trivial⟩, rfl⟩)
theorem back_nil (h0 : Heap) : CallT P 3 [.str []] h0 (.ret (.bool true) h0 none) :=
  pure_hC tabOK hF (by rfl) (by rfl) [(13, .c (.ret .slice0 H2 none)), (14, .c (.ret (.tup [.str [], .bool true]) H2 none)), (18, .c (.ret (.str []) H2 none)), (99, .l [0, 2, 3, 5, 6] (.exit 0 E30 H2 d0)), (37, .c (.ret (.str []) H2 none)), (41, .c (.ret (.bool true) H2 none))] Tryd.func3 (by kernel_rfl)
    (ofK (b := CallI P 8 [.str []] H2 (.ret .slice0 H2 none) ∧ CallI P 7 [.slice0] H2 (.ret (.tup [.str [], .bool true]) H2 none) ∧ CallI P 9 [.str [], by8 6] H2 (.ret (.str []) H2 none) ∧ TripI P 43 (.loop (lp Tryd.f3 0)) E30 H2 d0 (.exit 0 E30 H2 d0) ∧
        CallI P 11 [.str []] H2 (.ret (.str []) H2 none) ∧ CallI P 6 [] H2 (.ret (.bool true) H2 none) ∧ AV.bool true = .bool true) (by kernel_rfl)
      ⟨⟨rdecode_nil _⟩, ⟨rencode_nil _⟩, ⟨encode_T 6 [] (by simp) _⟩, ⟨(TripL.stop rfl s3d).trip⟩, ⟨pdecode_T [] (by simp) _⟩, ⟨works_T _⟩, rfl⟩) h0
theorem back_gen {s e c : List UInt8} {cs : List AV} {n : Nat} (hs : s.length ≤ 8192) (h1 : CallT P 8 [.str s] H2 (.ret (.slice 2 0 0 n n 1 false) (H3 cs) none)) (h2 : CallT P 7 [.slice 2 0 0 n n 1 false] (H3 cs) (.ret (.tup [.str c, .bool true]) (H3 cs) none))
    (h3 : CallT P 9 [.str s, by8 6] (H3 cs) (.ret (.str e) (H3 cs) none)) (h4 : Trip P 43 (.loop (lp Tryd.f3 0)) (E3 s e c 0) (H3 cs) d0 (.exit 0 (E3 s e c e.length) (H3 cs) d0)) (h5 : CallT P 11 [.str e] (H3 cs) (.ret (.str c) (H3 cs) none)) (h0 : Heap) :
    CallT P 3 [.str s] h0 (.ret (.bool true) h0 none) :=
  pure_hC tabOK hF (by rfl) (by rfl) [(9, .e (.bool false)), (13, .c (.ret (.slice 2 0 0 n n 1 false) (H3 cs) none)), (14, .c (.ret (.tup [.str c, .bool true]) (H3 cs) none)), (18, .c (.ret (.str e) (H3 cs) none)), (99, .l [0, 2, 3, 5, 6] (.exit 0 (E3 s e c e.length) (H3 cs) d0)), (37, .c (.ret (.str c) (H3 cs) none)), (39, .e (.bool true)), (41, .c (.ret (.bool true) (H3 cs) none))] Tryd.func3 (by kernel_rfl)
    (ofK (b := AV.bool (ltI (Int.ofNat 8192) (Int.ofNat s.length)) = .bool false ∧ CallI P 8 [.str s] H2 (.ret (.slice 2 0 0 n n 1 false) (H3 cs) none) ∧ CallI P 7 [.slice 2 0 0 n n 1 false] (H3 cs) (.ret (.tup [.str c, .bool true]) (H3 cs) none) ∧
        CallI P 9 [.str s, by8 6] (H3 cs) (.ret (.str e) (H3 cs) none) ∧ TripI P 43 (.loop (lp Tryd.f3 0)) (E3 s e c 0) (H3 cs) d0 (.exit 0 (E3 s e c e.length) (H3 cs) d0) ∧ CallI P 11 [.str e] (H3 cs) (.ret (.str c) (H3 cs) none) ∧
        AV.bool (beqB c c) = .bool true ∧ CallI P 6 [] (H3 cs) (.ret (.bool true) (H3 cs) none) ∧ AV.bool true = .bool true) (by kernel_rfl)
      ⟨by rw [ltF hs], ⟨h1⟩, ⟨h2⟩, ⟨h3⟩, ⟨h4⟩, ⟨h5⟩, by rw [beqB_iff.2 rfl], ⟨works_T _⟩, rfl⟩) h0
theorem new_eq (cs : List AV) : H2.new (.cells cs 21 0 0 false) = H3 cs := by kernel_rfl
theorem back_T (s : List UInt8) (h0 : Heap) : CallT P 3 [.str s] h0 (.ret (.bool true) h0 none) := by
  by_cases hs : s.length ≤ 8192
  · cases s with
    | nil => exact back_nil h0
    | cons b t =>
      have hel := encS_len 6 (b :: t)
      have h1 := rdecode_T b t (by omega) H2
      rw [new_eq] at h1
      have hdl : (decL (b :: t)).length ≤ (b :: t).length := decF_len
      have h2 := rencode_T (decL (b :: t)) (fun c hc => decF_valid c hc) (by omega) (b := 2) (g := 0) (fz := 0) (Nat.le_refl _) (H3 (runeV (decL (b :: t)))) (by kernel_rfl)
      have h3 := encode_T 6 (b :: t) (by omega) (H3 (runeV (decL (b :: t))))
      have h4 := (loop3 (b :: t) (encS (b :: t) 6) ((decL (b :: t)).flatMap encB) (runeV (decL (b :: t))) runeV_below (by omega) (fun x hx => enc_in hx) ⟨0, Nat.zero_le _⟩).trip
      have h5 := pdecode_T (encS (b :: t) 6) (by omega) (H3 (runeV (decL (b :: t))))
      rw [pd_enc] at h5
      exact back_gen hs h1 h2 h3 h4 h5 h0
  · exact back_big (by omega) h0
end Go.Proofs.YtlmpigpkdelopaaDoor
