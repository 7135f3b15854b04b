/-
  Regions that draw their order are done rightly whatever the order; a call that the evaluator says is true is true on the machine. No condition.
-/
import Derived.Test.YtjjjhkdpnpjnhaaGreatDoorC
import Derived.Orders
import Derived.Below
import Derived.ProofKit
import Derived.Handed
import Derived.ChangeMaps5
import Derived.ChangeSame
namespace Go.Rk
open Go
set_option linter.unusedVariables false
set_option linter.unusedSimpArgs false
set_option linter.constructorNameAsVariable false
set_option linter.unusedSectionVars false
variable [TabC]
section
variable {P : Program} {N : Nat} {F : Fns}
/-- what one operation comes to -/
def OpOK (P : Program) (σ : Sg) (b : Frame) (h : Heap) (w : World) (rc : Rec) (cs : List Frame) (t : Array Value) (ds : List Deferred) (dst : Option Nat) (todo todo' : List Item) (m : Machine) : DRes → Prop
  | .fail => True
  | .go v h' d' => ∃ σ' c ds' cs' w', Steps P m (lone (fat b (setD t dst c) ds' todo') cs' w') ∧ VR σ' v c ∧ DfR σ' d'.dfs ds' ∧ RnR σ' d'.rnd b.roundOf ∧ RcR σ' b.kind d'.rc cs' ∧ Aft P σ h w σ' h' w' ∧ CsR rc cs d'.rc cs'
  | .pan v h' => ∃ σ' c w', Steps P m (lone { fat b t ds todo with mode := .panicking [{ v := c, recovered := false }] } cs w') ∧ VR σ' v c ∧ Aft P σ h w σ' h' w'
theorem op_res (hG : GoOK P F) (hC : CallOK P F) (hR : RndOK P F) {ops : Array Oper} {i : Nat} {rest : List Nat} {o : Oper} (ho : ops[i]? = some o)
    (σ : Sg) (b : Frame) (e : T) (h : Heap) (d : Ds) (t : Array Value) (ds : List Deferred) (cs : List Frame) (w : World) (k : List Item) (hb : Base P σ h w) (her : ER σ N e t) (hdf : DfR σ d.dfs ds) (hrn : RnR σ d.rnd b.roundOf) (hrc : RcR σ b.kind d.rc cs)
    (hw : Region.wanted o (yielded ops t) = true) :
    OpOK P σ b h w d.rc cs t ds o.dst (.inRegion ops (i :: rest) :: k) (.inRegion ops rest :: k) (lone (fat b t ds (.inRegion ops (i :: rest) :: k)) cs w) (or3 ((cop P o.op).run e h) F h d) := by
  have hf1 : ∀ k, σ h.next k = none := fun k => hb.fr _ k (Nat.le_refl _)
  have hop0 := cop_ok hb.hr hb.gl hf1 (fun x => opd_ok her hb.gl x) o
  by_cases hdef : ∃ c, o.op = .defer c
  · obtain ⟨c, hc⟩ := hdef
    rcases defer_run (P := P) (e := e) (h := h) hc with h0 | ⟨v, args, h0⟩
    · rw [h0]; trivial
    · rw [h0] at hop0 ⊢
      obtain ⟨x, hx, hdr⟩ := hop0
      show OpOK P σ b h w d.rc cs t ds o.dst _ _ _ (match d.rnd with
        | none => .go (.tup []) h { dfs := .call v args :: d.dfs, rc := d.rc, rnd := none }
        | some _ => .fail)
      cases hr : d.rnd with
      | some l => trivial
      | none =>
        rw [hr] at hrn
        have hb' : b.roundOf = none := hrn
        have hx' : (o.semAt b.roundOf (evalT t)).run P w = .ok (.defer x) w := by rw [hb']; exact hx
        exact ⟨σ, undef, x :: ds, cs, w, .one (st_dfr ho hw hx'), undef_VR, ⟨_, _, rfl, hdr, hdf⟩, hrn, hrc, Aft.refl hb.hr, CsR.refl _ _⟩
  have hop := hop0
  rw [← Oper.semAt_eq b.roundOf (evalT t) o (fun c hc => hdef ⟨c, hc⟩)] at hop
  cases hr : (cop P o.op).run e h <;> rw [hr] at hop
  case fail => trivial
  case val v h' =>
    obtain ⟨n, c, w', σ', h1, h2, h3, h4⟩ := hop
    exact ⟨σ', c, ds, cs, w', .one (st_op ho hw h1 h2), h3, hdf.mono h4.le, hrn.mono h4.le, hrc.mono h4.le, h4, CsR.refl _ _⟩
  case pan v h' =>
    obtain ⟨c, w', σ', h1, h2, h3⟩ := hop
    exact ⟨σ', c, w', .one (st_pan ho hw h1), h2, h3⟩
  case enter f args =>
    obtain ⟨ca, h1, h2⟩ := hop
    have hcall := hC σ f args ca h w none .normal (fat b t ds (.inRegion ops (i :: rest) :: k) :: cs) hb h1 trivial (.inl rfl)
    have hgo := hG f args none h
    unfold or3
    simp only []
    cases hx : F.call f args none h with
    | fail => trivial
    | ret v h' rc' =>
      rw [hx] at hcall hgo
      have hst := st_enter (k := k) (cs := cs) (ds := ds) (rest := rest) ho hw (h2 (hgo (by simp)))
      obtain ⟨σ', c, fr, cs', w', x1, x2, x3, x4, x5, x6, x7⟩ := hcall
      rcases x7 with ⟨_, rfl⟩ | ⟨_, _, _, _, _, x8, _⟩
      · have hl := step_leave_returned (cs := cs) (c := fat b t ds (.inRegion ops (i :: rest) :: k)) (P := P) (fr := fr) (w := w') (v := c) ⟨x2.1, x2.2.1, x3, x2.2.2⟩
        rw [fin_fat ho] at hl
        exact ⟨σ', c, ds, cs, w', (Steps.one hst).trans (x1.trans (.one hl)), x5, hdf.mono x6.le, hrn.mono x6.le, hrc.mono x6.le, x6, CsR.refl _ _⟩
      · cases x8
    | pan v h' rc' =>
      rw [hx] at hcall hgo
      have hst := st_enter (k := k) (cs := cs) (ds := ds) (rest := rest) ho hw (h2 (hgo (by simp)))
      obtain ⟨σ', c, fr, cs', w', x1, x2, x3, x4, x5, x6, x7⟩ := hcall
      rcases x7 with ⟨_, rfl⟩ | ⟨_, _, _, _, _, x8, _⟩
      · have hl := step_leave_panicked (cs := cs) (c := fat b t ds (.inRegion ops (i :: rest) :: k)) (P := P) (fr := fr) (w := w') (chain := [{ v := c, recovered := false }]) ⟨x2.1, x2.2.1, x2.2.2⟩
        exact ⟨σ', c, w', (Steps.one hst).trans (x1.trans (.one hl)), x5, x6⟩
      · cases x8
  case round l args =>
    obtain ⟨L, ca, h1, h2, h3⟩ := hop
    have hrn' := hR σ l L args ca h w (fat b t ds (.inRegion ops (i :: rest) :: k)) cs (lone (fat b t ds (.inRegion ops (i :: rest) :: k)) cs w) hb h1 h2
      (fun lf f tm as bd w1 hy => st_round ho hw (h3.trans hy))
    unfold or3
    simp only []
    cases hx : F.rnd l args h with
    | fail => trivial
    | ret v h' rc' =>
      rw [hx] at hrn'
      obtain ⟨σ', x, w', x1, x2, x3⟩ := hrn'
      rw [fin_fat ho] at x1
      exact ⟨σ', x, ds, cs, w', x1, x2, hdf.mono x3.le, hrn.mono x3.le, hrc.mono x3.le, x3, CsR.refl _ _⟩
    | pan v h' rc' =>
      rw [hx] at hrn'
      obtain ⟨σ', x, w', x1, x2, x3⟩ := hrn'
      exact ⟨σ', x, w', x1, x2, x3⟩
  case dfr v args =>
    obtain ⟨x, hx, hdr⟩ := hop
    show OpOK P σ b h w d.rc cs t ds o.dst _ _ _ (match d.rnd with
      | none => .go (.tup []) h { dfs := .call v args :: d.dfs, rc := d.rc, rnd := none }
      | some _ => .fail)
    cases hr : d.rnd with
    | some l => trivial
    | none =>
      rw [hr] at hrn
      exact ⟨σ, undef, x :: ds, cs, w, .one (st_dfr ho hw hx), undef_VR, ⟨_, _, rfl, hdr, hdf⟩, hrn, hrc, Aft.refl hb.hr, CsR.refl _ _⟩
  case rcv =>
    show OpOK P σ b h w d.rc cs t ds o.dst _ _ _ (match d.rnd, d.rc with
      | none, some none => .go .nilIface h d
      | none, some (some v) => .go v h { dfs := d.dfs, rc := some none, rnd := none }
      | _, _ => .fail)
    cases hr : d.rnd with
    | some l => cases d.rc <;> trivial
    | none =>
      rw [hr] at hrn
      have hb' : b.roundOf = none := hrn
      cases hc : d.rc with
      | none => trivial
      | some r =>
        rw [hc] at hrc
        cases r with
        | none =>
          have hrc0 := hrc
          obtain ⟨hk, c, rest', rfl, hm⟩ := hrc
          have hx : tryRecover (fat b t ds (.inRegion ops (i :: rest) :: k)) (c :: rest') = none := by
            unfold tryRecover fat
            simp only [hk]
            split
            · rename_i v older h1; exact absurd h1 (hm _ _ _)
            · rfl
          exact ⟨σ, .nilIface, ds, c :: rest', w, .one (st_rcv ho hw hop hb' (by rw [hx])), by simp only [VR], hdf, by rw [hr]; exact hrn, by rw [hc]; exact hrc0, Aft.refl hb.hr, by rw [hc]; exact CsR.refl _ _⟩
        | some v =>
          obtain ⟨hk, c, rest', cv, older, rfl, hm, hv⟩ := hrc
          have hx : tryRecover (fat b t ds (.inRegion ops (i :: rest) :: k)) (c :: rest') = some (cv, { c with mode := .panicking ({ v := cv, recovered := true } :: older) } :: rest') := by
            unfold tryRecover fat
            simp only [hk, hm]
          exact ⟨σ, cv, ds, { c with mode := .panicking ({ v := cv, recovered := true } :: older) } :: rest', w, .one (st_rcv ho hw hop hb' (by rw [hx])), hv, hdf, hrn, ⟨hk, _, _, rfl, by intro v g older; simp⟩, Aft.refl hb.hr,
            .inr ⟨v, c, rest', cv, older, rfl, rfl, rfl, hm, rfl⟩⟩
end
end Go.Rk

namespace Go.Rk
open Go
set_option linter.unusedVariables false
set_option linter.unusedSimpArgs false
set_option linter.constructorNameAsVariable false
set_option linter.unusedSectionVars false
variable [TabC]

/-! what is known of memory while a region runs -/
structure AftG (P : Program) (σ : Sg) (h : Heap) (w : World) (σ' : Sg) (g' : G) (nx : Nat) (w' : World) : Prop where
  le : σ.le σ'
  hr : HR P σ' g' w'
  size : w.heap.size ≤ w'.heap.size
  frame : ∀ b, b < w.heap.size → (∀ i o L, h.t.get i = some o → σ i (genOf o) = some L → L.blk ≠ b) → w'.heap[b]? = w.heap[b]?
  back : ∀ i o L, g' i = some o → σ' i (genOf o) = some L → w.heap.size ≤ L.blk ∨ ∃ p M, h.t.get i = some p ∧ σ i (genOf p) = some M ∧ M.blk = L.blk
  new : ∀ i k L, σ' i k = some L → σ i k = some L ∨ h.t.get i ≠ none ∨ (h.next ≤ i ∧ i < nx)
  dom : ∀ i, g' i ≠ none → h.t.get i ≠ none ∨ (h.next ≤ i ∧ i < nx)
  keep : ∀ i, h.t.get i ≠ none → g' i ≠ none
  ro : ∀ i o, h.t.get i = some o → isRo o = true → g' i = some o ∧ ∀ L, σ i (genOf o) = some L → w'.heap[L.blk]? = w.heap[L.blk]?
  next : h.next ≤ nx
  os : w'.os = w.os
  tape : w'.tape = w.tape
  output : w'.output = w.output

def ext (g : G) (h : Heap) : G := fun i => match h.t.get i with
  | some o => some o
  | none => g i
section
variable {P : Program} {σ0 σ σ' : Sg} {h0 h h' : Heap} {w0 w w' : World} {g : G} {nx nx' : Nat}
theorem ext_some {i : Nat} {o : AObj} (hi : ext g h i = some o) : h.t.get i = some o ∨ (h.t.get i = none ∧ g i = some o) := by
  unfold ext at hi
  cases e : h.t.get i with
  | some p => rw [e] at hi; exact .inl hi
  | none => rw [e] at hi; exact .inr ⟨rfl, hi⟩
theorem ext_ne {i : Nat} (hi : ext g h i ≠ none) : h.t.get i ≠ none ∨ g i ≠ none := by
  cases e : ext g h i with
  | none => exact absurd e hi
  | some o =>
    rcases ext_some e with h1 | ⟨_, h1⟩
    · exact .inl (by rw [h1]; simp)
    · exact .inr (by rw [h1]; simp)
theorem AftG.step (A : AftG P σ0 h0 w0 σ g nx w) (hsub : ∀ i o, h.t.get i = some o → g i = some o) (hsep : ∀ i, h.next ≤ i → i < h'.next → g i = none)
    (B : Aft P σ h w σ' h' w') (hlo : h0.next ≤ h.next) (hnx : nx ≤ nx') (hhi : h'.next ≤ nx') : AftG P σ0 h0 w0 σ' (ext g h') nx' w' := by
  have hnone : ∀ i, h'.t.get i = none → h.t.get i = none := by
    intro i hi
    cases e : h.t.get i with
    | none => rfl
    | some o => exact absurd hi (B.keep i (by rw [e]; simp))
  have hid : ∀ i o, h'.t.get i = none → g i = some o → ∃ L, σ i (genOf o) = some L ∧ L.blk < w.heap.size ∧ OB P σ' L o w'.heap[L.blk]? := by
    intro i o hi hg
    obtain ⟨L, hL, hob⟩ := A.hr.obj i o hg
    obtain ⟨x, hx⟩ := hob.isSome
    have hlt : L.blk < w.heap.size := (Array.getElem?_eq_some_iff.1 hx).1
    refine ⟨L, hL, hlt, ?_⟩
    rw [B.frame L.blk hlt fun j p M hj hM e => ?_]
    · exact hob.mono B.le
    · have hji := A.hr.inj j i p o M L (hsub _ _ hj) hg hM hL e
      subst hji
      rw [hnone _ hi] at hj; cases hj
  refine ⟨Sg.le_trans A.le B.le, ⟨?_, ?_, ?_⟩, Nat.le_trans A.size B.size, ?_, ?_, ?_, ?_, ?_, ?_, by have := A.next; omega, B.os.trans A.os, B.tape.trans A.tape, B.output.trans A.output⟩
  · intro i o hi
    rcases ext_some hi with h1 | ⟨h1, h2⟩
    · exact B.hr.obj i o h1
    · obtain ⟨L, h3, h4, h5⟩ := hid i o h1 h2
      exact ⟨L, B.le _ _ _ h3, h5⟩
  · intro i j o p L M hi hj hL hM he
    rcases ext_some hi with h1 | ⟨h1, h2⟩ <;> rcases ext_some hj with h3 | ⟨h3, h4⟩
    · exact B.hr.inj i j o p L M h1 h3 hL hM he
    · obtain ⟨M', k1, k2, _⟩ := hid j p h3 h4
      rw [B.le _ _ _ k1] at hM; cases hM
      rcases B.back i o L h1 hL with k3 | ⟨p', L', k3, k4, k5⟩
      · omega
      · exact A.hr.inj i j p' p L' _ (hsub _ _ k3) h4 k4 k1 (k5.trans he)
    · obtain ⟨L', k1, k2, _⟩ := hid i o h1 h2
      rw [B.le _ _ _ k1] at hL; cases hL
      rcases B.back j p M h3 hM with k3 | ⟨p', M', k3, k4, k5⟩
      · omega
      · exact A.hr.inj i j o p' _ M' h2 (hsub _ _ k3) k1 k4 (he.trans k5.symm)
    · obtain ⟨L', k1, _⟩ := hid i o h1 h2
      obtain ⟨M', k2, _⟩ := hid j p h3 h4
      rw [B.le _ _ _ k1] at hL; cases hL
      rw [B.le _ _ _ k2] at hM; cases hM
      exact A.hr.inj i j o p _ _ h2 h4 k1 k2 he
  · intro i o k hi hk
    rcases ext_some hi with h1 | ⟨h1, h2⟩
    · exact B.hr.top i o k h1 hk
    · cases e : σ' i k with
      | none => rfl
      | some L =>
        rcases B.new i k L e with k1 | k1 | k1
        · rw [A.hr.top i o k h2 hk] at k1; cases k1
        · exact absurd (hnone _ h1) k1
        · rw [hsep i k1.1 k1.2] at h2; cases h2
  · intro b hb hn
    rw [B.frame b (Nat.lt_of_lt_of_le hb A.size) fun j p M hj hM e => ?_]
    · exact A.frame b hb hn
    · rcases A.back j p M (hsub _ _ hj) hM with k1 | ⟨p', M', k1, k2, k3⟩
      · omega
      · exact hn j p' M' k1 k2 (k3.trans e)
  · intro i o L hi hL
    rcases ext_some hi with h1 | ⟨h1, h2⟩
    · rcases B.back i o L h1 hL with k1 | ⟨p, M, k1, k2, k3⟩
      · exact .inl (Nat.le_trans A.size k1)
      · rcases A.back i p M (hsub _ _ k1) k2 with k4 | ⟨p', M', k4, k5, k6⟩
        · exact .inl (by omega)
        · exact .inr ⟨p', M', k4, k5, k6.trans k3⟩
    · obtain ⟨L', k1, _⟩ := hid i o h1 h2
      rw [B.le _ _ _ k1] at hL; cases hL
      exact A.back i o _ h2 k1
  · intro i k L hs
    rcases B.new i k L hs with k1 | k1 | k1
    · exact (A.new i k L k1).imp id (Or.imp id fun x => ⟨x.1, Nat.lt_of_lt_of_le x.2 hnx⟩)
    · have : g i ≠ none := by
        cases e : h.t.get i with
        | none => exact absurd e k1
        | some o => rw [hsub i o e]; simp
      exact .inr ((A.dom i this).imp id fun x => ⟨x.1, Nat.lt_of_lt_of_le x.2 hnx⟩)
    · exact .inr (.inr ⟨by omega, by omega⟩)
  · intro i hi
    have hg : g i ≠ none → h0.t.get i ≠ none ∨ (h0.next ≤ i ∧ i < nx') := fun hg => (A.dom i hg).imp id fun x => ⟨x.1, Nat.lt_of_lt_of_le x.2 hnx⟩
    rcases ext_ne hi with h1 | h1
    · rcases B.dom i h1 with k1 | k1
      · refine hg ?_
        cases e : h.t.get i with
        | none => exact absurd e k1
        | some o => rw [hsub i o e]; simp
      · exact .inr ⟨by omega, by omega⟩
    · exact hg h1
  · intro i hi
    have := A.keep i hi
    unfold ext
    split
    · simp
    · exact this
  · intro i o hi hro
    obtain ⟨k1, k2⟩ := A.ro i o hi hro
    cases e : h.t.get i with
    | some p =>
      have e2 := hsub i p e
      rw [k1] at e2; cases e2
      obtain ⟨k3, k4⟩ := B.ro i o e hro
      exact ⟨by unfold ext; rw [k3], fun L hL => (k4 L (A.le _ _ _ hL)).trans (k2 L hL)⟩
    | none =>
      have e2 : h'.t.get i = none := by
        cases e3 : h'.t.get i with
        | none => rfl
        | some p =>
          rcases B.dom i (by rw [e3]; simp) with h1 | h1
          · exact absurd e h1
          · rw [hsep i h1.1 h1.2] at k1; cases k1
      refine ⟨by unfold ext; rw [e2]; exact k1, fun L hL => ?_⟩
      rw [← k2 L hL]
      obtain ⟨L', k3, k4, _⟩ := hid i o e2 k1
      have k5 := A.le _ _ _ hL
      rw [k3] at k5; cases k5
      refine B.frame _ k4 fun j p M hj hM he => ?_
      have := A.hr.inj j i p o M _ (hsub _ _ hj) k1 hM k3 he
      subst this
      rw [e] at hj; cases hj
end

/-! the same value -/
mutual
theorem beqV_eq : ∀ {a b : AV}, beqV a b = true → a = b
  | .bool a, b, h => by cases b <;> simp_all [beqV] <;> (rename_i b; cases a <;> cases b <;> simp_all)
  | .int k a, b, h => by
    cases b <;> simp [beqV] at h
    obtain ⟨h1, h2⟩ := h
    rw [keq_eq h1]
    congr 1
    revert h2
    rename_i b
    cases a <;> cases b <;> simp [eqI] <;> omega
  | .str a, b, h => by
    cases b <;> simp [beqV] at h
    rw [beqB_eq] at h
    rw [eq_of_beq h]
  | .undef, b, h => by cases b <;> simp [beqV] at h
  | .nilp, b, h => by cases b <;> simp [beqV] at h; rfl
  | .slice0, b, h => by cases b <;> simp [beqV] at h; rfl
  | .map0, b, h => by cases b <;> simp [beqV] at h; rfl
  | .nilFunc, b, h => by cases b <;> simp [beqV] at h; rfl
  | .nilIface, b, h => by cases b <;> simp [beqV] at h; rfl
  | .yield l, b, h => by cases b <;> simp [beqV] at h
  | .ptr a c d, b, h => by cases b <;> simp [beqV] at h; obtain ⟨⟨rfl, rfl⟩, rfl⟩ := h; rfl
  | .slice a c d e f g x, b, h => by
    cases b <;> simp [beqV] at h
    rename_i x'
    obtain ⟨⟨⟨⟨⟨⟨rfl, rfl⟩, rfl⟩, rfl⟩, rfl⟩, rfl⟩, hx⟩ := h
    cases x <;> cases x' <;> simp_all
  | .map a, b, h => by cases b <;> simp [beqV] at h; subst h; rfl
  | .func f a c, b, h => by
    cases b <;> simp [beqV] at h
    obtain ⟨⟨rfl, h1⟩, h2⟩ := h
    rw [beqVs_eq h1, beqVs_eq h2]
  | .iface t v, b, h => by
    cases b <;> simp [beqV] at h
    obtain ⟨rfl, h1⟩ := h
    rw [beqV_eq h1]
  | .agg a, b, h => by cases b <;> simp [beqV] at h; rw [beqVs_eq h]
  | .tup a, b, h => by cases b <;> simp [beqV] at h; rw [beqVs_eq h]
theorem beqVs_eq : ∀ {a b : List AV}, beqVs a b = true → a = b
  | [], b, h => by cases b <;> simp [beqVs] at h; rfl
  | x :: a, b, h => by
    cases b <;> simp [beqVs] at h
    rw [beqV_eq h.1, beqVs_eq h.2]
end

/-! of the temporaries only some -/
theorem mask_get (e : T) : ∀ (ts : List Nat), (∀ t ∈ ts, t < 4294967296) → ∀ j, j < 4294967296 → (mask e ts).get j = if j ∈ ts then e.get j else .undef
  | [], _, j, _ => by rw [mask, T.get_e]; simp
  | t :: l, ht, j, hj => by
    have h1 : t < 4294967296 := ht t (by simp)
    rw [mask, T.get_put h1 hj, mask_get e l (fun x hx => ht x (by simp [hx])) j hj, tmp_ev h1]
    by_cases h2 : j = t
    · subst h2; simp
    · simp [h2]
theorem mask_congr {e e' : T} : ∀ (ts : List Nat), (∀ t ∈ ts, t < 4294967296) → (∀ t ∈ ts, e.get t = e'.get t) → mask e ts = mask e' ts
  | [], _, _ => rfl
  | t :: l, ht, h => by
    have h1 : t < 4294967296 := ht t (by simp)
    rw [mask, mask, mask_congr l (fun x hx => ht x (by simp [hx])) (fun x hx => h x (by simp [hx])), tmp_ev h1, tmp_ev h1, h t (by simp)]
theorem mask_er {σ : Sg} {N : Nat} {e e' : T} {tm : Array Value} (he : ER σ N e' tm) {ts : List Nat} (ht : ∀ t ∈ ts, t < 4294967296) (h : ∀ t ∈ ts, e.get t = e'.get t) : ER σ N (mask e ts) tm := by
  rw [mask_congr ts ht h]
  refine ⟨he.1, fun j hj => ?_⟩
  rw [mask_get e' ts ht j hj]
  split
  · exact he.2 j hj
  · trivial

/-! readers leave memory alone -/
section
variable {P : Program}
def Same (o : OR) (h : Heap) : Prop := ∀ v h', o = .val v h' → h' = h
theorem same_fail {h : Heap} : Same .fail h := fun _ _ e => by cases e
theorem same_val {h : Heap} {v : AV} : Same (.val v h) h := fun _ _ e => by cases e; rfl
theorem same_onPtr {h : Heap} {v : AV} {f : Nat → Nat → Nat → OR} (H : ∀ a b c, Same (f a b c) h) : Same (v.onPtr f) h := by cases v <;> first | exact same_fail | exact H _ _ _
theorem same_onCells {h h1 : Heap} {b g : Nat} {f : List AV → Nat → Nat → Bool → OR} (H : ∀ a b c d, Same (f a b c d) h) : Same (h1.onCells b g f) h := by
  unfold Heap.onCells onCellsO
  split
  · rename_i cs ty g' fz s hb
    cases Nat.beq g g' <;> first | exact same_fail | exact H _ _ _ _
  · exact same_fail
theorem same_cond {h : Heap} {b : Bool} {x : OR} (H : Same x h) : Same (bif b then x else .fail) h := by cases b <;> first | exact same_fail | exact H
theorem same_nthK {h : Heap} {f : AV → OR} (H : ∀ v, Same (f v) h) : ∀ (l : List AV) (i : Nat), Same (nthK l i f) h
  | [], _ => by unfold nthK; exact same_fail
  | v :: _, 0 => H v
  | _ :: l, i + 1 => same_nthK H l i
theorem same_onMapO {h : Heap} {o : Option AObj} {f : List (AV × AV × Nat) → Nat → OR} (H : ∀ a b, Same (f a b) h) : Same (onMapO o f) h := by
  unfold onMapO
  split
  · exact H _ _
  · exact same_fail
theorem same_findK {h : Heap} {k : EqT} {key : AV} {hit : AV → OR} {miss : OR} (H : ∀ v, Same (hit v) h) (M : Same miss h) : ∀ l, Same (findK k key hit miss l) h
  | [] => M
  | (a, v, c) :: r => by
    unfold findK
    split
    · exact H _
    · exact same_findK H M r
    · exact same_fail
theorem same_bytesOfC {h : Heap} {f : List UInt8 → OR} (H : ∀ l, Same (f l) h) : ∀ l (f : List UInt8 → OR), (∀ l, Same (f l) h) → Same (bytesOfC l f) h
  | [], f, H => H _
  | v :: r, f, H => by
    unfold bytesOfC
    cases v <;> first | exact same_fail | skip
    rename_i i n
    show Same (bif keq i .u8 then bytesOfC r fun l => f (UInt8.ofNat n.toNat :: l) else .fail) h
    exact same_cond (same_bytesOfC (fun l => H l) r _ fun l => H _)
theorem same_encRunes {h : Heap} : ∀ l (f : List UInt8 → OR), (∀ l, Same (f l) h) → Same (encRunes l f) h
  | [], f, H => H _
  | v :: r, f, H => by
    unfold encRunes
    cases v <;> first | exact same_fail | skip
    rename_i i n
    show Same (bif keq i .i32 then encRunes r fun l => f ((Utf8.encode n).data.toList ++ l) else .fail) h
    exact same_cond (same_encRunes r _ fun l => H _)
theorem same_bnd {h : Heap} {o : Option Ev} {e : T} {d b : Nat} {f : Nat → OR} (H : ∀ n, Same (f n) h) : Same (bnd o e d b f) h := by
  unfold bnd
  split
  · exact H _
  · rename_i x
    cases x.ev e <;> first | exact same_fail | skip
    rename_i k n
    cases n with
    | ofNat n => exact same_cond (H n)
    | negSucc n => exact same_fail
theorem same_findB {h : Heap} {b : Nat} {f : AV → AV → OR} (H : ∀ a b, Same (f a b) h) : ∀ l, Same (findB b f l) h
  | [] => same_fail
  | (k, v, c) :: r => by
    unfold findB
    cases Nat.beq c b
    · exact same_findB H r
    · exact H _ _
theorem same_ko {k : Ko} (hk : ∀ e h, Same (k.run e h) h) : ∀ e h, Same (k.run e h) h := hk
theorem same_oFail (e : T) (h : Heap) : Same (oFail.run e h) h := same_fail
theorem same_inf {t : TypeId} {k : TypeInfo → Ko} (H : ∀ i e h, Same ((k i).run e h) h) (e : T) (h : Heap) : Same ((inf P t k).run e h) h := by
  unfold inf
  split
  · exact H _ _ _
  · exact same_fail
theorem same_onZ {t : TypeId} {k : AV → Ko} (H : ∀ i e h, Same ((k i).run e h) h) (e : T) (h : Heap) : Same ((onZ P t k).run e h) h := by
  unfold onZ
  split
  · exact H _ _ _
  · exact same_fail
theorem same_onKey {t : TypeId} {k : EqT → Ko} (H : ∀ i e h, Same ((k i).run e h) h) (e : T) (h : Heap) : Same ((onKey P t k).run e h) h := by
  unfold onKey
  split
  · exact same_fail
  · exact H _ _ _
theorem same_oLoad {a : Ev} (e : T) (h : Heap) : Same ((oLoad a).run e h) h := same_onPtr fun _ _ _ => same_onCells fun _ _ _ _ => same_nthK (fun _ => same_val) _ _
theorem same_oLoadN {n : Nat} {a : Ev} (e : T) (h : Heap) : Same ((oLoadN n a).run e h) h := same_onPtr fun _ _ _ => same_onCells fun _ _ _ _ => same_cond same_val
theorem same_oLookup {k : EqT} {z : AV} {ok : Bool} {m i : Ev} (e : T) (h : Heap) : Same ((oLookup k z ok m i).run e h) h := by
  show Same (match m.ev e with | .map0 => _ | .map r => _ | _ => _) h
  split
  · exact same_val
  · exact same_onMapO fun _ _ => same_findK (fun _ => same_val) same_val _
  · exact same_fail
theorem same_oEntry {x : Ev} (e : T) (h : Heap) : Same ((oEntry x).run e h) h := by
  refine same_onPtr fun _ _ _ => same_cond ?_
  unfold entryO
  split
  · exact same_onMapO fun _ _ => same_cond (same_findB (fun _ _ => same_val) _)
  · exact same_fail
theorem same_oLenM {x : Ev} (e : T) (h : Heap) : Same ((oLenM x).run e h) h := by
  show Same (match x.ev e with | .map0 => _ | .map r => _ | _ => _) h
  split
  · exact same_val
  · exact same_onMapO fun _ _ => same_val
  · exact same_fail
theorem same_oSliceA {size n : Nat} {x : Ev} {lo hi mx : Option Ev} (e : T) (h : Heap) : Same ((oSliceA size n x lo hi mx).run e h) h :=
  same_onPtr fun _ _ _ => same_onCells fun _ _ _ _ => same_cond (same_bnd fun _ => same_bnd fun _ => same_bnd fun _ => same_val)
theorem same_oB2s {x : Ev} (e : T) (h : Heap) : Same ((oB2s x).run e h) h := by
  show Same (match x.ev e with | .slice0 => _ | .slice b g off n _ _ _ => _ | _ => _) h
  split
  · exact same_val
  · rename_i b g off n _ _ _ _
    cases Nat.beq n 0
    · exact same_onCells fun _ _ _ _ => same_cond (same_bytesOfC (fun _ => same_val (v := .undef)) _ _ fun _ => same_val)
    · exact same_val
  · exact same_fail
theorem same_oR2s {x : Ev} (e : T) (h : Heap) : Same ((oR2s x).run e h) h := by
  show Same (match x.ev e with | .slice0 => _ | .slice b g off n _ _ _ => _ | _ => _) h
  split
  · exact same_val
  · rename_i b g off n _ _ _ _
    cases Nat.beq n 0
    · exact same_onCells fun _ _ _ _ => same_cond (same_encRunes _ _ fun _ => same_val)
    · exact same_val
  · exact same_fail
theorem same_builtin {b : Builtin} {tys : List TypeDesc} {args : List Ev} (hb : b = .len) (hk : ∃ k e l, tys = .map k e :: l) (e : T) (h : Heap) : Same ((cbuiltin P b tys args).run e h) h := by
  subst hb
  obtain ⟨k, el, l, rfl⟩ := hk
  cases args with
  | nil => exact same_fail
  | cons x r =>
    cases r with
    | nil => exact same_oLenM e h
    | cons y r => exact same_fail
theorem cls1_same (o : Op) (hc : cls P o = 1) (e : T) (h : Heap) : Same ((cop P o).run e h) h := by
  cases o <;> simp only [cls] at hc <;> (try (exact absurd hc (by decide))) <;> unfold cop <;> simp only []
  case load t a =>
    split
    · exact same_oLoadN _ _
    · exact same_oLoad _ _
    · exact same_fail
  case lookup t m k ok =>
    split
    · exact same_onKey (fun _ => same_onZ fun _ => same_oLookup) _ _
    · exact same_fail
  case entry x => exact same_oEntry _ _
  case slice t x lo hi mx =>
    split at hc
    · cases hc
    · cases hc
    · rename_i h1 h2
      split
      · rename_i h3; exact absurd h3 h1
      · rename_i el h3; exact absurd h3 (h2 el)
      · split
        · exact same_fail
        · exact same_inf (fun _ => same_oSliceA) _ _
      · exact same_fail
  case convert s d x =>
    split at hc <;> first | (cases hc; done) | skip
    · rename_i hk; rw [hk]; exact same_oB2s _ _
    · rename_i hk; rw [hk]; exact same_oR2s _ _
    · rename_i hk; rw [hk]; exact same_onPtr fun _ _ _ => same_onCells fun _ _ _ _ => same_cond same_val
    · rename_i hk; rw [hk]; exact same_onPtr fun _ _ _ => same_onCells fun _ _ _ _ => same_cond same_val
  case range t x => split at hc <;> cases hc
  case call c =>
    obtain ⟨callee, args, tys⟩ := c
    cases callee with
    | builtin b =>
      simp only at hc
      split at hc
      · split at hc
        · rename_i k el l hl
          exact same_builtin rfl ⟨k, el, l, hl⟩ _ _
        · cases hc
      · cases hc
      · cases hc
      · cases hc
      · cases hc
    | _ => cases hc
end
end Go.Rk

namespace Go.Rk
open Go
set_option linter.unusedVariables false
set_option linter.unusedSimpArgs false
set_option linter.constructorNameAsVariable false
set_option linter.unusedSectionVars false
variable [TabC]
section
variable {md : Region.Mode} {ops : Array Oper}
def Topo (md : Region.Mode) (ops : Array Oper) : Array Bool → List Nat → Prop
  | _, [] => True
  | li, i :: s => i ∈ Region.ready md ops li ∧ Topo md ops (li.setIfInBounds i true) s
def TopoC (md : Region.Mode) (ops : Array Oper) : Array Bool → List Nat → Prop
  | li, [] => ∀ i, i < ops.size → li.getD i true = true
  | li, i :: s => i ∈ Region.ready md ops li ∧ TopoC md ops (li.setIfInBounds i true) s
theorem go_ready {t : Nat} {rs : List Nat} : (rs[t % rs.length]? = none ∧ rs = []) ∨ ∃ i, rs[t % rs.length]? = some i ∧ i ∈ rs := by
  cases hi : rs[t % rs.length]? with
  | some i => exact .inr ⟨i, rfl, List.mem_of_getElem? hi⟩
  | none =>
    left
    refine ⟨rfl, ?_⟩
    cases rs with
    | nil => rfl
    | cons x xs =>
      have hlt : t % (x :: xs).length < (x :: xs).length := Nat.mod_lt _ (by simp)
      simp at hi
      simp at hlt
      omega
theorem go_eq (fuel t : Nat) (li : Array Bool) : Region.linearise.go md ops (fuel + 1) t li [] = (match (Region.ready md ops li)[t % (Region.ready md ops li).length]? with
      | some i => i :: Region.linearise.go md ops fuel (t / (Region.ready md ops li).length) (li.setIfInBounds i true) []
      | none => []) := by
  simp only [Region.linearise.go]
  change (match (Region.ready md ops li)[t % (Region.ready md ops li).length]? with
      | some i => Region.linearise.go md ops fuel (t / (Region.ready md ops li).length) (li.setIfInBounds i true) [i]
      | none => [].reverse) = _
  split
  · rw [linearise_go_acc]; simp
  · rfl
theorem go_topo : ∀ (fuel t : Nat) (li : Array Bool), Topo md ops li (Region.linearise.go md ops fuel t li [])
  | 0, t, li => by simp [Region.linearise.go, Topo]
  | fuel + 1, t, li => by
    rw [go_eq]
    rcases go_ready (t := t) (rs := Region.ready md ops li) with ⟨h1, _⟩ | ⟨i, h1, h2⟩
    · rw [h1]; trivial
    · rw [h1]; exact ⟨h2, go_topo fuel _ _⟩
theorem ready_lt {li : Array Bool} {i : Nat} (h : i ∈ Region.ready md ops li) : i < ops.size ∧ li.getD i true = false := by
  obtain ⟨h1, o, h2, _⟩ := mem_ready.1 h
  exact ⟨(Array.getElem?_eq_some_iff.1 h2).1, h1⟩
theorem getD_false {li : Array Bool} {i : Nat} (hi : i < li.size) (d : Bool) : li.getD i d = li[i] := by simp [Array.getD, hi]
theorem count_true {li : Array Bool} {i : Nat} (hi : i < li.size) (hf : li.getD i true = false) : (li.setIfInBounds i true).toList.count true = li.toList.count true + 1 := by
  rw [getD_false hi] at hf
  rw [Array.toList_setIfInBounds, List.count_set (by simpa using hi)]
  simp [hf]
theorem count_false {li : Array Bool} {i : Nat} (hi : i < li.size) (hf : li.getD i true = false) : (li.setIfInBounds i true).toList.count false + 1 = li.toList.count false := by
  rw [getD_false hi] at hf
  rw [Array.toList_setIfInBounds, List.count_set (by simpa using hi)]
  have : 0 < li.toList.count false := by
    rw [List.count_pos_iff]
    rw [← hf]
    simp
  have h1 : (li.toList[i] == false) = true := by simp [hf]
  rw [if_pos h1, if_neg (by simp)]
  omega
def finL (li : Array Bool) (s : List Nat) : Array Bool := s.foldl (fun l i => l.setIfInBounds i true) li
theorem fin_count : ∀ (s : List Nat) (li : Array Bool), li.size = ops.size → Topo md ops li s → (finL li s).size = ops.size ∧ (finL li s).toList.count true = li.toList.count true + s.length
  | [], li, hs, _ => ⟨hs, rfl⟩
  | i :: s, li, hs, h => by
    obtain ⟨h1, h2⟩ := h
    obtain ⟨h3, h4⟩ := ready_lt h1
    have := fin_count s (li.setIfInBounds i true) (by simpa using hs) h2
    refine ⟨this.1, ?_⟩
    have h5 := this.2
    rw [count_true (by omega) h4] at h5
    simp only [finL, List.foldl_cons, List.length_cons] at h5 ⊢
    omega
theorem fin_mem : ∀ (s : List Nat) (li : Array Bool) (i : Nat), (finL li s).getD i false = true → li.getD i false = true ∨ i ∈ s
  | [], li, i, h => .inl h
  | a :: s, li, i, h => by
    rcases fin_mem s (li.setIfInBounds a true) i h with h1 | h1
    · by_cases ha : a = i
      · subst ha; exact .inr (by simp)
      · rw [getD_set_ne false ha] at h1; exact .inl h1
    · exact .inr (by simp [h1])
theorem some_ready {li : Array Bool} (hsz : li.size = ops.size) : ∀ (s : List Nat) (li0 : Array Bool), Topo md ops li0 s → (∀ j, li0.getD j false = true → li.getD j false = true) → (∃ i ∈ s, li.getD i true = false) → ∃ j, j ∈ Region.ready md ops li
  | [], _, _, _, ⟨i, hi, _⟩ => by cases hi
  | a :: s, li0, ⟨h1, h2⟩, hsub, hex => by
    cases ha : li.getD a true with
    | false =>
      refine ⟨a, mem_ready.2 ⟨ha, ?_⟩⟩
      obtain ⟨_, o, ho, he⟩ := mem_ready.1 h1
      exact ⟨o, ho, fun e h3 h4 => hsub _ (he e h3 h4)⟩
    | true =>
      obtain ⟨i, hi, hf⟩ := hex
      have hia : i ≠ a := fun e => by subst e; rw [ha] at hf; cases hf
      have hlt : a < li.size := by have := (ready_lt h1).1; omega
      refine some_ready hsz s (li0.setIfInBounds a true) h2 (fun j hj => ?_) ⟨i, by simpa [hia] using hi, hf⟩
      by_cases hja : a = j
      · subst hja; rw [getD_false hlt] at ha ⊢; exact ha
      · rw [getD_set_ne false hja] at hj; exact hsub j hj
/-- there is an order of all -/
def HasOrd (md : Region.Mode) (ops : Array Oper) : Prop := ∃ s, Topo md ops (Array.replicate ops.size false) s ∧ ∀ i, i < ops.size → i ∈ s
theorem go_whole (h : HasOrd md ops) : ∀ (fuel t : Nat) (li : Array Bool), li.size = ops.size → li.toList.count false ≤ fuel → TopoC md ops li (Region.linearise.go md ops fuel t li [])
  | 0, t, li, hs, hc => by
    intro i hi
    cases hv : li.getD i true with
    | true => rfl
    | false => have := count_false (i := i) (by omega) hv; omega
  | fuel + 1, t, li, hs, hc => by
    rw [go_eq]
    rcases go_ready (t := t) (rs := Region.ready md ops li) with ⟨h1, h2⟩ | ⟨i, h1, h2⟩
    · rw [h1]
      intro i hi
      cases hv : li.getD i true with
      | true => rfl
      | false =>
        obtain ⟨s0, ht, hall⟩ := h
        obtain ⟨j, hj⟩ := some_ready hs _ _ ht (fun j hj => by
          exfalso
          by_cases hlt : j < ops.size <;> simp [Array.getD, hlt] at hj) ⟨i, hall i hi, hv⟩
        rw [h2] at hj; cases hj
    · rw [h1]
      have h3 := ready_lt h2
      have := count_false (i := i) (by omega) h3.2
      exact ⟨h2, go_whole h fuel _ _ (by simpa using hs) (by omega)⟩
theorem lin_whole (h : HasOrd md ops) (t : Nat) : TopoC md ops (Array.replicate ops.size false) (Region.linearise md ops t) :=
  go_whole h _ _ _ (by simp) (by simp [List.count_replicate])
theorem TopoC.any : ∀ {s : List Nat} {li : Array Bool}, TopoC md ops li s → TopoC .any ops li s
  | [], _, h => h
  | i :: s, li, ⟨h1, h2⟩ => by
    refine ⟨?_, h2.any⟩
    obtain ⟨h3, o, ho, he⟩ := mem_ready.1 h1
    refine mem_ready.2 ⟨h3, o, ho, fun e h4 h5 => he e h4 ?_⟩
    unfold Region.binds at h5 ⊢
    split <;> simp_all
/-- what is listed, as bits -/
structure KInv (ops : Array Oper) (done : Nat) (li : Array Bool) (l : List (Nat × Oper)) : Prop where
  sz : li.size = ops.size
  bits : ∀ j, done.testBit j = true → li.getD j false = true
  ops : ∀ x ∈ l, ops[x.1]? = some x.2 ∧ li.getD x.1 true = false
  nodup : (l.map (·.1)).Nodup
def KRes (md : Region.Mode) (ops : Array Oper) (li : Array Bool) (l : List (Nat × Oper)) : Prop := ∃ s, Topo md ops li s ∧ ∀ x ∈ l, x.1 ∈ s
theorem KInv.perm {done : Nat} {li : Array Bool} {l l' : List (Nat × Oper)} (h : KInv ops done li l) (hp : l.Perm l') : KInv ops done li l' :=
  ⟨h.sz, h.bits, fun x hx => h.ops x (hp.mem_iff.2 hx), (hp.map _).nodup_iff.1 h.nodup⟩
theorem kpass_ok {k : Nat → List (Nat × Oper) → Bool} (hk : ∀ done li l, KInv ops done li l → k done l = true → KRes md ops li l) :
    ∀ (r : List (Nat × Oper)) (done : Nat) (later : List (Nat × Oper)) (li : Array Bool), KInv ops done li (r ++ later) → kpass md r done later k = true → KRes md ops li (r ++ later)
  | [], done, later, li, hi, h => hk done li later hi h
  | x :: r, done, later, li, hi, h => by
    rw [kpass] at h
    cases hr : x.2.after.all fun e => !Region.binds md e || done.testBit e.on with
    | true =>
      rw [hr, cond_true] at h
      obtain ⟨ho, hf⟩ := hi.ops x (by simp)
      have hlt : x.1 < li.size := by rw [hi.sz]; exact (Array.getElem?_eq_some_iff.1 ho).1
      have hnd := hi.nodup
      simp only [List.cons_append, List.map_cons, List.nodup_cons] at hnd
      have hinv : KInv ops (done ||| 2 ^ x.1) (li.setIfInBounds x.1 true) (r ++ later) := by
        refine ⟨by simpa using hi.sz, fun j hj => ?_, fun y hy => ?_, hnd.2⟩
        · by_cases hjx : x.1 = j
          · subst hjx; simp [Array.getD, hlt]
          · rw [getD_set_ne false hjx]
            refine hi.bits j ?_
            rw [Nat.testBit_or, Nat.testBit_two_pow] at hj
            simpa [hjx] using hj
        · have hy' := hi.ops y (List.mem_cons_of_mem _ hy)
          refine ⟨hy'.1, ?_⟩
          have : x.1 ≠ y.1 := fun e => hnd.1 (by rw [e]; exact List.mem_map.2 ⟨y, hy, rfl⟩)
          rw [getD_set_ne true this]; exact hy'.2
      obtain ⟨s, h1, h2⟩ := kpass_ok hk r _ later _ hinv h
      refine ⟨x.1 :: s, ⟨mem_ready.2 ⟨hf, x.2, ho, fun e he hb => ?_⟩, h1⟩, fun y hy => ?_⟩
      · have := (Array.all_eq_true_iff_forall_mem.1 hr) e he
        rw [hb] at this
        exact hi.bits _ (by simpa using this)
      · rcases List.mem_cons.1 hy with h3 | h3
        · subst h3; simp
        · exact List.mem_cons_of_mem _ (h2 y h3)
    | false =>
      rw [hr, cond_false] at h
      have hp : (x :: r ++ later).Perm (r ++ x :: later) := by simpa using (List.perm_middle (a := x) (l₁ := r) (l₂ := later)).symm
      obtain ⟨s, h1, h2⟩ := kpass_ok hk r done (x :: later) li (hi.perm hp) h
      exact ⟨s, h1, fun y hy => h2 y (hp.mem_iff.1 hy)⟩
theorem kahn_ok : ∀ (f done : Nat) (li : Array Bool) (l : List (Nat × Oper)), KInv ops done li l → kahn md f done l = true → KRes md ops li l
  | 0, done, li, l, _, h => by
    have : l = [] := by simpa [kahn] using h
    subst this
    exact ⟨[], trivial, fun x hx => by cases hx⟩
  | f + 1, done, li, [], _, h => ⟨[], trivial, fun x hx => by cases hx⟩
  | f + 1, done, li, x :: r, hi, h => by
    rw [kahn] at h
    have := kpass_ok (md := md) (ops := ops) (k := fun done later => kahn md f done later.reverse) (fun done' li' l' hi' h' => by
      obtain ⟨s, h1, h2⟩ := kahn_ok f done' li' l'.reverse (hi'.perm (List.reverse_perm _).symm) h'
      exact ⟨s, h1, fun y hy => h2 y (by simpa using hy)⟩) (x :: r) done [] li (by simpa using hi) h
    simpa using this
theorem numbered_mem {x : Nat × Oper} : ∀ (l : List Oper) (i : Nat), x ∈ numbered i l → ∃ k, x.1 = i + k ∧ l[k]? = some x.2 := by
  intro l
  induction l with
  | nil => intro i h; cases h
  | cons o r ih =>
    intro i h
    rcases List.mem_cons.1 h with h1 | h1
    · exact ⟨0, by subst h1; simp, by subst h1; simp⟩
    · obtain ⟨k, h2, h3⟩ := ih _ h1
      exact ⟨k + 1, by rw [h2, Nat.succ_eq_add_one]; omega, by simpa using h3⟩
theorem mem_numbered : ∀ {l : List Oper} {i k : Nat} {o : Oper}, l[k]? = some o → (i + k, o) ∈ numbered i l
  | [], i, k, o, h => by simp at h
  | a :: r, i, 0, o, h => by simp at h; subst h; simp [numbered]
  | a :: r, i, k + 1, o, h => by
    have := mem_numbered (i := i + 1) (by simpa using h : r[k]? = some o)
    rw [show i + 1 + k = i + (k + 1) by omega] at this
    exact List.mem_cons_of_mem _ this
theorem numbered_nodup : ∀ (l : List Oper) (i : Nat), ((numbered i l).map (·.1)).Nodup
  | [], _ => List.nodup_nil
  | o :: r, i => by
    rw [numbered, List.map_cons, List.nodup_cons]
    refine ⟨fun h => ?_, numbered_nodup r _⟩
    obtain ⟨x, hx, he⟩ := List.mem_map.1 h
    obtain ⟨k, h1, _⟩ := numbered_mem _ _ hx
    simp only [Nat.succ_eq_add_one] at he h1
    omega
theorem kahnOk_ord (h : kahnOk md ops = true) : HasOrd md ops := by
  have hinv : KInv ops 0 (Array.replicate ops.size false) (numbered 0 ops.toList) := by
    refine ⟨by simp, fun j hj => by simp at hj, fun x hx => ?_, numbered_nodup _ _⟩
    obtain ⟨k, h2, h3⟩ := numbered_mem _ _ hx
    have h4 : ops[x.1]? = some x.2 := by rw [h2]; simpa using h3
    refine ⟨h4, ?_⟩
    have := (Array.getElem?_eq_some_iff.1 h4).1
    simp [Array.getD, this]
  obtain ⟨s, h1, h2⟩ := kahn_ok _ _ _ _ hinv h
  refine ⟨s, h1, fun i hi => ?_⟩
  have := mem_numbered (l := ops.toList) (i := 0) (k := i) (o := ops[i]) (by simp [hi])
  simpa using h2 _ this
/-- whatever is drawn: a whole order of the region's operations -/
theorem schedule_whole (k1 : kahnOk .any ops = true) (k2 : kahnOk .text ops = true) (k3 : kahnOk .gc ops = true) (mixed : Bool) (t : Nat) :
    TopoC .any ops (Array.replicate ops.size false) (Region.schedule mixed ops t) := by
  have h1 := kahnOk_ord k1
  have h2 := kahnOk_ord k2
  have h3 := kahnOk_ord k3
  unfold Region.schedule
  split
  · exact lin_whole h1 t
  · split
    · exact (lin_whole h2 _).any
    · exact (lin_whole h3 _).any
end
end Go.Rk

namespace Go.Rk
open Go
set_option linter.unusedVariables false
set_option linter.unusedSimpArgs false
set_option linter.constructorNameAsVariable false
set_option linter.unusedSectionVars false
variable [TabC]
section
variable {P : Program} {N : Nat} {ops : Array Oper} {an : List Nat}
/-- the order of a region's operations is sound -/
structure LOK (P : Program) (N : Nat) (ops : Array Oper) (L : List DInfo) : Prop where
  len : L.length = ops.size
  op : ∀ (k : Nat) (x : DInfo), L[k]? = some x → ops[x.ix]? = some x.op
  surj : ∀ i, i < ops.size → ∃ (k : Nat) (x : DInfo), L[k]? = some x ∧ x.ix = i
  ts : ∀ (k : Nat) (x : DInfo), L[k]? = some x → ∀ t ∈ x.ts, t < 4294967296
  dst : ∀ (k : Nat) (x : DInfo), L[k]? = some x → dstOk N x.op.dst = true
  tsg : ∀ (k : Nat) (x : DInfo), L[k]? = some x → x.ts = tmpsOf ops x.op
  cl : ∀ (k : Nat) (x : DInfo), L[k]? = some x → x.cl = cls P x.op.op
  pair : ∀ (k j : Nat) (x y : DInfo), k < j → L[k]? = some x → L[j]? = some y → pairOk x y = true
  rd : ∀ (k : Nat) (x : DInfo), L[k]? = some x → x.cl = 1 → (∀ (j : Nat) (y : DInfo), k < j → L[j]? = some y → y.cl = 3 → y.anc.testBit x.ix = true) ∨
    (has x.op.dst x.ts = false ∧ ∀ (j : Nat) (y : DInfo), k < j → L[j]? = some y → has y.op.dst x.ts = false)
  anc1 : ∀ (k : Nat) (x : DInfo) (e : Edge), L[k]? = some x → e ∈ x.op.after → Region.binds .any e = true → ∃ (k' : Nat) (y : DInfo), k' < k ∧ L[k']? = some y ∧ y.ix = e.on
  anc2 : ∀ (k : Nat) (x : DInfo) (j : Nat), L[k]? = some x → j < ops.size → x.anc.testBit j = true → ∃ e ∈ x.op.after, Region.binds .any e = true ∧ (e.on = j ∨ ∃ (k' : Nat) (y : DInfo), k' < k ∧ L[k']? = some y ∧ y.ix = e.on ∧ y.anc.testBit j = true)
theorem pairs_get : ∀ {L : List DInfo}, pairsOk L = true → ∀ (k j : Nat) x y, k < j → L[k]? = some x → L[j]? = some y → pairOk x y = true
  | [], _, k, j, x, y, _, h, _ => by simp at h
  | a :: L, h, k, j, x, y, hkj, hx, hy => by
    rw [pairsOk, Bool.and_eq_true] at h
    cases j with
    | zero => omega
    | succ j =>
      cases k with
      | zero =>
        simp at hx hy
        subst hx
        exact List.all_eq_true.1 h.1 y (List.mem_of_getElem? hy)
      | succ k => exact pairs_get h.2 k j x y (by omega) (by simpa using hx) (by simpa using hy)
theorem readers_get : ∀ {L : List DInfo}, readersOk L = true → ∀ (k : Nat) x, L[k]? = some x → x.cl = 1 → (∀ (j : Nat) y, k < j → L[j]? = some y → y.cl = 3 → y.anc.testBit x.ix = true) ∨
    (has x.op.dst x.ts = false ∧ ∀ (j : Nat) y, k < j → L[j]? = some y → has y.op.dst x.ts = false)
  | [], _, k, x, h, _ => by simp at h
  | a :: L, h, k, x, hx, hc => by
    rw [readersOk, Bool.and_eq_true] at h
    cases k with
    | zero =>
      simp at hx
      subst hx
      have h1 := h.1
      simp only [Bool.or_eq_true, Bool.and_eq_true, bne_iff_ne, ne_eq, List.all_eq_true] at h1
      rcases h1 with (h1 | h1) | ⟨h0, h1⟩
      · exact absurd hc h1
      · left
        intro j y hj hy hy3
        cases j with
        | zero => omega
        | succ j =>
          have := h1 y (List.mem_of_getElem? (by simpa using hy))
          simpa [hy3] using this
      · right
        refine ⟨by simpa using h0, fun j y hj hy => ?_⟩
        cases j with
        | zero => omega
        | succ j => simpa using h1 y (List.mem_of_getElem? (by simpa using hy))
    | succ k =>
      rcases readers_get h.2 k x (by simpa using hx) hc with h1 | ⟨h0, h1⟩
      · left
        intro j y hj hy
        cases j with
        | zero => omega
        | succ j => exact h1 j y (by omega) (by simpa using hy)
      · right
        refine ⟨h0, fun j y hj hy => ?_⟩
        cases j with
        | zero => omega
        | succ j => exact h1 j y (by omega) (by simpa using hy)
theorem ancs_get {n : Nat} : ∀ {L : List DInfo} {seen : List Nat}, ancsOk n an seen L = true → ∀ (k : Nat) x, L[k]? = some x →
    (∀ e ∈ x.op.after, Region.binds .any e = true → e.on ∈ seen ∨ ∃ k' y, k' < k ∧ L[k']? = some y ∧ y.ix = e.on) ∧
    (∀ j, j < n → x.anc.testBit j = true → ∃ e ∈ x.op.after, Region.binds .any e = true ∧ (e.on = j ∨ (an.getD e.on 0).testBit j = true))
  | [], seen, _, k, x, h => by simp at h
  | a :: L, seen, h, k, x, hx => by
    rw [ancsOk, Bool.and_eq_true, Bool.and_eq_true] at h
    cases k with
    | zero =>
      simp at hx
      subst hx
      refine ⟨fun e he hb => ?_, fun j hj ht => ?_⟩
      · have := Array.all_eq_true_iff_forall_mem.1 h.1.1 e he
        left
        simpa [hb] using this
      · have := List.all_eq_true.1 h.1.2 j (by simpa using hj)
        rw [ht] at this
        simp only [Bool.not_true, Bool.false_or] at this
        obtain ⟨e, he, hb⟩ := Array.any_eq_true'.1 this
        rw [Bool.and_eq_true, Bool.or_eq_true, beq_iff_eq] at hb
        exact ⟨e, he, hb.1, hb.2⟩
    | succ k =>
      obtain ⟨h1, h2⟩ := ancs_get h.2 k x (by simpa using hx)
      refine ⟨fun e he hb => ?_, h2⟩
      rcases h1 e he hb with h3 | ⟨k', y, h4, h5, h6⟩
      · simp only [List.mem_cons] at h3
        rcases h3 with h3 | h3
        · exact .inr ⟨0, a, by omega, by simp, h3.symm⟩
        · exact .inl h3
      · exact .inr ⟨k' + 1, y, by omega, by simpa using h5, h6⟩
theorem LOK.of {l : List Nat} {L : List DInfo} (hL : L = l.map (mkD P ops an)) (h : drawOk N ops an L = true) : LOK P N ops L := by
  unfold drawOk at h
  simp only [Bool.and_eq_true, beq_iff_eq, List.all_eq_true, List.any_eq_true, List.mem_range] at h
  obtain ⟨⟨⟨⟨⟨⟨⟨⟨h1, h2⟩, h3⟩, h4⟩, h5⟩, h6⟩, h7⟩, h8⟩, h9⟩ := h
  have hmk : ∀ (k : Nat) x, L[k]? = some x → ∃ i, x = mkD P ops an i := by
    intro k x hx
    rw [hL] at hx
    simp only [List.getElem?_map, Option.map_eq_some_iff] at hx
    obtain ⟨i, _, hi⟩ := hx
    exact ⟨i, hi.symm⟩
  have hmem : ∀ (k : Nat) x, L[k]? = some x → x ∈ L := fun k x hx => List.mem_of_getElem? hx
  refine ⟨h1, ?_, ?_, ?_, ?_, ?_, ?_, pairs_get h4, readers_get h5, ?_, ?_⟩
  · intro k x hx
    have hlt : x.ix < ops.size := blt_iff.1 (h3 x (hmem k x hx)).2
    obtain ⟨i, rfl⟩ := hmk k x hx
    simp only [mkD] at hlt ⊢
    simp [hlt, Array.getD]
  · intro i hi
    obtain ⟨x, hx, hxi⟩ := h2 i hi
    obtain ⟨k, hk⟩ := List.getElem?_of_mem hx
    exact ⟨k, x, hk, hxi⟩
  · intro k x hx t ht
    exact blt_iff.1 ((h3 x (hmem k x hx)).1.1 t ht)
  · intro k x hx
    exact (h3 x (hmem k x hx)).1.2
  · intro k x hx
    obtain ⟨i, rfl⟩ := hmk k x hx; rfl
  · intro k x hx
    obtain ⟨i, rfl⟩ := hmk k x hx; rfl
  · intro k x e hx he hb
    rcases (ancs_get h6 k x hx).1 e he hb with h10 | h10
    · simp at h10
    · exact h10
  · intro k x j hx hj ht
    obtain ⟨h10, h11⟩ := ancs_get h6 k x hx
    obtain ⟨e, he, hb, h12⟩ := h11 j hj ht
    refine ⟨e, he, hb, ?_⟩
    rcases h12 with h12 | h12
    · exact .inl h12
    · rcases h10 e he hb with h13 | ⟨k', y, h13, h14, h15⟩
      · simp at h13
      · refine .inr ⟨k', y, h13, h14, h15, ?_⟩
        obtain ⟨i, rfl⟩ := hmk k' y h14
        simp only [mkD] at h15 ⊢
        rw [h15]; exact h12
/-- the lines that a schedule is made of -/
theorem draw_lin {L : List DInfo} (h : drawOk N ops an L = true) : kahnOk .any ops = true ∧ kahnOk .text ops = true ∧ kahnOk .gc ops = true := by
  unfold drawOk at h
  simp only [Bool.and_eq_true, beq_iff_eq] at h
  exact ⟨h.1.1.2, h.1.2, h.2⟩

/-! the evaluator's way through a region -/
def rankAt (rank : Nat) (L : List DInfo) (k : Nat) : Nat := rank + (L.take k).countP (·.cl == 2)
def aheadAt (ahead : List DInfo) (L : List DInfo) (k : Nat) : List DInfo := (L.take k).reverse ++ ahead
def Traced (P : Program) (ops : Array Oper) (F : Fns) (b0 m : Nat) (ahead : List DInfo) (rank : Nat) (L : List DInfo) (e : T) (h : Heap) (d : Ds) (r : XR) : Prop :=
  ∃ (K : Nat) (E : Nat → T) (H : Nat → Heap) (D : Nat → Ds) (V : Nat → AV), E 0 = e ∧ H 0 = h ∧ D 0 = d ∧ K ≤ L.length ∧
    (∀ (k : Nat) x, k < K → L[k]? = some x → dSt P ops F b0 m (rankAt rank L k) x (E k) (H k) (D k) = .go (V k) (H (k + 1)) (D (k + 1)) ∧ E (k + 1) = (seOf x.op.dst).se (E k) (V k) ∧ chkD P ops (aheadAt ahead L k) x (E (k + 1)) (H (k + 1)) = true) ∧
    ((K = L.length ∧ r = .nrm (E K) (H K) (D K)) ∨ ∃ x v h', L[K]? = some x ∧ dSt P ops F b0 m (rankAt rank L K) x (E K) (H K) (D K) = .pan v h' ∧ (∀ (j : Nat) y, K < j → L[j]? = some y → y.anc.testBit x.ix = true) ∧ r = .pan v (E K) h' (D K))
theorem rankAt_succ {rank : Nat} {x : DInfo} {l : List DInfo} {k : Nat} : rankAt rank (x :: l) (k + 1) = rankAt (bif x.cl == 2 then Nat.succ rank else rank) l k := by
  unfold rankAt
  simp only [List.take_succ_cons, List.countP_cons]
  cases (x.cl == 2) <;> simp <;> omega
theorem aheadAt_succ {ahead : List DInfo} {x : DInfo} {l : List DInfo} {k : Nat} : aheadAt ahead (x :: l) (k + 1) = aheadAt (x :: ahead) l k := by
  unfold aheadAt
  simp
theorem traced {F : Fns} {b0 m : Nat} : ∀ (L : List DInfo) (ahead : List DInfo) (rank : Nat) (e : T) (h : Heap) (d : Ds),
    (kDs P ops m ahead rank L).run b0 F e h d = .fail ∨ Traced P ops F b0 m ahead rank L e h d ((kDs P ops m ahead rank L).run b0 F e h d)
  | [], ahead, rank, e, h, d => .inr ⟨0, fun _ => e, fun _ => h, fun _ => d, fun _ => .undef, rfl, rfl, rfl, Nat.le_refl _, fun k x hk => by omega, .inl ⟨rfl, rfl⟩⟩
  | x :: l, ahead, rank, e, h, d => by
    have hrun : (kDs P ops m ahead rank (x :: l)).run b0 F e h d = (dSt P ops F b0 m rank x e h d).then e d (l.all fun y => y.anc.testBit x.ix) fun v h d =>
      bif chkD P ops ahead x ((seOf x.op.dst).se e v) h then (kDs P ops m (x :: ahead) (bif x.cl == 2 then Nat.succ rank else rank) l).run b0 F ((seOf x.op.dst).se e v) h d else .fail := rfl
    rw [hrun]
    have hr0 : rankAt rank (x :: l) 0 = rank := by simp [rankAt]
    cases hd : dSt P ops F b0 m rank x e h d with
    | fail => exact .inl rfl
    | pan v h' =>
      show (bif (l.all fun y => y.anc.testBit x.ix) then XR.pan v e h' d else .fail) = .fail ∨ Traced P ops F b0 m ahead rank (x :: l) e h d (bif (l.all fun y => y.anc.testBit x.ix) then XR.pan v e h' d else .fail)
      cases hl : l.all fun y => y.anc.testBit x.ix with
      | false => exact .inl rfl
      | true =>
        right
        refine ⟨0, fun _ => e, fun _ => h, fun _ => d, fun _ => .undef, rfl, rfl, rfl, Nat.zero_le _, fun k x hk => by omega, .inr ⟨x, v, h', rfl, by rw [hr0]; exact hd, fun j y hj hy => ?_, rfl⟩⟩
        cases j with
        | zero => omega
        | succ j => exact List.all_eq_true.1 hl y (List.mem_of_getElem? (by simpa using hy))
    | go v h1 d1 =>
      show (bif chkD P ops ahead x ((seOf x.op.dst).se e v) h1 then (kDs P ops m (x :: ahead) (bif x.cl == 2 then Nat.succ rank else rank) l).run b0 F ((seOf x.op.dst).se e v) h1 d1 else .fail) = .fail ∨
        Traced P ops F b0 m ahead rank (x :: l) e h d (bif chkD P ops ahead x ((seOf x.op.dst).se e v) h1 then (kDs P ops m (x :: ahead) (bif x.cl == 2 then Nat.succ rank else rank) l).run b0 F ((seOf x.op.dst).se e v) h1 d1 else .fail)
      cases hc : chkD P ops ahead x ((seOf x.op.dst).se e v) h1 with
      | false => exact .inl rfl
      | true =>
        rw [cond_true]
        rcases traced l (x :: ahead) (bif x.cl == 2 then Nat.succ rank else rank) ((seOf x.op.dst).se e v) h1 d1 with h0 | ⟨K, E, H, D, V, e0, e1, e2, hK, hst, hend⟩
        · exact .inl h0
        · right
          refine ⟨K + 1, fun k => match k with | 0 => e | k + 1 => E k, fun k => match k with | 0 => h | k + 1 => H k, fun k => match k with | 0 => d | k + 1 => D k, fun k => match k with | 0 => v | k + 1 => V k, rfl, rfl, rfl, by simpa using hK, ?_, ?_⟩
          · intro k y hk hy
            cases k with
            | zero =>
              simp at hy
              subst hy
              refine ⟨?_, ?_, ?_⟩
              · rw [hr0]; simp only [e1, e2]; exact hd
              · exact e0
              · simp only [e0, e1]
                exact hc
            | succ k =>
              rw [rankAt_succ, aheadAt_succ]
              exact hst k y (by omega) (by simpa using hy)
          · rcases hend with ⟨h3, h4⟩ | ⟨y, v', h', h3, h4, h5, h6⟩
            · exact .inl ⟨by simp [h3], h4⟩
            · refine .inr ⟨y, v', h', by simpa using h3, by rw [rankAt_succ]; exact h4, fun j z hj hz => ?_, h6⟩
              cases j with
              | zero => omega
              | succ j => exact h5 j z (by omega) (by simpa using hz)
end
end Go.Rk

namespace Go.Rk
open Go
set_option linter.unusedVariables false
set_option linter.unusedSimpArgs false
set_option linter.constructorNameAsVariable false
set_option linter.unusedSectionVars false
variable [TabC]
theorem cls_le {P : Program} (o : Op) : cls P o ≤ 3 := by
  unfold cls
  repeat' split
  all_goals omega
theorem has_iff {d : Option Nat} {ts : List Nat} : has d ts = false ↔ ∀ t, d = some t → t ∉ ts := by
  unfold has
  cases d with
  | none => simp
  | some t => simp
theorem pair_spec {x y : DInfo} (h : pairOk x y = true) : (y.anc.testBit x.ix = true ∨ (has x.op.dst y.ts = false ∧ has y.op.dst x.ts = false ∧ ¬(x.cl = 3 ∧ y.cl = 3) ∧ ¬(x.cl = 2 ∧ y.cl = 3) ∧ ¬(x.cl = 3 ∧ y.cl = 1) ∧ ¬(x.cl = 2 ∧ y.cl = 1))) ∧
    (∀ t, x.op.dst = some t → y.op.dst ≠ some t) ∧ x.ix ≠ y.ix := by
  unfold pairOk at h
  simp only [Bool.and_eq_true, Bool.or_eq_true, Bool.not_eq_true', bne_iff_ne, ne_eq] at h
  obtain ⟨⟨h1, h2⟩, h3⟩ := h
  refine ⟨?_, ?_, h3⟩
  · rcases h1 with h1 | ⟨⟨⟨⟨⟨h1, h4⟩, h5⟩, h6⟩, h7⟩, h8⟩
    · exact .inl h1
    · exact .inr ⟨h1, h4, by simpa using h5, by simpa using h6, by simpa using h7, by simpa using h8⟩
  · intro t ht hy
    rw [ht, hy] at h2
    simp at h2
theorem se_get {N : Nat} {dst : Option Nat} (hN : N < 4294967296) (hd : dstOk N dst = true) {e : T} {v : AV} {t : Nat} (ht : t < 4294967296) : ((seOf dst).se e v).get t = if dst = some t then v else e.get t := by
  cases dst with
  | none => simp [seOf]
  | some d =>
    have hd' : d < N := blt_iff.1 hd
    show ((put d).se e v).get t = _
    rw [T.get_put (by omega) ht]
    by_cases h : t = d
    · subst h; simp
    · rw [if_neg h, if_neg (by simpa using Ne.symm h)]
theorem dst_lt {N : Nat} {dst : Option Nat} (hN : N < 4294967296) (hd : dstOk N dst = true) {t : Nat} (h : dst = some t) : t < 4294967296 := by
  subst h
  have : t < N := blt_iff.1 hd
  omega
theorem rank_le {L : List DInfo} {i j : Nat} (h : i ≤ j) : rankAt 0 L i ≤ rankAt 0 L j := by
  unfold rankAt
  obtain ⟨d, rfl⟩ : ∃ d, j = i + d := ⟨j - i, by omega⟩
  rw [List.take_add, List.countP_append]
  omega
theorem rank_lt {L : List DInfo} {i j : Nat} {x : DInfo} (hx : L[i]? = some x) (hc : x.cl = 2) (h : i < j) : rankAt 0 L i < rankAt 0 L j := by
  refine Nat.lt_of_lt_of_le ?_ (rank_le (show i + 1 ≤ j by omega))
  unfold rankAt
  rw [List.take_add_one, List.countP_append, hx]
  simp [hc]
theorem rank_top {L : List DInfo} {i : Nat} {x : DInfo} (hx : L[i]? = some x) (hc : x.cl = 2) : rankAt 0 L i < L.countP (·.cl == 2) := by
  have h1 : i < L.length := (List.getElem?_eq_some_iff.1 hx).1
  have := rank_lt hx hc h1
  unfold rankAt at this ⊢
  rwa [List.take_length, Nat.zero_add (L.countP _)] at this

structure Cx where
  P : Program
  F : Fns
  N : Nat
  ops : Array Oper
  L : List DInfo
  b0 : Nat
  m : Nat
  K : Nat
  E : Nat → T
  H : Nat → Heap
  D : Nat → Ds
  V : Nat → AV
  σ0 : Sg
  h0 : Heap
  w0 : World
  rc0 : Rec
  cs0 : List Frame
  b : Frame
def Cx.id (c : Cx) (k : Nat) : Nat := c.b0 + rankAt 0 c.L k
def done (li : Array Bool) (x : DInfo) : Prop := li.getD x.ix false = true
/-- carried out? -/
def wantD (ops : Array Oper) (x : DInfo) (e : T) : Bool := match guardOf ops x.op.guard with
  | some none => true
  | some (some (t, w)) => isB ((tmp t).ev e) w
  | none => false
def decd (ops : Array Oper) (x : DInfo) (e : T) : Prop := match guardOf ops x.op.guard with
  | some none => True
  | some (some (t, w)) => isBool ((tmp t).ev e) = true
  | none => False
def Cx.Ob (c : Cx) (k : Nat) (x : DInfo) : Option AObj := bif wantD c.ops x (c.E k) then (c.H (k + 1)).t.get (c.id k) else none
structure Cx.OK (c : Cx) : Prop where
  lok : LOK c.P c.N c.ops c.L
  hN : c.N < 4294967296
  kL : c.K ≤ c.L.length
  st : ∀ (k : Nat) (x : DInfo), k < c.K → c.L[k]? = some x → dSt c.P c.ops c.F c.b0 c.m (rankAt 0 c.L k) x (c.E k) (c.H k) (c.D k) = .go (c.V k) (c.H (k + 1)) (c.D (k + 1)) ∧ c.E (k + 1) = (seOf x.op.dst).se (c.E k) (c.V k) ∧
    chkD c.P c.ops (aheadAt [] c.L k) x (c.E (k + 1)) (c.H (k + 1)) = true
  m_eq : c.m = c.L.countP (·.cl == 2)
  b0_eq : c.b0 = c.h0.next
  gG : GoOK c.P c.F
  cC : CallOK c.P c.F
  rR : RndOK c.P c.F
  dm0 : Dom c.h0
section
variable {c : Cx}
theorem dSt_go {P : Program} {ops : Array Oper} {F : Fns} {b m rank : Nat} {x : DInfo} {e : T} {h h' : Heap} {d d' : Ds} {v : AV} (hs : dSt P ops F b m rank x e h d = .go v h' d') :
    decd ops x e ∧ ((wantD ops x e = false ∧ v = .tup [] ∧ h' = h ∧ d' = d) ∨ (wantD ops x e = true ∧ dGo P F b m rank x e h d = .go v h' d')) := by
  unfold dSt at hs
  unfold decd wantD
  split at hs
  · rename_i hg; rw [hg]; exact ⟨trivial, .inr ⟨rfl, hs⟩⟩
  · rename_i t w hg
    rw [hg]
    cases h1 : isBool ((tmp t).ev e) with
    | false => rw [h1] at hs; cases hs
    | true =>
      rw [h1, cond_true] at hs
      refine ⟨h1, ?_⟩
      simp only []
      cases h2 : isB ((tmp t).ev e) w with
      | false => rw [h2] at hs; injection hs with a b c; exact .inl ⟨rfl, a.symm, b.symm, c.symm⟩
      | true => rw [h2] at hs; exact .inr ⟨rfl, hs⟩
  · cases hs
theorem dSt_pan {P : Program} {ops : Array Oper} {F : Fns} {b m rank : Nat} {x : DInfo} {e : T} {h h' : Heap} {d : Ds} {v : AV} (hs : dSt P ops F b m rank x e h d = .pan v h') :
    decd ops x e ∧ wantD ops x e = true ∧ dGo P F b m rank x e h d = .pan v h' := by
  unfold dSt at hs
  unfold decd wantD
  split at hs
  · rename_i hg; rw [hg]; exact ⟨trivial, rfl, hs⟩
  · rename_i t w hg
    rw [hg]
    cases h1 : isBool ((tmp t).ev e) with
    | false => rw [h1] at hs; cases hs
    | true =>
      rw [h1, cond_true] at hs
      refine ⟨h1, ?_⟩
      simp only []
      cases h2 : isB ((tmp t).ev e) w with
      | false => rw [h2] at hs; cases hs
      | true => rw [h2] at hs; exact ⟨rfl, hs⟩
  · cases hs
/-- the guard's temporary is among those that are looked at -/
theorem guard_ts {ops : Array Oper} {o : Oper} {t : Nat} {w : Bool} (hg : guardOf ops o.guard = some (some (t, w))) : t ∈ tmpsOf ops o := by
  unfold tmpsOf
  rw [hg]
  simp
theorem wanted_eq {σ : Sg} {N : Nat} {e eD : T} {tm : Array Value} {P : Program} {ops : Array Oper} {x : DInfo} (he : ER σ N eD tm) (hg : GL P σ) (hts : x.ts = tmpsOf ops x.op) (hlt : ∀ t ∈ x.ts, t < 4294967296)
    (hag : ∀ t ∈ x.ts, e.get t = eD.get t) (hd : decd ops x e) : Region.wanted x.op (yielded ops tm) = wantD ops x e := by
  unfold decd at hd
  unfold wantD
  rcases guardOf_cases (all := ops) (g := x.op.guard) with h0 | ⟨h0, h3⟩ | ⟨j, c, i', h0, h3, h4⟩
  · rw [h0] at hd; exact hd.elim
  · rw [h3]; simp [Region.wanted, h0]
  · rw [h4] at hd ⊢
    simp only [] at hd ⊢
    have hm : i' ∈ x.ts := by rw [hts]; exact guard_ts h4
    have h5 : (tmp i').ev e = (tmp i').ev eD := by rw [tmp_ev (hlt _ hm), tmp_ev (hlt _ hm), hag _ hm]
    rw [h5] at hd ⊢
    exact wanted_ok he hg h0 h3 hd
theorem Cx.OK.uniq (ok : c.OK) {k j : Nat} {x y : DInfo} (hx : c.L[k]? = some x) (hy : c.L[j]? = some y) (h : x.ix = y.ix) : k = j := by
  rcases Nat.lt_trichotomy k j with h1 | h1 | h1
  · exact absurd h (pair_spec (ok.lok.pair k j x y h1 hx hy)).2.2
  · exact h1
  · exact absurd h.symm (pair_spec (ok.lok.pair j k y x h1 hy hx)).2.2
theorem Cx.OK.waw (ok : c.OK) {k j : Nat} {x y : DInfo} {t : Nat} (hx : c.L[k]? = some x) (hy : c.L[j]? = some y) (h1 : x.op.dst = some t) (h2 : y.op.dst = some t) : k = j := by
  rcases Nat.lt_trichotomy k j with h3 | h3 | h3
  · exact absurd h2 ((pair_spec (ok.lok.pair k j x y h3 hx hy)).2.1 t h1)
  · exact h3
  · exact absurd h1 ((pair_spec (ok.lok.pair j k y x h3 hy hx)).2.1 t h2)
theorem Cx.OK.get_at (ok : c.OK) {k : Nat} (hk : k < c.K) : ∃ x, c.L[k]? = some x := ⟨c.L[k]'(Nat.lt_of_lt_of_le hk ok.kL), by simp [Nat.lt_of_lt_of_le hk ok.kL]⟩
theorem Cx.OK.E_get (ok : c.OK) : ∀ (k : Nat), k ≤ c.K → ∀ t, t < 4294967296 → (∀ (j : Nat) (y : DInfo), j < k → c.L[j]? = some y → y.op.dst = some t → (c.E k).get t = c.V j) ∧
    ((∀ (j : Nat) (y : DInfo), j < k → c.L[j]? = some y → y.op.dst ≠ some t) → (c.E k).get t = (c.E 0).get t)
  | 0, _, t, _ => ⟨fun j y h => by omega, fun _ => rfl⟩
  | k + 1, hk, t, ht => by
    obtain ⟨h1, h2⟩ := E_get ok k (by omega) t ht
    obtain ⟨x, hx⟩ := ok.get_at (show k < c.K by omega)
    obtain ⟨_, h3, _⟩ := ok.st k x (by omega) hx
    have h4 : (c.E (k + 1)).get t = if x.op.dst = some t then c.V k else (c.E k).get t := by rw [h3]; exact se_get ok.hN (ok.lok.dst k x hx) ht
    constructor
    · intro j y hj hy hd
      rw [h4]
      by_cases hjk : j = k
      · subst hjk; rw [hx] at hy; cases hy; rw [if_pos hd]
      · rw [if_neg fun e => hjk (ok.waw hy hx hd e)]
        exact h1 j y (by omega) hy hd
    · intro hn
      rw [h4, if_neg (hn k x (by omega) hx)]
      exact h2 fun j y hj hy => hn j y (by omega) hy
theorem Cx.OK.id_inj (ok : c.OK) {k j : Nat} {x y : DInfo} (hx : c.L[k]? = some x) (hy : c.L[j]? = some y) (h1 : x.cl = 2) (h2 : y.cl = 2) (h : c.id k = c.id j) : k = j := by
  unfold Cx.id at h
  rcases Nat.lt_trichotomy k j with h3 | h3 | h3
  · have := rank_lt hx h1 h3; omega
  · exact h3
  · have := rank_lt hy h2 h3; omega
theorem Cx.OK.id_lt (ok : c.OK) {k : Nat} {x : DInfo} (hx : c.L[k]? = some x) (h1 : x.cl = 2) : c.id k < c.b0 + c.m := by
  have := rank_top hx h1
  rw [ok.m_eq]
  unfold Cx.id
  omega
theorem Cx.OK.cl_cases (ok : c.OK) {k : Nat} {x : DInfo} (hx : c.L[k]? = some x) : x.cl = 0 ∨ x.cl = 1 ∨ x.cl = 2 ∨ x.cl = 3 := by
  have := cls_le (P := c.P) x.op.op
  rw [← ok.lok.cl k x hx] at this
  omega

/-- how far a schedule has come, and what is so then -/
structure Sim (c : Cx) (li : Array Bool) (q : Nat) (eD : T) (σ : Sg) (g : G) (tm : Array Value) (ds : List Deferred) (cs : List Frame) (w : World) : Prop where
  sz : li.size = c.ops.size
  down : ∀ (k : Nat) (x : DInfo) (e : Edge), c.L[k]? = some x → done li x → e ∈ x.op.after → Region.binds .any e = true → li.getD e.on false = true
  ev : ∀ (k : Nat) (x : DInfo), c.L[k]? = some x → done li x → k < c.K
  qK : q ≤ c.K
  c3a : ∀ (k : Nat) (x : DInfo), c.L[k]? = some x → x.cl = 3 → k < q → done li x
  c3b : ∀ (k : Nat) (x : DInfo), c.L[k]? = some x → x.cl = 3 → q ≤ k → ¬ done li x
  q0 : q = 0 ∨ ∃ j x, q = j + 1 ∧ c.L[j]? = some x ∧ x.cl = 3
  env1 : ∀ (k : Nat) (x : DInfo) t, c.L[k]? = some x → done li x → x.op.dst = some t → eD.get t = c.V k
  env2 : ∀ t, t < 4294967296 → (∀ (k : Nat) (x : DInfo), c.L[k]? = some x → done li x → x.op.dst ≠ some t) → eD.get t = (c.E 0).get t
  er : ER σ c.N eD tm
  gl : GL c.P σ
  df : DfR σ (c.D q).dfs ds
  rn : RnR σ (c.D q).rnd c.b.roundOf
  rc : RcR σ c.b.kind (c.D q).rc cs
  csr : CsR c.rc0 c.cs0 (c.D q).rc cs
  aft : AftG c.P c.σ0 c.h0 c.w0 σ g (c.H q).next w
  hq : ∀ i o, (c.H q).t.get i = some o → g i = some o
  own : ∀ (k : Nat) (x : DInfo) ob, q ≤ k → c.L[k]? = some x → x.cl = 2 → done li x → c.Ob k x = some ob → g (c.id k) = some ob
  onl : ∀ i o, g i = some o → (c.H q).t.get i = some o ∨ ∃ (k : Nat) (x : DInfo), q ≤ k ∧ c.L[k]? = some x ∧ x.cl = 2 ∧ done li x ∧ i = c.id k ∧ c.Ob k x = some o
  fresh : ∀ i j, (c.H q).next ≤ i → σ i j = none
  ids : ∀ (k : Nat) (x : DInfo), c.L[k]? = some x → x.cl = 2 → ¬ done li x → ∀ j, σ (c.id k) j = none
  zid : ∀ j, σ (c.b0 + c.m) j = none
  nx : c.b0 + c.m + 1 ≤ (c.H q).next
  hnew : ∀ (k : Nat) (x : DInfo), q ≤ k → c.L[k]? = some x → x.cl = 2 → (c.H q).t.get (c.id k) = none
  fo : ∃ f, c.P.funcs[c.b.fn]? = some f
end
end Go.Rk

namespace Go.Rk
open Go
set_option linter.unusedVariables false
set_option linter.unusedSimpArgs false
set_option linter.constructorNameAsVariable false
set_option linter.unusedSectionVars false
variable [TabC]
section
variable {c : Cx} {li : Array Bool} {q : Nat} {eD : T} {σ : Sg} {g : G} {tm : Array Value} {ds : List Deferred} {cs : List Frame} {w : World} {k : Nat} {x : DInfo}

theorem run0_go {o : OR} {z : Nat} {h h' : Heap} {d d' : Ds} {v : AV} (hr : run0 o z h d = .go v h' d') : ∃ h1, o = .val v h1 ∧ h1.next = z ∧ h' = h ∧ d' = d := by
  unfold run0 at hr
  split at hr
  · rename_i v' h1
    cases hb : Nat.beq h1.next z <;> rw [hb] at hr
    · cases hr
    · injection hr with a b e
      subst a b e
      exact ⟨h1, rfl, Nat.eq_of_beq_eq_true hb, rfl, rfl⟩
  · cases hr
theorem run1_go {o : OR} {h h' : Heap} {d d' : Ds} {v : AV} (hr : run1 o h d = .go v h' d') : ∃ h1, o = .val v h1 ∧ h' = h ∧ d' = d := by
  unfold run1 at hr
  split at hr
  · rename_i v' h1
    injection hr with a b e
    subst a b e
    exact ⟨h1, rfl, rfl, rfl⟩
  · cases hr
theorem run2_go {o : OR} {z : Nat} {h h' : Heap} {d d' : Ds} {v : AV} (hr : run2 o z h d = .go v h' d') : ∃ h1 ob, o = .val v h1 ∧ h1.t.get z = some ob ∧ h1.next = z + 1 ∧ h' = { next := h.next, t := h.t.set z ob } ∧ d' = d := by
  unfold run2 at hr
  split at hr
  · rename_i v' h1
    split at hr
    · rename_i ob hob
      cases hb : Nat.beq h1.next (Nat.succ z) <;> rw [hb] at hr
      · cases hr
      · injection hr with a b e
        subst a b e
        exact ⟨h1, ob, rfl, hob, Nat.eq_of_beq_eq_true hb, rfl, rfl⟩
    · cases hr
  · cases hr
theorem Cx.OK.skipped (ok : c.OK) (hx : c.L[k]? = some x) (hk : k < c.K) (hw : wantD c.ops x (c.E k) = false) : c.V k = .tup [] ∧ c.H (k + 1) = c.H k ∧ c.D (k + 1) = c.D k := by
  obtain ⟨_, h1⟩ := dSt_go (ok.st k x hk hx).1
  rcases h1 with ⟨_, h2, h3, h4⟩ | ⟨h1, _⟩
  · exact ⟨h2, h3, h4⟩
  · rw [hw] at h1; cases h1
theorem Cx.OK.dec (ok : c.OK) (hx : c.L[k]? = some x) (hk : k < c.K) : decd c.ops x (c.E k) := (dSt_go (ok.st k x hk hx).1).1
theorem Cx.OK.ran (ok : c.OK) (hx : c.L[k]? = some x) (hk : k < c.K) (hw : wantD c.ops x (c.E k) = true) : dGo c.P c.F c.b0 c.m (rankAt 0 c.L k) x (c.E k) (c.H k) (c.D k) = .go (c.V k) (c.H (k + 1)) (c.D (k + 1)) := by
  obtain ⟨_, h1⟩ := dSt_go (ok.st k x hk hx).1
  rcases h1 with ⟨h1, _⟩ | ⟨_, h1⟩
  · rw [hw] at h1; cases h1
  · exact h1
theorem Cx.OK.ran0 (ok : c.OK) (hx : c.L[k]? = some x) (hk : k < c.K) (hw : wantD c.ops x (c.E k) = true) (hc : x.cl = 0) :
    ∃ h1, (cop c.P x.op.op).run (mask (c.E k) x.ts) { next := c.b0 + c.m, t := .e } = .val (c.V k) h1 ∧ h1.next = c.b0 + c.m ∧ c.H (k + 1) = c.H k ∧ c.D (k + 1) = c.D k := by
  have := ok.ran hx hk hw
  unfold dGo at this
  rw [hc] at this
  exact run0_go this
theorem Cx.OK.ran1 (ok : c.OK) (hx : c.L[k]? = some x) (hk : k < c.K) (hw : wantD c.ops x (c.E k) = true) (hc : x.cl = 1) :
    ∃ h1, (cop c.P x.op.op).run (mask (c.E k) x.ts) (c.H k) = .val (c.V k) h1 ∧ c.H (k + 1) = c.H k ∧ c.D (k + 1) = c.D k := by
  have := ok.ran hx hk hw
  unfold dGo at this
  rw [hc] at this
  exact run1_go this
theorem Cx.OK.ran2 (ok : c.OK) (hx : c.L[k]? = some x) (hk : k < c.K) (hw : wantD c.ops x (c.E k) = true) (hc : x.cl = 2) :
    ∃ h1 ob, (cop c.P x.op.op).run (mask (c.E k) x.ts) { next := c.id k, t := .e } = .val (c.V k) h1 ∧ h1.t.get (c.id k) = some ob ∧ h1.next = c.id k + 1 ∧ c.H (k + 1) = { next := (c.H k).next, t := (c.H k).t.set (c.id k) ob } ∧ c.D (k + 1) = c.D k := by
  have := ok.ran hx hk hw
  unfold dGo at this
  rw [hc] at this
  exact run2_go this
theorem Cx.OK.ran3 (ok : c.OK) (hx : c.L[k]? = some x) (hk : k < c.K) (hw : wantD c.ops x (c.E k) = true) (hc : x.cl = 3) :
    or3 ((cop c.P x.op.op).run (mask (c.E k) x.ts) (c.H k)) c.F (c.H k) (c.D k) = .go (c.V k) (c.H (k + 1)) (c.D (k + 1)) := by
  have := ok.ran hx hk hw
  unfold dGo at this
  rw [hc] at this
  exact this
theorem Cx.OK.ob_of (ok : c.OK) (hx : c.L[k]? = some x) (hw : wantD c.ops x (c.E k) = true) {ob : AObj} {t : Tr} {n : Nat} (h : c.H (k + 1) = { next := n, t := t.set (c.id k) ob }) : c.Ob k x = some ob := by
  unfold Cx.Ob
  rw [hw, cond_true, h]
  show (t.set (c.id k) ob).get (c.id k) = some ob
  rw [Tr.get_set]; simp
theorem Cx.OK.ob_no (hw : wantD c.ops x (c.E k) = false) : c.Ob k x = none := by
  unfold Cx.Ob
  rw [hw]; rfl
/-- an operation that is none of the last class changes little -/
theorem Cx.OK.hstep (ok : c.OK) (hx : c.L[k]? = some x) (hk : k < c.K) (hc : x.cl ≠ 3) : (c.H (k + 1)).next = (c.H k).next ∧ c.D (k + 1) = c.D k ∧ (x.cl ≠ 2 → c.H (k + 1) = c.H k) ∧
    (x.cl = 2 → ∀ i, (c.H (k + 1)).t.get i = match c.Ob k x with | some ob => (if i = c.id k then some ob else (c.H k).t.get i) | none => (c.H k).t.get i) := by
  cases hw : wantD c.ops x (c.E k) with
  | false =>
    obtain ⟨_, h1, h2⟩ := ok.skipped hx hk hw
    rw [h1, h2, Cx.OK.ob_no hw]
    exact ⟨rfl, rfl, fun _ => rfl, fun _ _ => rfl⟩
  | true =>
    rcases ok.cl_cases hx with h0 | h0 | h0 | h0
    · obtain ⟨h1, _, _, h2, h3⟩ := ok.ran0 hx hk hw h0
      rw [h2, h3]
      exact ⟨rfl, rfl, fun _ => rfl, fun h => by omega⟩
    · obtain ⟨h1, _, h2, h3⟩ := ok.ran1 hx hk hw h0
      rw [h2, h3]
      exact ⟨rfl, rfl, fun _ => rfl, fun h => by omega⟩
    · obtain ⟨h1, ob, _, _, _, h2, h3⟩ := ok.ran2 hx hk hw h0
      rw [ok.ob_of hx hw h2, h2, h3]
      exact ⟨rfl, rfl, fun h => absurd h0 h, fun _ i => Tr.get_set _ _ _ _⟩
    · exact absurd h0 hc

theorem Sim.gfree (s : Sim c li q eD σ g tm ds cs w) {i : Nat} (h : ∀ j, σ i j = none) : g i = none := by
  cases e : g i with
  | none => rfl
  | some o => obtain ⟨L, hL, _⟩ := s.aft.hr.obj i o e; rw [h] at hL; cases hL
theorem Sim.anc (ok : c.OK) (s : Sim c li q eD σ g tm ds cs w) : ∀ (k : Nat) (x : DInfo), c.L[k]? = some x → (∀ e ∈ x.op.after, Region.binds .any e = true → li.getD e.on false = true) →
    ∀ (j : Nat) (y : DInfo), c.L[j]? = some y → x.anc.testBit y.ix = true → done li y := by
  intro k
  induction k using Nat.strongRecOn with
  | ind k ih =>
    intro x hx he j y hy ht
    have hlt : y.ix < c.ops.size := (Array.getElem?_eq_some_iff.1 (ok.lok.op j y hy)).1
    obtain ⟨e, h1, h2, h3⟩ := ok.lok.anc2 k x y.ix hx hlt ht
    have h4 := he e h1 h2
    rcases h3 with h3 | ⟨k', z, h5, h6, h7, h8⟩
    · unfold done; rw [← h3]; exact h4
    · have hz : done li z := by unfold done; rw [h7]; exact h4
      exact ih k' h5 z h6 (fun e he hb => s.down k' z e h6 hz he hb) j y hy h8
theorem Sim.ready (ok : c.OK) (s : Sim c li q eD σ g tm ds cs w) {i : Nat} (hi : i ∈ Region.ready .any c.ops li) :
    ∃ (k : Nat) (x : DInfo), c.L[k]? = some x ∧ x.ix = i ∧ ¬ done li x ∧ c.ops[i]? = some x.op ∧ (∀ e ∈ x.op.after, Region.binds .any e = true → li.getD e.on false = true) := by
  obtain ⟨h1, o, h2, h3⟩ := mem_ready.1 hi
  have hlt : i < c.ops.size := (Array.getElem?_eq_some_iff.1 h2).1
  obtain ⟨k, x, h4, h5⟩ := ok.lok.surj i hlt
  have h6 := ok.lok.op k x h4
  rw [h5, h2] at h6
  cases h6
  refine ⟨k, x, h4, h5, ?_, h2, h3⟩
  unfold done
  rw [h5]
  have hsz := s.sz
  rw [getD_false (by omega)] at h1 ⊢
  rw [h1]; simp
theorem Sim.agree (ok : c.OK) (s : Sim c li q eD σ g tm ds cs w) (hx : c.L[k]? = some x) (hnd : ¬ done li x) (hanc : ∀ (j : Nat) (y : DInfo), c.L[j]? = some y → x.anc.testBit y.ix = true → done li y) (hk : k ≤ c.K) :
    ∀ t ∈ x.ts, (c.E k).get t = eD.get t := by
  intro t ht
  have hlt := ok.lok.ts k x hx t ht
  obtain ⟨E1, E2⟩ := ok.E_get k hk t hlt
  by_cases hw : ∃ (j : Nat) (y : DInfo), c.L[j]? = some y ∧ y.op.dst = some t
  · obtain ⟨j, y, hy, hd⟩ := hw
    have key : ¬ done li y → k ≤ j → (c.E k).get t = eD.get t := by
      intro hny hj
      rw [E2 fun j' z hj' hz hzd => by have := ok.waw hz hy hzd hd; omega, s.env2 t hlt fun j' z hz hzd hzt => ?_]
      have := ok.waw hz hy hzt hd
      subst this
      rw [hz] at hy; cases hy
      exact hny hzd
    rcases Nat.lt_trichotomy j k with h1 | h1 | h1
    · rcases (pair_spec (ok.lok.pair j k y x h1 hy hx)).1 with h2 | ⟨h2, _⟩
      · rw [E1 j y h1 hy hd, s.env1 j y t hy (hanc j y hy h2) hd]
      · exact absurd ht (has_iff.1 h2 t hd)
    · subst h1
      rw [hx] at hy; cases hy
      exact key hnd (Nat.le_refl _)
    · rcases (pair_spec (ok.lok.pair k j x y h1 hx hy)).1 with h2 | ⟨_, h2, _⟩
      · refine key (fun hyd => hnd ?_) (by omega)
        exact s.anc ok j y hy (fun e he hb => s.down j y e hy hyd he hb) k x hx h2
      · exact absurd ht (has_iff.1 h2 t hd)
  · rw [E2 fun j y _ hy hd => hw ⟨j, y, hy, hd⟩, s.env2 t hlt fun j y hy _ hd => hw ⟨j, y, hy, hd⟩]
theorem Sim.no3 (ok : c.OK) (s : Sim c li q eD σ g tm ds cs w) (hx : c.L[k]? = some x) (hanc : ∀ (j : Nat) (y : DInfo), c.L[j]? = some y → x.anc.testBit y.ix = true → done li y) (hc : x.cl = 3 ∨ x.cl = 1) :
    ∀ (j : Nat) (y : DInfo), q ≤ j → j < k → c.L[j]? = some y → y.cl ≠ 3 := by
  intro j y hj hjk hy h3
  rcases (pair_spec (ok.lok.pair j k y x hjk hy hx)).1 with h2 | ⟨_, _, h4, _, h5, _⟩
  · exact s.c3b j y hy h3 hj (hanc j y hy h2)
  · rcases hc with hc | hc
    · exact h4 ⟨h3, hc⟩
    · exact h5 ⟨h3, hc⟩
theorem Sim.all2 (ok : c.OK) (hx : c.L[k]? = some x) (hanc : ∀ (j : Nat) (y : DInfo), c.L[j]? = some y → x.anc.testBit y.ix = true → done li y) (hc : x.cl = 3 ∨ x.cl = 1) :
    ∀ (j : Nat) (y : DInfo), j < k → c.L[j]? = some y → y.cl = 2 → done li y := by
  intro j y hjk hy h2
  rcases (pair_spec (ok.lok.pair j k y x hjk hy hx)).1 with h3 | ⟨_, _, _, h4, _, h5⟩
  · exact hanc j y hy h3
  · rcases hc with hc | hc
    · exact absurd ⟨h2, hc⟩ h4
    · exact absurd ⟨h2, hc⟩ h5
/-- from the last of the last class on, up to k -/
theorem Sim.walk (ok : c.OK) (s : Sim c li q eD σ g tm ds cs w) : ∀ (n : Nat), q + n ≤ c.K → (∀ (j : Nat) (y : DInfo), q ≤ j → j < q + n → c.L[j]? = some y → y.cl ≠ 3) →
    (c.H (q + n)).next = (c.H q).next ∧ c.D (q + n) = c.D q ∧
    (∀ i o, (c.H (q + n)).t.get i = some o → (c.H q).t.get i = some o ∨ ∃ (j : Nat) (y : DInfo), q ≤ j ∧ j < q + n ∧ c.L[j]? = some y ∧ y.cl = 2 ∧ i = c.id j ∧ c.Ob j y = some o) ∧
    (∀ i o, (c.H q).t.get i = some o → (c.H (q + n)).t.get i = some o) ∧
    (∀ (j : Nat) (y : DInfo) ob, q ≤ j → j < q + n → c.L[j]? = some y → y.cl = 2 → c.Ob j y = some ob → (c.H (q + n)).t.get (c.id j) = some ob) ∧
    (∀ (j : Nat) (y : DInfo), q + n ≤ j → c.L[j]? = some y → y.cl = 2 → (c.H (q + n)).t.get (c.id j) = none)
  | 0, _, _ => ⟨rfl, rfl, fun i o h => .inl h, fun i o h => h, fun j y ob h1 h2 => by omega, fun j y h1 hy h2 => s.hnew j y (by omega) hy h2⟩
  | n + 1, hK, h3 => by
    obtain ⟨w1, w2, w3, w4, w5, w6⟩ := Sim.walk ok s n (by omega) fun j y h1 h2 => h3 j y h1 (by omega)
    obtain ⟨x, hx⟩ := ok.get_at (show q + n < c.K by omega)
    have hc := h3 (q + n) x (by omega) (by omega) hx
    obtain ⟨a1, a2, a3, a4⟩ := ok.hstep hx (by omega) hc
    rw [show q + (n + 1) = q + n + 1 by omega]
    by_cases h2 : x.cl = 2
    · have a5 := a4 h2
      refine ⟨a1.trans w1, a2.trans w2, ?_, ?_, ?_, ?_⟩
      · intro i o hi
        rw [a5] at hi
        cases hob : c.Ob (q + n) x with
        | none =>
          rw [hob] at hi
          rcases w3 i o hi with h4 | ⟨j, y, h4, h5, h6, h7, h8, h9⟩
          · exact .inl h4
          · exact .inr ⟨j, y, h4, by omega, h6, h7, h8, h9⟩
        | some ob =>
          rw [hob] at hi
          simp only [] at hi
          by_cases hii : i = c.id (q + n)
          · rw [if_pos hii] at hi; cases hi
            exact .inr ⟨q + n, x, by omega, by omega, hx, h2, hii, hob⟩
          · rw [if_neg hii] at hi
            rcases w3 i o hi with h4 | ⟨j, y, h4, h5, h6, h7, h8, h9⟩
            · exact .inl h4
            · exact .inr ⟨j, y, h4, by omega, h6, h7, h8, h9⟩
      · intro i o hi
        rw [a5]
        have h4 := w4 i o hi
        cases hob : c.Ob (q + n) x with
        | none => exact h4
        | some ob =>
          simp only []
          rw [if_neg fun e => by rw [e, w6 (q + n) x (by omega) hx h2] at h4; cases h4]
          exact h4
      · intro j y ob h4 h5 h6 h7 h8
        rw [a5]
        by_cases hj : j = q + n
        · subst hj
          rw [hx] at h6; cases h6
          rw [h8]; simp
        · have h9 := w5 j y ob h4 (by omega) h6 h7 h8
          cases hob : c.Ob (q + n) x with
          | none => exact h9
          | some ob' =>
            simp only []
            rw [if_neg fun e => hj (ok.id_inj h6 hx h7 h2 e)]
            exact h9
      · intro j y h4 h5 h6
        rw [a5]
        have h9 := w6 j y (by omega) h5 h6
        cases hob : c.Ob (q + n) x with
        | none => exact h9
        | some ob' =>
          simp only []
          rw [if_neg fun e => by have := ok.id_inj h5 hx h6 h2 e; omega]
          exact h9
    · have a5 := a3 h2
      rw [a5]
      refine ⟨w1, a2.trans w2, ?_, w4, ?_, ?_⟩
      · intro i o hi
        rcases w3 i o hi with h4 | ⟨j, y, h4, h5, h6, h7, h8, h9⟩
        · exact .inl h4
        · exact .inr ⟨j, y, h4, by omega, h6, h7, h8, h9⟩
      · intro j y ob h4 h5 h6 h7 h8
        by_cases hj : j = q + n
        · subst hj; rw [hx] at h6; cases h6; exact absurd h7 h2
        · exact w5 j y ob h4 (by omega) h6 h7 h8
      · intro j y h4 h5 h6
        exact w6 j y (by omega) h5 h6
end
end Go.Rk

namespace Go.Rk
open Go
set_option linter.unusedVariables false
set_option linter.unusedSimpArgs false
set_option linter.constructorNameAsVariable false
set_option linter.unusedSectionVars false
variable [TabC]
section
variable {c : Cx} {li : Array Bool} {q : Nat} {eD : T} {σ : Sg} {g : G} {tm : Array Value} {ds : List Deferred} {cs : List Frame} {w : World} {k : Nat} {x : DInfo}
theorem done_set {y : DInfo} (hlt : x.ix < li.size) : done (li.setIfInBounds x.ix true) y ↔ done li y ∨ y.ix = x.ix := by
  unfold done
  by_cases h : x.ix = y.ix
  · rw [← h]
    constructor
    · intro _; exact .inr rfl
    · intro _; rw [getD_false (by simpa using hlt)]; simp
  · rw [getD_set_ne false h]
    constructor
    · intro h1; exact .inl h1
    · rintro (h1 | h1)
      · exact h1
      · exact absurd h1.symm h
theorem Cx.OK.ix_lt (ok : c.OK) (s : Sim c li q eD σ g tm ds cs w) (hx : c.L[k]? = some x) : x.ix < li.size := by
  rw [s.sz]; exact (Array.getElem?_eq_some_iff.1 (ok.lok.op k x hx)).1
theorem setD_er {σ σ' : Sg} {N : Nat} {e : T} {t : Array Value} {dst : Option Nat} (hN : N < 4294967296) (hd : dstOk N dst = true) (he : ER σ N e t) (hle : σ.le σ') {v : AV} {cv : Value} (hv : ∀ d, dst = some d → VR σ' v cv) :
    ER σ' N ((seOf dst).se e v) (setD t dst cv) := by
  cases dst with
  | none => exact he.mono hle
  | some i => exact (he.mono hle).put (blt_iff.1 hd) hN (hv i rfl)
/-- an operation that is none of the last class has been done -/
theorem Sim.put (ok : c.OK) (s : Sim c li q eD σ g tm ds cs w) (hx : c.L[k]? = some x) (hnd : ¬ done li x) (hk : k < c.K) (hc : x.cl ≠ 3) (hed : ∀ e ∈ x.op.after, Region.binds .any e = true → li.getD e.on false = true)
    {σ' : Sg} {g' : G} {w' : World} {cv : Value} (hle : σ.le σ') (hv : ∀ d, x.op.dst = some d → VR σ' (c.V k) cv) (haft : AftG c.P c.σ0 c.h0 c.w0 σ' g' (c.H q).next w')
    (hg : ((x.cl ≠ 2 ∨ c.Ob k x = none) ∧ (∀ i, g' i = g i)) ∨ (x.cl = 2 ∧ q ≤ k ∧ ∃ ob, c.Ob k x = some ob ∧ g (c.id k) = none ∧ (∀ i, g' i = if i = c.id k then some ob else g i)))
    (hfree : ∀ i, (x.cl = 2 → i ≠ c.id k) → (∀ j, σ i j = none) → ∀ j, σ' i j = none) :
    Sim c (li.setIfInBounds x.ix true) q ((seOf x.op.dst).se eD (c.V k)) σ' g' (setD tm x.op.dst cv) ds cs w' := by
  have hlt := ok.ix_lt s hx
  have hdn : ∀ {j : Nat} {y : DInfo}, c.L[j]? = some y → (done (li.setIfInBounds x.ix true) y ↔ done li y ∨ (j = k ∧ y = x)) := by
    intro j y hy
    rw [done_set hlt]
    constructor
    · rintro (h | h)
      · exact .inl h
      · have := ok.uniq hy hx h
        subst this
        rw [hx] at hy; cases hy
        exact .inr ⟨rfl, rfl⟩
    · rintro (h | ⟨_, h⟩)
      · exact .inl h
      · exact .inr (by rw [h])
  have hdst := ok.lok.dst k x hx
  have hgsome : ∀ i o, g i = some o → g' i = some o := by
    intro i o hi
    rcases hg with ⟨_, h1⟩ | ⟨_, _, ob, _, h0, h1⟩
    · rw [h1]; exact hi
    · rw [h1, if_neg fun e => by rw [e, h0] at hi; cases hi]; exact hi
  refine ⟨by simpa using s.sz, ?_, ?_, s.qK, ?_, ?_, s.q0, ?_, ?_, setD_er ok.hN hdst s.er hle hv, s.gl.mono hle, s.df.mono hle, s.rn.mono hle, s.rc.mono hle, s.csr, haft, ?_, ?_, ?_, ?_, ?_, ?_, s.nx, s.hnew, s.fo⟩
  · intro j y e hy hd he hb
    rcases (hdn hy).1 hd with h1 | ⟨_, h1⟩
    · exact getD_set_true (s.down j y e hy h1 he hb)
    · subst h1; exact getD_set_true (hed e he hb)
  · intro j y hy hd
    rcases (hdn hy).1 hd with h1 | ⟨h1, _⟩
    · exact s.ev j y hy h1
    · omega
  · intro j y hy h3 hj; exact (hdn hy).2 (.inl (s.c3a j y hy h3 hj))
  · intro j y hy h3 hj hd
    rcases (hdn hy).1 hd with h1 | ⟨_, h1⟩
    · exact s.c3b j y hy h3 hj h1
    · subst h1; exact hc h3
  · intro j y t hy hd ht
    have htl := dst_lt ok.hN (ok.lok.dst j y hy) ht
    rw [se_get ok.hN hdst htl]
    rcases (hdn hy).1 hd with h1 | ⟨h1, h2⟩
    · rw [if_neg fun e => ?_]
      · exact s.env1 j y t hy h1 ht
      · have := ok.waw hy hx ht e
        subst this
        rw [hx] at hy; cases hy
        exact hnd h1
    · subst h1 h2; rw [if_pos ht]
  · intro t ht hn
    rw [se_get ok.hN hdst ht, if_neg (hn k x hx ((hdn hx).2 (.inr ⟨rfl, rfl⟩)))]
    exact s.env2 t ht fun j y hy hd => hn j y hy ((hdn hy).2 (.inl hd))
  · intro i o hi; exact hgsome i o (s.hq i o hi)
  · intro j y ob hj hy h2 hd hob
    rcases (hdn hy).1 hd with h1 | ⟨h1, h2'⟩
    · exact hgsome _ _ (s.own j y ob hj hy h2 h1 hob)
    · subst h1 h2'
      rcases hg with ⟨h3 | h3, h4⟩ | ⟨_, _, ob', h3, _, h4⟩
      · exact absurd h2 h3
      · rw [h3] at hob; cases hob
      · rw [h3] at hob; cases hob; rw [h4]; simp
  · intro i o hi
    have old : g i = some o → (c.H q).t.get i = some o ∨ ∃ (k' : Nat) (x' : DInfo), q ≤ k' ∧ c.L[k']? = some x' ∧ x'.cl = 2 ∧ done (li.setIfInBounds x.ix true) x' ∧ i = c.id k' ∧ c.Ob k' x' = some o := by
      intro h
      rcases s.onl i o h with h1 | ⟨k', x', h1, h2, h3, h4, h5, h6⟩
      · exact .inl h1
      · exact .inr ⟨k', x', h1, h2, h3, (hdn h2).2 (.inl h4), h5, h6⟩
    rcases hg with ⟨_, h4⟩ | ⟨h2, hqk, ob', h3, _, h4⟩
    · rw [h4] at hi; exact old hi
    · rw [h4] at hi
      by_cases hii : i = c.id k
      · rw [if_pos hii] at hi; cases hi
        exact .inr ⟨k, x, hqk, hx, h2, (hdn hx).2 (.inr ⟨rfl, rfl⟩), hii, h3⟩
      · rw [if_neg hii] at hi; exact old hi
  · intro i j hi
    refine hfree i (fun h2 e => ?_) (fun j => s.fresh i j hi) j
    have := ok.id_lt hx h2
    have := s.nx
    omega
  · intro j y hy h2 hn j'
    have hny : ¬ done li y := fun h => hn ((hdn hy).2 (.inl h))
    refine hfree _ (fun h2' e => ?_) (s.ids j y hy h2 hny) j'
    have := ok.id_inj hy hx h2 h2' e
    subst this
    rw [hx] at hy; cases hy
    exact hn ((hdn hx).2 (.inr ⟨rfl, rfl⟩))
  · intro j
    refine hfree _ (fun h2 e => ?_) s.zid j
    have := ok.id_lt hx h2
    omega
theorem quiet (ok : c.OK) (s : Sim c li q eD σ g tm ds cs w) (hx : c.L[k]? = some x) {i : Nat} {rest : List Nat} {kk : List Item} (ho : c.ops[i]? = some x.op) (hw : Region.wanted x.op (yielded c.ops tm) = true) (hcl : x.cl ≠ 3)
    {hh h1 : Heap} {v : AV} (hrun : (cop c.P x.op.op).run (mask (c.E k) x.ts) hh = .val v h1) (hag : ∀ t ∈ x.ts, (c.E k).get t = eD.get t) (hsub : ∀ i o, hh.t.get i = some o → g i = some o) (hf : ∀ j, σ hh.next j = none) :
    ∃ σ' cv w', step c.P (lone (fat c.b tm ds (.inRegion c.ops (i :: rest) :: kk)) cs w) = .next (lone (fat c.b (setD tm x.op.dst cv) ds (.inRegion c.ops rest :: kk)) cs w') ∧ VR σ' v cv ∧ Aft c.P σ hh w σ' h1 w' := by
  have hop := cop_ok (HR.sub s.aft.hr hsub) s.gl hf (fun y => opd_ok (mask_er s.er (ok.lok.ts k x hx) hag) s.gl y) x.op
  rw [hrun] at hop
  have hnd : ∀ c', x.op.op ≠ .defer c' := by
    intro c' h
    have h2 := ok.lok.cl k x hx
    rw [h] at h2
    exact hcl h2
  rw [← Oper.semAt_eq c.b.roundOf (evalT tm) x.op hnd] at hop
  obtain ⟨n, cv, w', σ', a1, a2, a3, a4⟩ := hop
  exact ⟨σ', cv, w', st_op ho hw a1 a2, a3, a4⟩
theorem AftG.toAft {P : Program} {σ0 σ : Sg} {h0 h : Heap} {w0 w : World} {g : G} {nx : Nat} (A : AftG P σ0 h0 w0 σ g nx w) (hsub : ∀ i o, h.t.get i = some o → g i = some o) (hk : ∀ i, h0.t.get i ≠ none → h.t.get i ≠ none) (hn : nx ≤ h.next) :
    Aft P σ0 h0 w0 σ h w :=
  ⟨A.le, HR.sub A.hr hsub, A.size, A.frame, fun i o L hi hL => A.back i o L (hsub i o hi) hL, fun i j L hs => (A.new i j L hs).imp id (Or.imp id fun x => ⟨x.1, Nat.lt_of_lt_of_le x.2 hn⟩),
    fun i hi => by
      cases e : h.t.get i with
      | none => exact absurd e hi
      | some o => exact (A.dom i (by rw [hsub i o e]; simp)).imp id fun x => ⟨x.1, Nat.lt_of_lt_of_le x.2 hn⟩,
    hk, fun i o hi hr => by
      obtain ⟨k1, k2⟩ := A.ro i o hi hr
      refine ⟨?_, k2⟩
      cases e : h.t.get i with
      | none => exact absurd e (hk i (by rw [hi]; simp))
      | some p => have := hsub i p e; rw [k1] at this; exact this.symm,
    Nat.le_trans A.next hn, A.os, A.tape, A.output⟩
end
end Go.Rk

namespace Go.Rk
open Go
set_option linter.unusedVariables false
set_option linter.unusedSimpArgs false
set_option linter.constructorNameAsVariable false
set_option linter.unusedSectionVars false
variable [TabC]
section
variable {c : Cx} {li : Array Bool} {q : Nat} {eD : T} {σ : Sg} {g : G} {tm : Array Value} {ds : List Deferred} {cs : List Frame} {w : World} {k : Nat} {x : DInfo}
theorem recheck_mem {P : Program} {all : Array Oper} {e : T} {h : Heap} {x : DInfo} : ∀ {l : List DInfo}, recheck P all l e h = true → x ∈ l →
    (match guardOf all x.op.guard with
      | some none => sameNow (cop P x.op.op) x.op.dst e (mask e x.ts) h
      | some (some (t, b)) => (bif isB ((tmp t).ev e) b then sameNow (cop P x.op.op) x.op.dst e (mask e x.ts) h else true)
      | none => false) = true
  | [], _, h => by cases h
  | y :: l, hr, hm => by
    rw [recheck, Bool.and_eq_true] at hr
    rcases List.mem_cons.1 hm with h1 | h1
    · subst h1; exact hr.1
    · exact recheck_mem hr.2 h1
theorem same_of {o : Ko} {dst : Option Nat} {e me : T} {h : Heap} (hs : sameNow o dst e me h = true) : ∃ v h', o.run me h = .val v h' ∧ ∀ d, dst = some d → v = (tmp d).ev e := by
  unfold sameNow at hs
  split at hs
  · rename_i v h' hr
    refine ⟨v, h', hr, fun d hd => ?_⟩
    subst hd
    exact beqV_eq hs
  · cases hs
theorem Sim.late (ok : c.OK) (s : Sim c li q eD σ g tm ds cs w) (hx : c.L[k]? = some x) (hnd : ¬ done li x) (hc : x.cl = 1) (hkq : k < q) (hw : wantD c.ops x (c.E k) = true) :
    ∃ v h1, (cop c.P x.op.op).run (mask (c.E k) x.ts) (c.H q) = .val v h1 ∧ ∀ d, x.op.dst = some d → v = c.V k := by
  rcases s.q0 with h0 | ⟨j, y, rfl, hy, hy3⟩
  · omega
  have hkj : k < j := by
    rcases Nat.lt_or_ge k j with h1 | h1
    · exact h1
    · have : k = j := by omega
      subst this
      rw [hx] at hy; cases hy
      omega
  have hyd := s.c3a j y hy hy3 (by omega)
  have hna : ¬ y.anc.testBit x.ix = true := fun h => hnd (s.anc ok j y hy (fun e he hb => s.down j y e hy hyd he hb) k x hx h)
  rcases ok.lok.rd k x hx hc with h1 | ⟨hself, hlater⟩
  · exact absurd (h1 j y hkj hy hy3) hna
  have hag : ∀ t ∈ x.ts, (c.E (j + 1)).get t = (c.E k).get t := by
    intro t ht
    have hlt := ok.lok.ts k x hx t ht
    obtain ⟨a1, a2⟩ := ok.E_get (j + 1) s.qK t hlt
    obtain ⟨b1, b2⟩ := ok.E_get k (by have := s.qK; omega) t hlt
    by_cases hw : ∃ (i : Nat) (z : DInfo), i < k ∧ c.L[i]? = some z ∧ z.op.dst = some t
    · obtain ⟨i, z, h1, h2, h3⟩ := hw
      rw [a1 i z (by omega) h2 h3, b1 i z h1 h2 h3]
    · rw [b2 fun i z h1 h2 h3 => hw ⟨i, z, h1, h2, h3⟩]
      refine a2 fun i z h1 h2 h3 => ?_
      rcases Nat.lt_trichotomy i k with h4 | h4 | h4
      · exact hw ⟨i, z, h4, h2, h3⟩
      · subst h4; rw [hx] at h2; cases h2
        exact has_iff.1 hself t h3 ht
      · exact has_iff.1 (hlater i z h4 h2) t h3 ht
  have hmask : mask (c.E (j + 1)) x.ts = mask (c.E k) x.ts := mask_congr x.ts (ok.lok.ts k x hx) hag
  obtain ⟨_, _, hchk⟩ := ok.st j y (by have := s.qK; omega) hy
  unfold chkD at hchk
  rw [hy3] at hchk
  have hmem : x ∈ lates (aheadAt [] c.L j) y := by
    unfold lates aheadAt
    rw [List.mem_filter]
    refine ⟨?_, ?_⟩
    · simp only [List.append_nil, List.mem_reverse]
      exact List.mem_of_getElem? (i := k) (by rw [List.getElem?_take, if_pos hkj]; exact hx)
    · simp only [hc, Bool.and_eq_true, Bool.not_eq_true']
      exact ⟨by simp, by simpa using hna⟩
  have h2 := recheck_mem hchk hmem
  have h3 : sameNow (cop c.P x.op.op) x.op.dst (c.E (j + 1)) (mask (c.E (j + 1)) x.ts) (c.H (j + 1)) = true := by
    unfold wantD at hw
    split at h2
    · exact h2
    · rename_i t b hg
      rw [hg] at hw
      simp only [] at hw
      have hm : t ∈ x.ts := by rw [ok.lok.tsg k x hx]; exact guard_ts hg
      have : (tmp t).ev (c.E (j + 1)) = (tmp t).ev (c.E k) := by rw [tmp_ev (ok.lok.ts k x hx t hm), tmp_ev (ok.lok.ts k x hx t hm), hag t hm]
      rw [this, hw, cond_true] at h2
      exact h2
    · cases h2
  obtain ⟨v, h', h4, h5⟩ := same_of h3
  rw [hmask] at h4
  refine ⟨v, h', h4, fun d hd => ?_⟩
  rw [h5 d hd, tmp_ev (dst_lt ok.hN (ok.lok.dst k x hx) hd)]
  exact (ok.E_get (j + 1) s.qK d (dst_lt ok.hN (ok.lok.dst k x hx) hd)).1 k x (by omega) hx hd
/-- what is known at k, when all that must stand ahead has been done -/
theorem Sim.here (ok : c.OK) (s : Sim c li q eD σ g tm ds cs w) (hx : c.L[k]? = some x) (hanc : ∀ (j : Nat) (y : DInfo), c.L[j]? = some y → x.anc.testBit y.ix = true → done li y) (hc : x.cl = 3 ∨ x.cl = 1) (hqk : q ≤ k) (hkK : k ≤ c.K) :
    (c.H k).next = (c.H q).next ∧ c.D k = c.D q ∧ (∀ i o, (c.H k).t.get i = some o → g i = some o) ∧
    (∀ i o, g i = some o → (c.H k).t.get i = some o ∨ ∃ (j : Nat) (y : DInfo), k < j ∧ c.L[j]? = some y ∧ y.cl = 2 ∧ done li y ∧ i = c.id j ∧ c.Ob j y = some o) ∧
    (∀ (j : Nat) (y : DInfo), k ≤ j → c.L[j]? = some y → y.cl = 2 → (c.H k).t.get (c.id j) = none) := by
  obtain ⟨n, rfl⟩ : ∃ n, k = q + n := ⟨k - q, by omega⟩
  obtain ⟨w1, w2, w3, w4, w5, w6⟩ := s.walk ok n hkK (s.no3 ok hx hanc hc)
  refine ⟨w1, w2, ?_, ?_, w6⟩
  · intro i o hi
    rcases w3 i o hi with h1 | ⟨j, y, h1, h2, h3, h4, h5, h6⟩
    · exact s.hq i o h1
    · rw [h5]; exact s.own j y o h1 h3 h4 (Sim.all2 (li := li) ok hx hanc hc j y h2 h3 h4) h6
  · intro i o hi
    rcases s.onl i o hi with h1 | ⟨j, y, h1, h2, h3, h4, h5, h6⟩
    · exact .inl (w4 i o h1)
    · rcases Nat.lt_trichotomy j (q + n) with h7 | h7 | h7
      · rw [h5]; exact .inl (w5 j y o h1 h7 h2 h3 h6)
      · subst h7
        rw [hx] at h2; cases h2
        omega
      · exact .inr ⟨j, y, h7, h2, h3, h4, h5, h6⟩
theorem Sim.step012 (ok : c.OK) (s : Sim c li q eD σ g tm ds cs w) (hx : c.L[k]? = some x) (hnd : ¬ done li x) (hk : k < c.K) (hc : x.cl ≠ 3) {rest : List Nat} {kk : List Item} (ho : c.ops[x.ix]? = some x.op)
    (hed : ∀ e ∈ x.op.after, Region.binds .any e = true → li.getD e.on false = true) :
    ∃ eD' σ' g' tm' w', step c.P (lone (fat c.b tm ds (.inRegion c.ops (x.ix :: rest) :: kk)) cs w) = .next (lone (fat c.b tm' ds (.inRegion c.ops rest :: kk)) cs w') ∧ Sim c (li.setIfInBounds x.ix true) q eD' σ' g' tm' ds cs w' := by
  have hanc := fun j y => s.anc ok k x hx hed j y
  have hag := s.agree ok hx hnd hanc (Nat.le_of_lt hk)
  have hwe := wanted_eq s.er s.gl (ok.lok.tsg k x hx) (ok.lok.ts k x hx) hag (ok.dec hx hk)
  cases hw : wantD c.ops x (c.E k) with
  | false =>
    obtain ⟨h1, h2, h3⟩ := ok.skipped hx hk hw
    rw [hw] at hwe
    exact ⟨_, _, _, _, _, st_opskip ho hwe, s.put ok hx hnd hk hc hed (Sg.le_refl _) (fun d _ => by rw [h1]; exact undef_VR) s.aft (.inl ⟨.inr (Cx.OK.ob_no hw), fun _ => rfl⟩) (fun i _ h => h)⟩
  | true =>
    rw [hw] at hwe
    rcases ok.cl_cases hx with h0 | h0 | h0 | h0
    · obtain ⟨h1, a1, a2, a3, a4⟩ := ok.ran0 hx hk hw h0
      obtain ⟨σ', cv, w', b1, b2, B⟩ := quiet ok s hx (rest := rest) (kk := kk) ho hwe hc a1 hag (fun i o h => by rw [show (Heap.mk (c.b0 + c.m) Tr.e).t.get i = none from rfl] at h; cases h) s.zid
      have hnone : ∀ i, h1.t.get i = none := by
        intro i
        cases e : h1.t.get i with
        | none => rfl
        | some o =>
          rcases B.dom i (by rw [e]; simp) with h2 | h2
          · exact absurd rfl h2
          · rw [a2] at h2; simp only [] at h2; omega
      have hext : ext g h1 = g := by
        funext i; unfold ext; rw [hnone]
      have hA := s.aft.step (nx' := (c.H q).next) (fun i o h => by rw [show (Heap.mk (c.b0 + c.m) Tr.e).t.get i = none from rfl] at h; cases h) (fun i h2 h3 => by rw [a2] at h3; simp only [] at h2; omega) B (by show c.h0.next ≤ c.b0 + c.m; rw [ok.b0_eq]; omega) (Nat.le_refl _) (by have := s.nx; omega)
      rw [hext] at hA
      refine ⟨_, _, _, _, _, b1, s.put ok hx hnd hk hc hed B.le (fun d _ => b2) hA (.inl ⟨.inl (by omega), fun _ => rfl⟩) fun i _ hf j => ?_⟩
      cases e : σ' i j with
      | none => rfl
      | some L =>
        rcases B.new i j L e with h2 | h2 | h2
        · rw [hf] at h2; cases h2
        · exact absurd rfl h2
        · rw [a2] at h2; simp only [] at h2; omega
    · have hrd : ∃ hh v h1, (cop c.P x.op.op).run (mask (c.E k) x.ts) hh = .val v h1 ∧ (∀ d, x.op.dst = some d → v = c.V k) ∧ (∀ i o, hh.t.get i = some o → g i = some o) ∧ hh.next = (c.H q).next := by
        rcases Nat.lt_or_ge k q with hkq | hkq
        · obtain ⟨v, h1, a1, a2⟩ := s.late ok hx hnd h0 hkq hw
          exact ⟨c.H q, v, h1, a1, a2, s.hq, rfl⟩
        · obtain ⟨h1, a1, _⟩ := ok.ran1 hx hk hw h0
          obtain ⟨e1, _, e3, _⟩ := s.here ok hx hanc (.inr h0) hkq (Nat.le_of_lt hk)
          exact ⟨c.H k, c.V k, h1, a1, fun _ _ => rfl, e3, e1⟩
      obtain ⟨hh, v, h1, a1, a2, a3, a4⟩ := hrd
      have hs1 : h1 = hh := cls1_same x.op.op (by rw [← ok.lok.cl k x hx]; exact h0) _ _ v h1 a1
      subst hs1
      obtain ⟨σ', cv, w', b1, b2, B⟩ := quiet ok s hx (rest := rest) (kk := kk) ho hwe hc a1 hag a3 (fun j => s.fresh _ j (by rw [a4]; exact Nat.le_refl _))
      have hext : ext g h1 = g := by
        funext i; unfold ext
        cases e : h1.t.get i with
        | none => rfl
        | some o => simp only []; exact (a3 i o e).symm
      have hA := s.aft.step (nx' := (c.H q).next) a3 (fun i h2 h3 => by omega) B (by rw [a4]; have := s.nx; rw [ok.b0_eq] at this; omega) (Nat.le_refl _) (by omega)
      rw [hext] at hA
      refine ⟨_, _, _, _, _, b1, s.put ok hx hnd hk hc hed B.le (fun d hd => by rw [← a2 d hd]; exact b2) hA (.inl ⟨.inl (by omega), fun _ => rfl⟩) fun i _ hf j => ?_⟩
      cases e : σ' i j with
      | none => rfl
      | some L =>
        rcases B.new i j L e with h2 | h2 | h2
        · rw [hf] at h2; cases h2
        · exfalso
          cases e2 : h1.t.get i with
          | none => exact h2 e2
          | some o => have h3 := a3 i o e2; rw [s.gfree hf] at h3; cases h3
        · omega
    · obtain ⟨h1, ob, a1, a2, a3, a4, a5⟩ := ok.ran2 hx hk hw h0
      have hqk : q ≤ k := by
        rcases Nat.lt_or_ge k q with hkq | hkq
        · exfalso
          rcases s.q0 with h2 | ⟨j, y, rfl, hy, hy3⟩
          · omega
          have hkj : k < j := by
            rcases Nat.lt_or_ge k j with h1 | h1
            · exact h1
            · have : k = j := by omega
              subst this
              rw [hx] at hy; cases hy
              omega
          have hyd := s.c3a j y hy hy3 (by omega)
          rcases (pair_spec (ok.lok.pair k j x y hkj hx hy)).1 with h2 | ⟨_, _, _, h2, _⟩
          · exact hnd (s.anc ok j y hy (fun e he hb => s.down j y e hy hyd he hb) k x hx h2)
          · exact h2 ⟨h0, hy3⟩
        · exact hkq
      have hidf := s.ids k x hx h0 hnd
      have hgid := s.gfree hidf
      obtain ⟨σ', cv, w', b1, b2, B⟩ := quiet ok s hx (rest := rest) (kk := kk) ho hwe hc a1 hag (fun i o h => by rw [show (Heap.mk (c.id k) Tr.e).t.get i = none from rfl] at h; cases h) hidf
      have hidl := ok.id_lt hx h0
      have hnone : ∀ i, i ≠ c.id k → h1.t.get i = none := by
        intro i hi
        cases e : h1.t.get i with
        | none => rfl
        | some o =>
          rcases B.dom i (by rw [e]; simp) with h2 | h2
          · exact absurd rfl h2
          · rw [a3] at h2; simp only [] at h2; omega
      have hext : ∀ i, ext g h1 i = if i = c.id k then some ob else g i := by
        intro i; unfold ext
        by_cases hi : i = c.id k
        · subst hi; rw [a2]; simp
        · rw [hnone i hi, if_neg hi]
      have hA := s.aft.step (nx' := (c.H q).next) (fun i o h => by rw [show (Heap.mk (c.id k) Tr.e).t.get i = none from rfl] at h; cases h) (fun i h2 h3 => by
          rw [a3] at h3; simp only [] at h2
          have : i = c.id k := by omega
          subst this; exact hgid) B (by show c.h0.next ≤ c.id k; rw [← ok.b0_eq]; unfold Cx.id; omega) (Nat.le_refl _) (by have := s.nx; omega)
      refine ⟨_, _, _, _, _, b1, s.put ok hx hnd hk hc hed B.le (fun d _ => b2) hA (.inr ⟨h0, hqk, ob, ok.ob_of hx hw a4, hgid, hext⟩) fun i hne hf j => ?_⟩
      cases e : σ' i j with
      | none => rfl
      | some L =>
        rcases B.new i j L e with h2 | h2 | h2
        · rw [hf] at h2; cases h2
        · exact absurd rfl h2
        · rw [a3] at h2; simp only [] at h2; exact absurd (by omega) (hne h0)
    · exact absurd h0 hc
end
end Go.Rk

namespace Go.Rk
open Go
set_option linter.unusedVariables false
set_option linter.unusedSimpArgs false
set_option linter.constructorNameAsVariable false
set_option linter.unusedSectionVars false
variable [TabC]
section
variable {c : Cx} {li : Array Bool} {q : Nat} {eD : T} {σ : Sg} {g : G} {tm : Array Value} {ds : List Deferred} {cs : List Frame} {w : World} {k : Nat} {x : DInfo}
theorem Sim.base3 (ok : c.OK) (s : Sim c li q eD σ g tm ds cs w) (hx : c.L[k]? = some x) (hanc : ∀ (j : Nat) (y : DInfo), c.L[j]? = some y → x.anc.testBit y.ix = true → done li y) (hc : x.cl = 3) (hqk : q ≤ k) (hkK : k ≤ c.K) :
    Base c.P σ (c.H k) w := by
  obtain ⟨w1, w2, w3, w4, w5⟩ := s.here ok hx hanc (.inl hc) hqk hkK
  refine ⟨HR.sub s.aft.hr w3, fun i j hi => s.fresh i j (by omega), ⟨fun i hi => ?_, fun y hy => ?_⟩, s.gl⟩
  rotate_left
  · have h1 := ok.dm0.2 y hy
    obtain ⟨h2, _⟩ := s.aft.ro y.1 y.2 h1 (TabC.ro y hy)
    rcases w4 y.1 y.2 h2 with h3 | ⟨j, z, _, _, _, _, h5, _⟩
    · exact h3
    · have h6 := ok.dm0.1 y.1 (by rw [h1]; simp)
      have h7 := ok.b0_eq
      rw [h5] at h6
      unfold Cx.id at h6
      omega
  cases e : (c.H k).t.get i with
  | none => exact absurd e hi
  | some o =>
    rcases s.aft.dom i (by rw [w3 i o e]; simp) with h1 | h1
    · have := ok.dm0.1 i h1
      have := s.nx
      have := ok.b0_eq
      omega
    · omega
theorem Sim.put3 (ok : c.OK) (s : Sim c li q eD σ g tm ds cs w) (hx : c.L[k]? = some x) (hnd : ¬ done li x) (hk : k < c.K) (hc : x.cl = 3) (hqk : q ≤ k) (hed : ∀ e ∈ x.op.after, Region.binds .any e = true → li.getD e.on false = true)
    {σ' : Sg} {w' : World} {cv : Value} {ds' : List Deferred} {cs' : List Frame} (B : Aft c.P σ (c.H k) w σ' (c.H (k + 1)) w') (hv : VR σ' (c.V k) cv) (hdf : DfR σ' (c.D (k + 1)).dfs ds') (hrn : RnR σ' (c.D (k + 1)).rnd c.b.roundOf)
    (hrc : RcR σ' c.b.kind (c.D (k + 1)).rc cs') (hcs : CsR (c.D k).rc cs (c.D (k + 1)).rc cs') :
    Sim c (li.setIfInBounds x.ix true) (k + 1) ((seOf x.op.dst).se eD (c.V k)) σ' (ext g (c.H (k + 1))) (setD tm x.op.dst cv) ds' cs' w' := by
  have hanc := fun j y => s.anc ok k x hx hed j y
  obtain ⟨w1, w2, w3, w4, w5⟩ := s.here ok hx hanc (.inl hc) hqk (Nat.le_of_lt hk)
  have hbase := s.base3 ok hx hanc hc hqk (Nat.le_of_lt hk)
  have hlt := ok.ix_lt s hx
  have hdst := ok.lok.dst k x hx
  have hdn : ∀ {j : Nat} {y : DInfo}, c.L[j]? = some y → (done (li.setIfInBounds x.ix true) y ↔ done li y ∨ (j = k ∧ y = x)) := by
    intro j y hy
    rw [done_set hlt]
    constructor
    · rintro (h | h)
      · exact .inl h
      · have := ok.uniq hy hx h
        subst this
        rw [hx] at hy; cases hy
        exact .inr ⟨rfl, rfl⟩
    · rintro (h | ⟨_, h⟩)
      · exact .inl h
      · exact .inr (by rw [h])
  have hnew : ∀ (j : Nat) (y : DInfo), k + 1 ≤ j → c.L[j]? = some y → y.cl = 2 → (c.H (k + 1)).t.get (c.id j) = none := by
    intro j y hj hy h2
    cases e : (c.H (k + 1)).t.get (c.id j) with
    | none => rfl
    | some o =>
      rcases B.dom _ (by rw [e]; simp) with h3 | h3
      · exact absurd (w5 j y (by omega) hy h2) h3
      · have := ok.id_lt hy h2
        have := s.nx
        omega
  have hfree : ∀ i, i < (c.H q).next → (∀ j, σ i j = none) → ∀ j, σ' i j = none := by
    intro i hi hf j
    cases e : σ' i j with
    | none => rfl
    | some L =>
      rcases B.new i j L e with h2 | h2 | h2
      · rw [hf] at h2; cases h2
      · exfalso
        cases e2 : (c.H k).t.get i with
        | none => exact h2 e2
        | some o => have h3 := w3 i o e2; rw [s.gfree hf] at h3; cases h3
      · omega
  have hnext := B.next
  refine ⟨by simpa using s.sz, ?_, ?_, by omega, ?_, ?_, .inr ⟨k, x, rfl, hx, hc⟩, ?_, ?_, setD_er ok.hN hdst s.er B.le fun _ _ => hv, s.gl.mono B.le, hdf, hrn, hrc, ?_, ?_, ?_, ?_, ?_, ?_, ?_, ?_, by have := s.nx; omega, hnew, s.fo⟩
  · intro j y e hy hd he hb
    rcases (hdn hy).1 hd with h1 | ⟨_, h1⟩
    · exact getD_set_true (s.down j y e hy h1 he hb)
    · subst h1; exact getD_set_true (hed e he hb)
  · intro j y hy hd
    rcases (hdn hy).1 hd with h1 | ⟨h1, _⟩
    · exact s.ev j y hy h1
    · omega
  · intro j y hy h3 hj
    refine (hdn hy).2 ?_
    rcases Nat.lt_or_ge j q with h1 | h1
    · exact .inl (s.c3a j y hy h3 h1)
    · rcases Nat.lt_or_ge j k with h2 | h2
      · exact absurd h3 (s.no3 ok hx hanc (.inl hc) j y h1 h2 hy)
      · have : j = k := by omega
        subst this
        rw [hx] at hy; cases hy
        exact .inr ⟨rfl, rfl⟩
  · intro j y hy h3 hj hd
    rcases (hdn hy).1 hd with h1 | ⟨h1, _⟩
    · exact s.c3b j y hy h3 (by omega) h1
    · omega
  · intro j y t hy hd ht
    have htl := dst_lt ok.hN (ok.lok.dst j y hy) ht
    rw [se_get ok.hN hdst htl]
    rcases (hdn hy).1 hd with h1 | ⟨h1, h2⟩
    · rw [if_neg fun e => ?_]
      · exact s.env1 j y t hy h1 ht
      · have := ok.waw hy hx ht e
        subst this
        rw [hx] at hy; cases hy
        exact hnd h1
    · subst h1 h2; rw [if_pos ht]
  · intro t ht hn
    rw [se_get ok.hN hdst ht, if_neg (hn k x hx ((hdn hx).2 (.inr ⟨rfl, rfl⟩)))]
    exact s.env2 t ht fun j y hy hd => hn j y hy ((hdn hy).2 (.inl hd))
  · have := s.csr
    rw [← w2] at this
    exact this.trans hcs
  · refine s.aft.step w3 (fun i h1 h2 => ?_) B (by rw [w1]; have := s.nx; rw [ok.b0_eq] at this; omega) (by omega) (Nat.le_refl _)
    refine s.gfree fun j => s.fresh i j (by omega)
  · intro i o hi
    unfold ext; rw [hi]
  · intro j y ob hj hy h2 hd hob
    rcases (hdn hy).1 hd with h1 | ⟨h1, _⟩
    · unfold ext
      rw [hnew j y hj hy h2]
      exact s.own j y ob (by omega) hy h2 h1 hob
    · omega
  · intro i o hi
    rcases ext_some hi with h1 | ⟨h1, h2⟩
    · exact .inl h1
    · rcases w4 i o h2 with h3 | ⟨j, y, h3, h4, h5, h6, h7, h8⟩
      · exact absurd h1 (B.keep i (by rw [h3]; simp))
      · exact .inr ⟨j, y, by omega, h4, h5, (hdn h4).2 (.inl h6), h7, h8⟩
  · exact fun i j hi => B.fresh hbase.fr hbase.dm i j hi
  · intro j y hy h2 hn j'
    have hny : ¬ done li y := fun h => hn ((hdn hy).2 (.inl h))
    exact hfree _ (by have := ok.id_lt hy h2; have := s.nx; omega) (s.ids j y hy h2 hny) j'
  · intro j
    exact hfree _ (by have := s.nx; omega) s.zid j

/-- a step of the last class, that goes on -/
theorem Sim.step3 (ok : c.OK) (s : Sim c li q eD σ g tm ds cs w) (hx : c.L[k]? = some x) (hnd : ¬ done li x) (hk : k < c.K) (hc : x.cl = 3) {rest : List Nat} {kk : List Item} (ho : c.ops[x.ix]? = some x.op)
    (hed : ∀ e ∈ x.op.after, Region.binds .any e = true → li.getD e.on false = true) :
    ∃ eD' σ' g' tm' ds' cs' w', Steps c.P (lone (fat c.b tm ds (.inRegion c.ops (x.ix :: rest) :: kk)) cs w) (lone (fat c.b tm' ds' (.inRegion c.ops rest :: kk)) cs' w') ∧ Sim c (li.setIfInBounds x.ix true) (k + 1) eD' σ' g' tm' ds' cs' w' := by
  have hanc := fun j y => s.anc ok k x hx hed j y
  have hag := s.agree ok hx hnd hanc (Nat.le_of_lt hk)
  have hwe := wanted_eq s.er s.gl (ok.lok.tsg k x hx) (ok.lok.ts k x hx) hag (ok.dec hx hk)
  have hqk : q ≤ k := by
    rcases Nat.lt_or_ge k q with h | h
    · exact absurd (s.c3a k x hx hc h) hnd
    · exact h
  obtain ⟨w1, w2, w3, w4, w5⟩ := s.here ok hx hanc (.inl hc) hqk (Nat.le_of_lt hk)
  have hbase := s.base3 ok hx hanc hc hqk (Nat.le_of_lt hk)
  have hdf := s.df
  have hrn := s.rn
  have hrc := s.rc
  rw [← w2] at hdf hrn hrc
  cases hw : wantD c.ops x (c.E k) with
  | false =>
    obtain ⟨h1, h2, h3⟩ := ok.skipped hx hk hw
    rw [hw] at hwe
    exact ⟨_, _, _, _, ds, cs, _, .one (st_opskip ho hwe), s.put3 ok hx hnd hk hc hqk hed (σ' := σ) (w' := w) (cv := undef) (by rw [h2]; exact Aft.refl hbase.hr) (by rw [h1]; exact undef_VR) (by rw [h3]; exact hdf) (by rw [h3]; exact hrn) (by rw [h3]; exact hrc) (by rw [h3]; exact CsR.refl _ _)⟩
  | true =>
    rw [hw] at hwe
    have hr := op_res (rest := rest) ok.gG ok.cC ok.rR ho σ c.b (mask (c.E k) x.ts) (c.H k) (c.D k) tm ds cs w kk hbase (mask_er s.er (ok.lok.ts k x hx) hag) hdf hrn hrc hwe
    rw [ok.ran3 hx hk hw hc] at hr
    obtain ⟨σ', cv, ds', cs', w', a1, a2, a3, a4, a5, a6, a7⟩ := hr
    exact ⟨_, _, _, _, ds', cs', _, a1, s.put3 ok hx hnd hk hc hqk hed a6 a2 a3 a4 a5 a7⟩
/-- a step of the last class, that panics -/
theorem Sim.stepPan (ok : c.OK) (s : Sim c li q eD σ g tm ds cs w) (hx : c.L[c.K]? = some x) (hnd : ¬ done li x) {rest : List Nat} {kk : List Item} (ho : c.ops[x.ix]? = some x.op)
    (hed : ∀ e ∈ x.op.after, Region.binds .any e = true → li.getD e.on false = true) {v : AV} {h' : Heap} (hp : dSt c.P c.ops c.F c.b0 c.m (rankAt 0 c.L c.K) x (c.E c.K) (c.H c.K) (c.D c.K) = .pan v h') :
    x.cl = 3 ∧ q ≤ c.K ∧ ∃ σ' cv w', Steps c.P (lone (fat c.b tm ds (.inRegion c.ops (x.ix :: rest) :: kk)) cs w) (lone { fat c.b tm ds (.inRegion c.ops (x.ix :: rest) :: kk) with mode := .panicking [{ v := cv, recovered := false }] } cs w') ∧ VR σ' v cv ∧
      Aft c.P σ (c.H c.K) w σ' h' w' := by
  obtain ⟨hdec, hw, hgo⟩ := dSt_pan hp
  have hc : x.cl = 3 := by
    rcases ok.cl_cases hx with h0 | h0 | h0 | h0
    · unfold dGo at hgo
      rw [h0] at hgo
      simp only [run0] at hgo
      split at hgo
      · rename_i v' h1 _
        cases hb : Nat.beq h1.next (c.b0 + c.m) <;> rw [hb] at hgo <;> cases hgo
      · cases hgo
    · unfold dGo at hgo
      rw [h0] at hgo
      simp only [run1] at hgo
      split at hgo <;> cases hgo
    · unfold dGo at hgo
      rw [h0] at hgo
      simp only [run2] at hgo
      split at hgo
      · rename_i v' h1 _
        split at hgo
        · cases hb : Nat.beq h1.next (Nat.succ (c.b0 + rankAt 0 c.L c.K)) <;> rw [hb] at hgo <;> cases hgo
        · cases hgo
      · cases hgo
    · exact h0
  have hanc := fun j y => s.anc ok c.K x hx hed j y
  have hag := s.agree ok hx hnd hanc (Nat.le_refl _)
  have hwe := wanted_eq s.er s.gl (ok.lok.tsg c.K x hx) (ok.lok.ts c.K x hx) hag hdec
  rw [hw] at hwe
  obtain ⟨w1, w2, w3, w4, w5⟩ := s.here ok hx hanc (.inl hc) s.qK (Nat.le_refl _)
  have hbase := s.base3 ok hx hanc hc s.qK (Nat.le_refl _)
  have hdf := s.df
  have hrn := s.rn
  have hrc := s.rc
  rw [← w2] at hdf hrn hrc
  have hr := op_res (rest := rest) ok.gG ok.cC ok.rR ho σ c.b (mask (c.E c.K) x.ts) (c.H c.K) (c.D c.K) tm ds cs w kk hbase (mask_er s.er (ok.lok.ts c.K x hx) hag) hdf hrn hrc hwe
  have : or3 ((cop c.P x.op.op).run (mask (c.E c.K) x.ts) (c.H c.K)) c.F (c.H c.K) (c.D c.K) = .pan v h' := by
    unfold dGo at hgo
    rw [hc] at hgo
    exact hgo
  rw [this] at hr
  obtain ⟨σ', cv, w', a1, a2, a3⟩ := hr
  exact ⟨hc, s.qK, σ', cv, w', a1, a2, a3⟩
theorem clr_get : ∀ (l : List (Option Nat)) (e : T), (∀ d, some d ∈ l → d < 4294967296) → ∀ t, t < 4294967296 → (some t ∈ l → (clr l e).get t = .undef) ∧ ((some t ∉ l → (clr l e).get t = e.get t) ∧ (e.get t = .undef → (clr l e).get t = .undef))
  | [], e, _, t, _ => ⟨fun h => by simp at h, fun _ => rfl, fun h => h⟩
  | none :: l, e, hl, t, ht => by
    obtain ⟨h1, h2, h3⟩ := clr_get l e (fun d hd => hl d (by simp [hd])) t ht
    rw [clr]
    exact ⟨fun h => h1 (by simpa using h), fun h => h2 (by simpa using h), h3⟩
  | some d :: l, e, hl, t, ht => by
    have hd : d < 4294967296 := hl d (by simp)
    obtain ⟨h1, h2, h3⟩ := clr_get l ((put d).se e .undef) (fun d hd => hl d (by simp [hd])) t ht
    rw [clr]
    refine ⟨fun h => ?_, fun h => ?_, fun h => ?_⟩
    · rcases List.mem_cons.1 h with h4 | h4
      · injection h4 with h4; subst h4
        exact h3 (by rw [T.get_put hd ht]; simp)
      · exact h1 h4
    · simp only [List.mem_cons, not_or] at h
      rw [h2 h.2, T.get_put hd ht, if_neg fun e => h.1 (by rw [e])]
    · refine h3 ?_
      rw [T.get_put hd ht]
      split
      · rfl
      · exact h
theorem sim_run (ok : c.OK) {r : XR} {kk : List Item} {m0 : Machine} (hend : (c.K = c.L.length ∧ r = .nrm (c.E c.K) (c.H c.K) (c.D c.K)) ∨ ∃ x v h', c.L[c.K]? = some x ∧ dSt c.P c.ops c.F c.b0 c.m (rankAt 0 c.L c.K) x (c.E c.K) (c.H c.K) (c.D c.K) = .pan v h' ∧
      (∀ (j : Nat) (y : DInfo), c.K < j → c.L[j]? = some y → y.anc.testBit x.ix = true) ∧ r = .pan v (c.E c.K) h' (c.D c.K)) :
    ∀ (sch : List Nat) (li : Array Bool) (q : Nat) (eD : T) (σ : Sg) (g : G) (tm : Array Value) (ds : List Deferred) (cs : List Frame) (w : World), TopoC .any c.ops li sch → Sim c li q eD σ g tm ds cs w →
      Steps c.P m0 (lone (fat c.b tm ds (.inRegion c.ops sch :: kk)) cs w) → XOK c.P c.σ0 c.N c.b c.h0 c.w0 c.rc0 c.cs0 kk m0 (r.clr (c.ops.toList.map (·.dst)))
  | [], li, q, eD, σ, g, tm, ds, cs, w, ht, s, hst => by
    have hall : ∀ (k : Nat) (x : DInfo), c.L[k]? = some x → done li x := by
      intro k x hx
      have h1 := ok.ix_lt s hx
      have h2 := ht x.ix (by rw [← s.sz]; exact h1)
      unfold done
      rw [getD_false h1] at h2 ⊢
      exact h2
    rcases hend with ⟨hK, rfl⟩ | ⟨x, v, h', hx, _⟩
    · obtain ⟨n, hn⟩ : ∃ n, c.K = q + n := ⟨c.K - q, by have := s.qK; omega⟩
      obtain ⟨w1, w2, w3, w4, w5, w6⟩ := s.walk ok n (by omega) fun j y h1 h2 hy h3 => s.c3b j y hy h3 h1 (hall j y hy)
      rw [← hn] at w1 w2 w3 w4 w5 w6
      have hg : ∀ i o, (c.H c.K).t.get i = some o ↔ g i = some o := by
        intro i o
        constructor
        · intro hi
          rcases w3 i o hi with h1 | ⟨j, y, h1, h2, h3, h4, h5, h6⟩
          · exact s.hq i o h1
          · rw [h5]; exact s.own j y o h1 h3 h4 (hall j y h3) h6
        · intro hi
          rcases s.onl i o hi with h1 | ⟨j, y, h1, h2, h3, h4, h5, h6⟩
          · exact w4 i o h1
          · rw [h5]; exact w5 j y o h1 (s.ev j y h2 h4) h2 h3 h6
      have haft : Aft c.P c.σ0 c.h0 c.w0 σ (c.H c.K) w := s.aft.toAft (fun i o h => (hg i o).1 h) (fun i hi => by
        have := s.aft.keep i hi
        cases e : g i with
        | none => exact absurd e this
        | some o => rw [(hg i o).2 e]; simp) (by omega)
      have hbase : Fresh σ (c.H c.K) := fun i j hi => s.fresh i j (by omega)
      refine ⟨σ, tm, ds, cs, w, hst.trans (.one st_regEnd), ⟨⟨s.er.1, fun t htl => ?_⟩, haft.hr, hbase, haft.domOk ok.dm0, s.gl, by rw [w2]; exact s.df, by rw [w2]; exact s.rn, by rw [w2]; exact s.rc, s.fo⟩, haft, by rw [w2]; exact s.csr, trivial⟩
      have h1 := s.er.2 t htl
      have h2 : eD.get t = (c.E c.K).get t := by
        obtain ⟨a1, a2⟩ := ok.E_get c.K (Nat.le_refl _) t htl
        by_cases hw : ∃ (j : Nat) (y : DInfo), c.L[j]? = some y ∧ y.op.dst = some t
        · obtain ⟨j, y, hy, hd⟩ := hw
          rw [s.env1 j y t hy (hall j y hy) hd, a1 j y (s.ev j y hy (hall j y hy)) hy hd]
        · rw [s.env2 t htl fun j y hy _ hd => hw ⟨j, y, hy, hd⟩, a2 fun j y _ hy hd => hw ⟨j, y, hy, hd⟩]
      rw [← h2]; exact h1
    · exact absurd (s.ev c.K x hx (hall c.K x hx)) (by omega)
  | i :: rest, li, q, eD, σ, g, tm, ds, cs, w, ⟨hi, ht⟩, s, hst => by
    obtain ⟨k, x, hx, hxi, hnd, ho, hed⟩ := s.ready ok hi
    subst hxi
    have hanc := fun j y => s.anc ok k x hx hed j y
    have hklt : k < c.L.length := (List.getElem?_eq_some_iff.1 hx).1
    rcases Nat.lt_or_ge k c.K with hk | hk
    · by_cases hc : x.cl = 3
      · obtain ⟨eD', σ', g', tm', ds', cs', w', h1, h2⟩ := s.step3 ok hx hnd hk hc (rest := rest) (kk := kk) ho hed
        exact sim_run ok hend rest _ _ _ _ _ _ _ _ _ ht h2 (hst.trans h1)
      · obtain ⟨eD', σ', g', tm', w', h1, h2⟩ := s.step012 ok hx hnd hk hc (rest := rest) (kk := kk) ho hed
        exact sim_run ok hend rest _ _ _ _ _ _ _ _ _ ht h2 (hst.trans (.one h1))
    · rcases hend with ⟨hK, _⟩ | ⟨y, v, h', hy, hp, htail, rfl⟩
      · omega
      · have hkK : k = c.K := by
          rcases Nat.lt_or_ge c.K k with h1 | h1
          · have := s.ev c.K y hy (hanc c.K y hy (htail k x h1 hx)); omega
          · omega
        subst hkK
        rw [hx] at hy; cases hy
        obtain ⟨hc, hqK, σ', cv, w', a1, a2, a3⟩ := s.stepPan ok hx hnd (rest := rest) (kk := kk) ho hed hp
        obtain ⟨w1, w2, w3, w4, w5⟩ := s.here ok hx hanc (.inl hc) hqK (Nat.le_refl _)
        have hbase := s.base3 ok hx hanc hc hqK (Nat.le_refl _)
        have hA := s.aft.step (nx' := h'.next) w3 (fun i h1 h2 => s.gfree fun j => s.fresh i j (by omega)) a3 (by rw [w1]; have := s.nx; rw [ok.b0_eq] at this; omega) (by have := a3.next; omega) (Nat.le_refl _)
        have haft : Aft c.P c.σ0 c.h0 c.w0 σ' h' w' := hA.toAft (fun i o h => by unfold ext; rw [h]) (fun i hi => by
          refine a3.keep i ?_
          cases e : g i with
          | none => exact absurd e (s.aft.keep i hi)
          | some o =>
            rcases w4 i o e with h1 | ⟨j, y, _, h2, h3, _, h5, _⟩
            · rw [h1]; simp
            · have := ok.dm0.1 i hi
              have hb := ok.b0_eq
              rw [h5] at this
              unfold Cx.id at this
              omega) (Nat.le_refl _)
        have hdst : ∀ d, some d ∈ c.ops.toList.map (·.dst) → d < 4294967296 := by
          intro d hd
          simp only [List.mem_map] at hd
          obtain ⟨o, ho', hod⟩ := hd
          obtain ⟨i, hi⟩ := List.getElem?_of_mem ho'
          have hilt : i < c.ops.size := by simpa using (List.getElem?_eq_some_iff.1 hi).1
          obtain ⟨j, y, hy, hyi⟩ := ok.lok.surj i hilt
          have := ok.lok.op j y hy
          rw [hyi] at this
          rw [Array.getElem?_toList, this] at hi
          cases hi
          exact dst_lt ok.hN (ok.lok.dst j y hy) hod
        refine ⟨_, cv, σ', tm, ds, cs, w', hst.trans a1, ⟨⟨s.er.1, fun t htl => ?_⟩, haft.hr, a3.fresh hbase.fr hbase.dm, a3.domOk hbase.dm, s.gl.mono a3.le, by rw [w2]; exact s.df.mono a3.le, by rw [w2]; exact s.rn.mono a3.le, by rw [w2]; exact s.rc.mono a3.le, s.fo⟩, haft, by rw [w2]; exact s.csr, a2⟩
        obtain ⟨b1, b2, _⟩ := clr_get (c.ops.toList.map (·.dst)) (c.E c.K) hdst t htl
        by_cases hm : some t ∈ c.ops.toList.map (·.dst)
        · rw [b1 hm]; trivial
        · rw [b2 hm]
          have hno : ∀ (j : Nat) (y : DInfo), c.L[j]? = some y → y.op.dst ≠ some t := by
            intro j y hy hd
            refine hm (List.mem_map.2 ⟨y.op, ?_, hd⟩)
            have := ok.lok.op j y hy
            exact List.mem_of_getElem? (i := y.ix) (by rw [Array.getElem?_toList]; exact this)
          rw [(ok.E_get c.K (Nat.le_refl _) t htl).2 fun j y _ hy => hno j y hy, ← s.env2 t htl fun j y hy _ => hno j y hy]
          exact (s.er.2 t htl).mono a3.le
end
theorem st_region_draw {P : Program} {b : Frame} {t : Array Value} {ds : List Deferred} {k : List Item} {cs : List Frame} {w : World} {ops : Array Oper} {id : Nat} :
    step P (lone (fat b t ds (.code (.region id ops true) :: k)) cs w) = .next (lone (fat b t ds (.inRegion ops (Region.schedule (P.follows .mixedOrders) ops (w.tape w.drawn (.order b.fn id))) :: k)) cs { w with drawn := w.drawn + 1 }) :=
  stepR_region_draw (b := b) (a := ⟨t, ds⟩)
/-- a region that draws its order is done rightly -/
theorem draw_ok {P : Program} {F : Fns} (hG : GoOK P F) (hC : CallOK P F) (hR : RndOK P F) : DrawOK P F := by
  intro N hN id ops σ b e h d t ds cs w k hs
  show XOK P σ N b h w d.rc cs k _ ((kDraw P N ops).run F e h d)
  unfold kDraw
  split
  · trivial
  · rename_i l hl
    split
    · rename_i hok
      generalize hL : l.map (mkD P ops (ancs ops.toList [])) = L at hok ⊢
      have lok := LOK.of hL.symm hok
      obtain ⟨l1, l2, l3⟩ := draw_lin hok
      have hts : ∀ m, TopoC .any ops (Array.replicate ops.size false) (Region.schedule m ops (w.tape w.drawn (.order b.fn id))) := fun m => schedule_whole l1 l2 l3 m _
      show XOK P σ N b h w d.rc cs k _ (((kDs P ops (L.countP (·.cl == 2)) [] 0 L).run h.next F e { next := Nat.succ (h.next + L.countP (·.cl == 2)), t := h.t } d).clr (ops.toList.map (·.dst)))
      rcases traced (P := P) (ops := ops) (F := F) (b0 := h.next) (m := L.countP (·.cl == 2)) L [] 0 e { next := Nat.succ (h.next + L.countP (·.cl == 2)), t := h.t } d with h0 | ⟨K, E, H, D, V, e0, e1, e2, hK, hst, hend⟩
      · rw [h0]; trivial
      · let c : Cx := { P, F, N, ops, L, b0 := h.next, m := L.countP (·.cl == 2), K, E, H, D, V, σ0 := σ, h0 := h, w0 := w, rc0 := d.rc, cs0 := cs, b }
        have ok : c.OK := ⟨lok, hN, hK, hst, rfl, rfl, hG, hC, hR, hs.dm⟩
        have hnone : ∀ (x : DInfo), ¬ done (Array.replicate ops.size false) x := by
          intro x hx
          unfold done at hx
          by_cases hlt : x.ix < ops.size <;> simp [Array.getD, hlt] at hx
        have haft0 := Aft.same (w' := { w with drawn := w.drawn + 1 }) hs.hr rfl ⟨rfl, rfl, rfl⟩
        have hH0 : H 0 = { next := Nat.succ (h.next + L.countP (·.cl == 2)), t := h.t } := e1
        have s0 : Sim c (Array.replicate ops.size false) 0 e σ h.t.get t ds cs { w with drawn := w.drawn + 1 } := by
          refine ⟨by simp; rfl, fun k x e' _ hd => absurd hd (hnone x), fun k x _ hd => absurd hd (hnone x), Nat.zero_le _, fun k x _ _ h => by omega, fun k x _ _ _ => hnone x, .inl rfl, fun k x t _ hd => absurd hd (hnone x), fun t _ _ => by show e.get t = (E 0).get t; rw [e0], hs.er, hs.gl, ?_, ?_, ?_, ?_, ?_, ?_, ?_, ?_, ?_, ?_, ?_, ?_, ?_, hs.fo⟩
          · show DfR σ (D 0).dfs ds; rw [e2]; exact hs.df
          · show RnR σ (D 0).rnd b.roundOf; rw [e2]; exact hs.rn
          · show RcR σ b.kind (D 0).rc cs; rw [e2]; exact hs.rc
          · show CsR d.rc cs (D 0).rc cs; rw [e2]; exact CsR.refl _ _
          · show AftG P σ h w σ h.t.get (H 0).next _
            rw [hH0]
            exact ⟨haft0.le, haft0.hr, haft0.size, haft0.frame, haft0.back, fun i j L hs => .inl hs, fun i hi => .inl hi, fun i hi => hi, fun i o hi _ => ⟨hi, fun _ _ => rfl⟩, by simp only []; omega, rfl, rfl, rfl⟩
          · intro i o hi
            have : (H 0).t.get i = some o := hi
            rw [hH0] at this; exact this
          · exact fun k x ob _ _ _ hd => absurd hd (hnone x)
          · intro i o hi
            left
            show (H 0).t.get i = some o
            rw [hH0]; exact hi
          · intro i j hi
            have : (H 0).next ≤ i := hi
            rw [hH0] at this
            exact hs.fr i j (by simp only [] at this; omega)
          · intro k x hx h2 _ j
            exact hs.fr _ j (by show h.next ≤ h.next + rankAt 0 L k; omega)
          · intro j
            exact hs.fr _ j (by show h.next ≤ h.next + L.countP (·.cl == 2); omega)
          · show h.next + L.countP (·.cl == 2) + 1 ≤ (H 0).next
            rw [hH0]; exact Nat.le_refl _
          · intro k x _ hx h2
            show (H 0).t.get (h.next + rankAt 0 L k) = none
            rw [hH0]
            cases e3 : h.t.get (h.next + rankAt 0 L k) with
            | none => rfl
            | some o => have := hs.dm.1 (h.next + rankAt 0 L k) (by rw [e3]; simp); omega
        exact sim_run ok (c := c) hend _ _ _ _ _ _ _ _ _ _ (hts _) s0 (.one st_region_draw)
    · trivial
theorem fns_all {P : Program} (k : Nat) : GoOK P (fns P k) ∧ CallOK P (fns P k) ∧ RndOK P (fns P k) := fns_ok (fun _ h1 h2 h3 => draw_ok h1 h2 h3) k
end Go.Rk

namespace Go.Rk
open Go
set_option linter.unusedVariables false
set_option linter.unusedSimpArgs false
set_option linter.constructorNameAsVariable false
set_option linter.unusedSectionVars false
section
mutual
theorem plain_VR {σ σ' : Sg} : ∀ {v : AV} {c : Value}, plainV v = true → VR σ v c → VR σ' v c
  | .bool _, _, _, h | .int _ _, _, _, h | .str _, _, _, h | .nilp, _, _, h | .slice0, _, _, h | .map0, _, _, h | .nilFunc, _, _, h | .nilIface, _, _, h => by simpa only [VR] using h
  | .iface t v, c, hp, h => by
    simp only [VR] at h ⊢
    obtain ⟨c', h1, h2⟩ := h
    exact ⟨c', h1, plain_VR (by simpa only [plainV] using hp) h2⟩
  | .agg cs, c, hp, h => by
    simp only [VR] at h ⊢
    obtain ⟨a, h1, h2⟩ := h
    exact ⟨a, h1, plain_VRs (by simpa only [plainV] using hp) h2⟩
  | .tup cs, c, hp, h => by
    simp only [VR] at h ⊢
    obtain ⟨a, h1, h2⟩ := h
    exact ⟨a, h1, plain_VRs (by simpa only [plainV] using hp) h2⟩
theorem plain_VRs {σ σ' : Sg} : ∀ {l : List AV} {m : List Value}, plainVs l = true → VRs σ l m → VRs σ' l m
  | [], _, _, h => by simpa only [VRs] using h
  | v :: r, l, hp, h => by
    simp only [plainVs, Bool.and_eq_true] at hp
    simp only [VRs] at h ⊢
    obtain ⟨c, l', h1, h2, h3⟩ := h
    exact ⟨c, l', h1, plain_VR hp.1 h2, plain_VRs hp.2 h3⟩
end
theorem plainVs_get : ∀ {l : List AV} {i : Nat} {v : AV}, plainVs l = true → l[i]? = some v → plainV v = true
  | [], i, v, _, h => by simp at h
  | a :: l, 0, v, hp, h => by simp only [plainVs, Bool.and_eq_true] at hp; simp at h; subst h; exact hp.1
  | a :: l, i + 1, v, hp, h => by simp only [plainVs, Bool.and_eq_true] at hp; exact plainVs_get hp.2 (by simpa using h)
theorem plain_OB {P : Program} {σ σ' : Sg} {L : Loc} {o : AObj} {b : Option Obj} (hp : plainO o = true) (h : OB P σ L o b) : OB P σ' L o b := by
  cases o with
  | cells cs ty g fz s =>
    simp only [plainO, Bool.and_eq_true] at hp
    obtain ⟨c, lo, hi, h1, h2, h3, h4, h5⟩ := h
    exact ⟨c, lo, hi, h1, h2, h3, fun i v hi hs' => let ⟨x, hx, hv⟩ := h4 i v hi hs'; ⟨x, hx, plain_VR (plainVs_get hp.1 hi) hv⟩, h5⟩
  | _ => cases hp
def treeOf : List (Nat × AObj) → Tr
  | [] => .e
  | x :: l => (treeOf l).set x.1 x.2
theorem tree_mem : ∀ {l : List (Nat × AObj)} {i : Nat} {o : AObj}, (treeOf l).get i = some o → (i, o) ∈ l
  | [], i, o, h => by cases h
  | x :: l, i, o, h => by
    rw [treeOf, Tr.get_set] at h
    by_cases hi : i = x.1
    · rw [if_pos hi] at h; cases h; subst hi; simp
    · rw [if_neg hi] at h; exact List.mem_cons_of_mem _ (tree_mem h)
theorem tree_ne : ∀ {l : List (Nat × AObj)} {x : Nat × AObj}, x ∈ l → (treeOf l).get x.1 ≠ none
  | y :: l, x, h => by
    rw [treeOf, Tr.get_set]
    by_cases hi : x.1 = y.1
    · rw [if_pos hi]; simp
    · rw [if_neg hi]
      rcases List.mem_cons.1 h with h1 | h1
      · subst h1; exact absurd rfl hi
      · exact tree_ne h1
variable [TabC] {P : Program}
/-- memory of which only the tables are known -/
def hpT (P : Program) [TabC] : Heap := { next := P.globals.size, t := treeOf TabC.tabs }
def TabOK (P : Program) [TabC] : Prop := ∀ x ∈ TabC.tabs, plainO x.2 = true ∧ x.1 < P.globals.size
theorem Aft.blocks {σ : Sg} {h : Heap} {w w' : World} (hr : HR P σ h.t.get w) (hs : w.heap.size ≤ w'.heap.size) (hb : ∀ b, b < w.heap.size → w'.heap[b]? = w.heap[b]?) (ho : w'.os = w.os) (ht : w'.tape = w.tape) (hu : w'.output = w.output) : Aft P σ h w σ h w' := by
  refine ⟨Sg.le_refl _, ⟨fun i o hi => ?_, hr.inj, hr.top⟩, hs, fun b h1 _ => hb b h1, fun i o L hi hs => .inr ⟨o, L, hi, hs, rfl⟩, fun _ _ _ h => .inl h, fun _ h => .inl h, fun _ h => h, fun i o hi _ => ⟨hi, fun L hL => hb _ (hr.lt hi hL)⟩, Nat.le_refl _, ho, ht, hu⟩
  obtain ⟨L, hL, hob⟩ := hr.obj i o hi
  exact ⟨L, hL, by rw [hb _ (hr.lt hi hL)]; exact hob⟩
/-- a call with plain arguments and a plain answer, whatever lies in memory -/
def OrcS (P : Program) [TabC] (f : Nat) (args : List AV) (v : AV) : Prop := ∀ (σ : Sg) (ca : Array Value) (h : Heap) (w : World) (kind : CallKind) (cs : List Frame), Base P σ h w → VRs σ args ca.toList → kind = .normal ∨ kind = .deferred →
  ∃ c fr w', Steps P (lone (Frame.enter P f ca kind) cs w) (lone fr cs w') ∧ RetF P fr w' c ∧ fr.kind = kind ∧ fr.fn = f ∧ VR σ v c ∧ Aft P σ h w σ h w'
theorem orcS_of {F : Fns} (hC : CallOK P F) (hT : TabOK P) {f : Nat} {args : List AV} {v : AV} (ha : plainVs args = true) (hv : plainV v = true) {h' : Heap} {rc' : Rec} (hr : F.call f args none (hpT P) = .ret v h' rc') : OrcS P f args v := by
  intro σ ca h w kind cs hb hargs hk
  let σT : Sg := fun i k => if i < P.globals.size then σ i k else none
  have hle : σT.le σ := by
    intro i g L hL
    show σ i g = some L
    by_cases hi : i < P.globals.size
    · have : σT i g = σ i g := by simp [σT, hi]
      rw [← this]; exact hL
    · have : σT i g = none := by simp [σT, hi]
      rw [this] at hL; cases hL
  have hget : ∀ i o, (hpT P).t.get i = some o → h.t.get i = some o ∧ (i, o) ∈ TabC.tabs := fun i o hi => ⟨hb.dm.2 (i, o) (tree_mem hi), tree_mem hi⟩
  have hσ : ∀ i, i < P.globals.size → ∀ k, σT i k = σ i k := fun i hi k => by simp [σT, hi]
  have hbT : Base P σT (hpT P) w := by
    refine ⟨⟨fun i o hi => ?_, fun i j o p L M hi hj hL hM => hb.hr.inj i j o p L M (hget i o hi).1 (hget j p hj).1 (hle _ _ _ hL) (hle _ _ _ hM), fun i o k hi hk => ?_⟩, fun i k hi => ?_, ⟨fun i hi => ?_, fun x hx => ?_⟩, fun g hg => ?_⟩
    · obtain ⟨h1, h2⟩ := hget i o hi
      obtain ⟨L, hL, hob⟩ := hb.hr.obj i o h1
      exact ⟨L, by rw [hσ i (hT _ h2).2]; exact hL, plain_OB (hT _ h2).1 hob⟩
    · obtain ⟨h1, h2⟩ := hget i o hi
      rw [hσ i (hT _ h2).2]; exact hb.hr.top i o k h1 hk
    · have : ¬ i < P.globals.size := Nat.not_lt.2 hi
      simp [σT, this]
    · cases e : (hpT P).t.get i with
      | none => exact absurd e hi
      | some o => exact (hT _ (hget i o e).2).2
    · cases e : (hpT P).t.get x.1 with
      | none => exact absurd e (tree_ne hx)
      | some o =>
        have h1 := (hget x.1 o e).1
        rw [hb.dm.2 x hx] at h1
        exact h1.symm
    · obtain ⟨L, h1, h2⟩ := hb.gl g hg
      exact ⟨L, by rw [hσ g hg]; exact h1, h2⟩
  have hc := hC σT f args ca (hpT P) w none kind cs hbT (plain_VRs ha hargs) trivial hk
  rw [hr] at hc
  obtain ⟨σ', c, fr, cs', w', x1, x2, x3, x4, x5, x6, x7⟩ := hc
  rcases x7 with ⟨_, rfl⟩ | ⟨_, _, _, _, _, x8, _⟩
  · refine ⟨c, fr, w', x1, x2, x3, x4, plain_VR hv x5, Aft.blocks hb.hr x6.size (fun b hlt => ?_) x6.os x6.tape x6.output⟩
    by_cases hx : ∃ i o L, (hpT P).t.get i = some o ∧ σT i (genOf o) = some L ∧ L.blk = b
    · obtain ⟨i, o, L, h1, h2, h3⟩ := hx
      rw [← h3]
      exact (x6.ro i o h1 (TabC.ro _ (hget i o h1).2)).2 L h2
    · exact x6.frame b hlt fun i o L h1 h2 h3 => hx ⟨i, o, L, h1, h2, h3⟩
  · cases x8
def OrcOK (P : Program) [TabC] (orc : Orc) : Prop := ∀ f args v, orc f args = some v → OrcS P f args v ∧ ∃ fn, P.funcs[f]? = some fn ∧ isGo fn = true
theorem orc0_ok : OrcOK P orc0 := fun _ _ _ h => by cases h
theorem callO_ok {orc : Orc} (ho : OrcOK P orc) {F : Fns} (hC : CallOK P { fuel := 1000000, call := callC P F, rnd := roundC P F }) : CallOK P { fuel := 1000000, call := callO P orc F, rnd := roundC P F } := by
  intro σ f args ca h w rc kind cs hb hargs hrc hk
  show match callO P orc F f args rc h with
    | .fail => True
    | .ret v h' rc' => ∃ σ' c fr cs' w', Steps P (lone (Frame.enter P f ca kind) cs w) (lone fr cs' w') ∧ RetF P fr w' c ∧ fr.kind = kind ∧ fr.fn = f ∧ VR σ' v c ∧ Aft P σ h w σ' h' w' ∧ CsR rc cs rc' cs'
    | .pan v h' rc' => ∃ σ' c fr cs' w', Steps P (lone (Frame.enter P f ca kind) cs w) (lone fr cs' w') ∧ PanF P fr c ∧ fr.kind = kind ∧ fr.fn = f ∧ VR σ' v c ∧ Aft P σ h w σ' h' w' ∧ CsR rc cs rc' cs'
  unfold callO
  cases e : orc f args with
  | none => exact hC σ f args ca h w rc kind cs hb hargs hrc hk
  | some v =>
    obtain ⟨c, fr, w', x1, x2, x3, x4, x5, x6⟩ := (ho f args v e).1 σ ca h w kind cs hb hargs hk
    exact ⟨σ, c, fr, cs, w', x1, x2, x3, x4, x5, x6, CsR.refl _ _⟩
theorem fnsO_all {orc : Orc} (ho : OrcOK P orc) : ∀ k, GoOK P (fnsO P orc k) ∧ CallOK P (fnsO P orc k) ∧ RndOK P (fnsO P orc k)
  | 0 => ⟨fun _ _ _ _ h => absurd rfl h, fun _ _ _ _ _ _ _ _ _ _ _ _ _ => trivial, fun _ _ _ _ _ _ _ _ _ _ _ _ _ _ => trivial⟩
  | k + 1 => by
    obtain ⟨h1, h2, h3⟩ := fnsO_all ho k
    refine ⟨?_, callO_ok ho (callC_ok h1 h2 h3 (draw_ok h1 h2 h3)), roundC_ok h1 h2 h3 (draw_ok h1 h2 h3)⟩
    intro f args rc h hne
    cases e : orc f args with
    | some v => exact (ho f args v e).2
    | none =>
      refine callC_go (F := fnsO P orc k) f args rc h fun h0 => hne ?_
      show callO P orc (fnsO P orc k) f args rc h = .fail
      unfold callO
      rw [e]; exact h0

/-! lists of known calls -/
theorem knownA_mem : ∀ {l : List (List AV × AV)} {args : List AV} {v : AV}, knownA args l = some v → (args, v) ∈ l
  | [], _, _, h => by cases h
  | (a, u) :: l, args, v, h => by
    unfold knownA at h
    cases e : beqVs a args with
    | true => rw [e] at h; simp only [cond_true, Option.some.injEq] at h; subst h; rw [beqVs_eq e]; simp
    | false => rw [e] at h; exact List.mem_cons_of_mem _ (knownA_mem h)
theorem known_mem : ∀ {kn : Known} {f : Nat} {args : List AV} {v : AV}, knownOrc kn f args = some v → ∃ l, (f, l) ∈ kn ∧ (args, v) ∈ l
  | [], _, _, _, h => by cases h
  | (g, l) :: r, f, args, v, h => by
    unfold knownOrc at h
    cases e : Nat.beq g f with
    | true =>
      rw [e] at h
      have := Nat.eq_of_beq_eq_true e
      subst this
      exact ⟨l, by simp, knownA_mem h⟩
    | false =>
      rw [e] at h
      obtain ⟨l', h1, h2⟩ := known_mem (kn := r) h
      exact ⟨l', by simp [h1], h2⟩
/-- is an answer this one -/
def CR.isV (r : CR) (v : AV) : Bool := match r with
  | .ret u _ _ => beqV u v
  | _ => false
def goodK (P : Program) (F : Fns) [TabC] (f : Nat) : List (List AV × AV) → Bool
  | [] => true
  | (a, v) :: l => (F.call f a none (hpT P)).isV v && plainVs a && plainV v && goodK P F f l
def isGoAt (P : Program) (f : Nat) : Bool := match P.funcs[f]? with
  | some fn => isGo fn
  | none => false
theorem goodK_ok {F : Fns} (hC : CallOK P F) (hT : TabOK P) {f : Nat} : ∀ {l : List (List AV × AV)}, goodK P F f l = true → ∀ x ∈ l, OrcS P f x.1 x.2
  | [], _, x, hx => by cases hx
  | (a, v) :: l, h, x, hx => by
    simp only [goodK, Bool.and_eq_true] at h
    obtain ⟨⟨⟨h1, h2⟩, h3⟩, h4⟩ := h
    rcases List.mem_cons.1 hx with h5 | h5
    · subst h5
      unfold CR.isV at h1
      split at h1
      · rename_i u h' rc' e
        rw [beqV_eq h1] at e
        exact orcS_of hC hT h2 h3 e
      · cases h1
    · exact goodK_ok hC hT h4 x h5
theorem orcOK_nil : OrcOK P (knownOrc []) := fun _ _ _ h => by cases h
theorem orcOK_cons {kn : Known} {f k : Nat} {l : List (List AV × AV)} (h : OrcOK P (knownOrc kn)) (hT : TabOK P) (hg : isGoAt P f = true) (hl : goodK P (fnsO P (knownOrc kn) k) f l = true) : OrcOK P (knownOrc ((f, l) :: kn)) := by
  intro f' args v hv
  unfold knownOrc at hv
  cases e : Nat.beq f f' with
  | true =>
    rw [e] at hv
    have := Nat.eq_of_beq_eq_true e
    subst this
    refine ⟨goodK_ok (fnsO_all h k).2.1 hT hl _ (knownA_mem hv), ?_⟩
    unfold isGoAt at hg
    split at hg
    · rename_i fn hfn; exact ⟨fn, hfn, hg⟩
    · cases hg
  | false =>
    rw [e] at hv
    exact h f' args v hv
end
end Go.Rk

namespace Go.Rk
open Go Go.RowKit
set_option linter.unusedVariables false
set_option linter.unusedSimpArgs false
set_option linter.constructorNameAsVariable false
set_option linter.unusedSectionVars false
section
variable {P : Program}
variable [TabC]
theorem calls_of {orc : Orc} (ho : OrcOK P orc) {k f : Nat} {args : List AV} {ca : Array Value} {h0 : Heap} {σ : Sg} {w : World} (hb : Base P σ h0 w) (hargs : VRs σ args ca.toList) {v : AV} {h' : Heap} {rc' : Rec} (h : (fnsO P orc k).call f args none h0 = .ret v h' rc') :
    Calls P f ca w fun e w' => ∃ σ' c, e = .returned c ∧ VR σ' v c ∧ Aft P σ h0 w σ' h' w' := by
  intro cs
  have hc := (fnsO_all ho k).2.1 σ f args ca h0 w none .normal cs hb hargs trivial (.inl rfl)
  rw [h] at hc
  obtain ⟨σ', c, fr, cs', w', x1, x2, x3, x4, x5, x6, x7⟩ := hc
  rcases x7 with ⟨_, rfl⟩ | ⟨_, _, _, _, _, x8, _⟩
  · exact ⟨.returned c, w', fr, ⟨σ', c, rfl, x5, x6⟩, x1, x4, x2.1, x2.2.1, x3, x2.2.2⟩
  · cases x8
def sizeAt (w : World) (g : Nat) : Nat := match w.heap[g]? with | some (.cells c _ _) => c.size | _ => 0
/-- of memory only the tables are known, and where the package's variables lie -/
def sgT (P : Program) (w : World) : Sg := fun g k => if k = 0 ∧ g < P.globals.size then some ⟨g, 0, sizeAt w g⟩ else none
/-- the tables lie in the world -/
def TabW (w : World) : Prop := ∀ x ∈ TabC.tabs, ∃ cs ty fz c lo hi, x.2 = .cells cs ty 0 fz false ∧ w.heap[x.1]? = some (.cells c ty (lo, hi)) ∧ (lo = hi ∨ (lo < hi ∧ hi ≤ fz)) ∧ VRs (fun _ _ => none) cs c.toList
theorem baseT (hT : TabOK P) (hk : TabC.tabs.Pairwise (fun x y => x.1 ≠ y.1)) {w : World} (hw : TabW w) : Base P (sgT P w) (hpT P) w := by
  have hfun : ∀ x ∈ TabC.tabs, (hpT P).t.get x.1 = some x.2 := by
    have : ∀ (l : List (Nat × AObj)), l.Pairwise (fun x y => x.1 ≠ y.1) → ∀ x ∈ l, (treeOf l).get x.1 = some x.2 := by
      intro l
      induction l with
      | nil => intro _ x hx; cases hx
      | cons y l ih =>
        intro hp x hx
        rw [List.pairwise_cons] at hp
        rw [treeOf, Tr.get_set]
        rcases List.mem_cons.1 hx with h1 | h1
        · subst h1; simp
        · rw [if_neg (Ne.symm (hp.1 x h1))]; exact ih hp.2 x h1
    exact this _ hk
  have hσ : ∀ i, i < P.globals.size → sgT P w i 0 = some ⟨i, 0, sizeAt w i⟩ := fun i hi => by simp [sgT, hi]
  have hinv : ∀ i k L, sgT P w i k = some L → L.blk = i := by
    intro i k L hL
    unfold sgT at hL
    split at hL
    · cases hL; rfl
    · cases hL
  refine ⟨⟨fun i o hi => ?_, fun i j o p L M hi hj hL hM he => ?_, fun i o k hi hk' => ?_⟩, fun i k hi => ?_, ⟨fun i hi => ?_, hfun⟩, fun g hg => ⟨_, hσ g hg, rfl, rfl⟩⟩
  · have hm := tree_mem hi
    obtain ⟨cs, ty, fz, c, lo, hi', h1, h2, h3, h4⟩ := hw _ hm
    have hlt := (hT _ hm).2
    simp only at h1 h2 hlt
    subst h1
    have hsz : sizeAt w i = c.size := by simp [sizeAt, h2]
    refine ⟨⟨i, 0, sizeAt w i⟩, hσ i hlt, c, lo, hi', h2, hsz.symm, ?_, fun j v hj _ => ?_, ⟨(fun h => by cases h), fun _ => ?_⟩⟩
    · have := h4.len
      simp only [Array.length_toList] at this
      show cs.length ≤ 0 + sizeAt w i
      omega
    · obtain ⟨x, hx, hv⟩ := h4.get hj
      refine ⟨x, by rw [Array.getElem?_toList] at hx; exact hx, hv.mono fun _ _ _ h => by cases h⟩
    · rcases h3 with h3 | ⟨h3, h5⟩
      · exact .inl h3
      · exact .inr (.inl ⟨h3, h5⟩)
  · rw [← hinv i _ L hL, ← hinv j _ M hM]; exact he
  · have hm := tree_mem hi
    unfold sgT
    rw [if_neg (by omega)]
  · have : ¬ i < P.globals.size := Nat.not_lt.2 hi
    simp [sgT, this]
  · cases e : (hpT P).t.get i with
    | none => exact absurd e hi
    | some o => exact (hT _ (tree_mem e)).2
theorem isTrue_ret {r : CR} (h : r.isTrue = true) : ∃ h' rc', r = .ret (.bool true) h' rc' := by
  unfold CR.isTrue at h
  split at h
  · exact ⟨_, _, rfl⟩
  · cases h
/-- a call that is true, whatever else lies in memory -/
theorem calls_true {orc : Orc} (ho : OrcOK P orc) (hT : TabOK P) (hk : TabC.tabs.Pairwise (fun x y => x.1 ≠ y.1)) {k f : Nat} {args : List AV} {ca : Array Value} {w : World} (hw : TabW w) (hargs : VRs (sgT P w) args ca.toList) (h : ((fnsO P orc k).call f args none (hpT P)).isTrue = true) :
    Calls P f ca w fun e w' => e = .returned (.bool true) ∧ Below w.heap.size w w' := by
  obtain ⟨h', rc', hr⟩ := isTrue_ret h
  refine (calls_of ho (baseT hT hk hw) hargs hr).mono fun e w' ⟨σ', c, h1, h2, h3⟩ => ?_
  simp only [VR] at h2
  subst h2
  refine ⟨h1, h3.os, h3.tape, h3.output, h3.size, fun b hb => ?_⟩
  by_cases hx : ∃ i o L, (hpT P).t.get i = some o ∧ sgT P w i (genOf o) = some L ∧ L.blk = b
  · obtain ⟨i, o, L, k1, k2, k3⟩ := hx
    rw [← k3]
    exact (h3.ro i o k1 (TabC.ro _ (tree_mem k1))).2 L k2
  · exact h3.frame b hb fun i o L k1 k2 k3 => hx ⟨i, o, L, k1, k2, k3⟩

end
section
variable {P : Program}
/-! a function's run, taken apart -/
def XR.envOf (x : XR) : T := match x with | .nrm e _ _ => e | _ => .e
def XR.heapOf (x : XR) : Heap := match x with | .nrm _ h _ => h | _ => { next := 0, t := .e }
def XR.dsOf (x : XR) : Ds := match x with | .nrm _ _ d => d | _ => { dfs := [], rc := none, rnd := none }
def XR.isNrm (x : XR) : Bool := match x with | .nrm .. => true | _ => false
theorem XR.nrm_eq {x : XR} (h : x.isNrm = true) : x = .nrm x.envOf x.heapOf x.dsOf := by
  cases x <;> first | rfl | (cases h; done)
theorem callC_eq {F : Fns} {f : Nat} {fn : Func} {c : Code} {args : List AV} {rc : Rec} {h : Heap} (hf : P.funcs[f]? = some fn) (hb : fn.body = some c) (hg : isGo fn = true) (hn : Nat.blt fn.ntmps 4294967296 = true) (hl : Nat.ble args.length fn.ntmps = true) :
    callC P F f args rc h = leaveX F.call (cfunc P fn).res ((comp P fn.ntmps c).run F (mkEnv 0 args .e) h { dfs := [], rc := rc, rnd := none }) := by
  unfold callC fnOf
  rw [hf]
  unfold callF
  simp only [hl, cond_true]
  unfold cfunc
  simp only [hb, hg, hn, Bool.and_self, if_true]
theorem seq_go {F : Fns} {N : Nat} {a b : Code} {e : T} {h : Heap} {d : Ds} (ha : ((comp P N a).run F e h d).isNrm = true) :
    (comp P N (.seq a b)).run F e h d = (comp P N b).run F ((comp P N a).run F e h d).envOf ((comp P N a).run F e h d).heapOf ((comp P N a).run F e h d).dsOf := by
  have h1 : (comp P N (.seq a b)).run F e h d = ((comp P N a).run F e h d).andThen fun e h d => (comp P N b).run F e h d := by rw [comp]; rfl
  rw [h1]
  have h2 := XR.nrm_eq ha
  generalize (comp P N a).run F e h d = x at h2
  rw [h2]
  rfl
theorem seq_any {F : Fns} {N : Nat} {a b : Code} {e : T} {h : Heap} {d : Ds} : (comp P N (.seq a b)).run F e h d = ((comp P N a).run F e h d).andThen fun e h d => (comp P N b).run F e h d := by rw [comp]; rfl
theorem cond_go {F : Fns} {N : Nat} {c : Operand} {a b : Code} {e : T} {h : Heap} {d : Ds} {t : Bool} (hc : (copd P c).ev e = .bool t) :
    (comp P N (.cond c a b)).run F e h d = bif t then (comp P N a).run F e h d else (comp P N b).run F e h d := by
  have h1 : (comp P N (.cond c a b)).run F e h d = condX ((copd P c).ev e) ((comp P N a).run F e h d) ((comp P N b).run F e h d) := by rw [comp]; rfl
  rw [h1, hc]
  rfl
theorem fnsO_call {orc : Orc} {k f : Nat} {args : List AV} {rc : Rec} {h : Heap} (he : orc f args = none) : (fnsO P orc (k + 1)).call f args rc h = callC P (fnsO P orc k) f args rc h := by
  show callO P orc (fnsO P orc k) f args rc h = _
  unfold callO
  rw [he]
def cL : Code → Code | .seq a _ => a | .cond _ a _ => a | .block _ a => a | .loop a => a | c => c
def cR : Code → Code | .seq _ b => b | .cond _ _ b => b | c => c
def cC : Code → Operand | .cond c _ _ => c | _ => .tmp 0
end
end Go.Rk

namespace Go.Rk
open Go
set_option linter.unusedVariables false
set_option linter.unusedSimpArgs false
set_option linter.constructorNameAsVariable false
/-! values that point nowhere, read as data -/
inductive Leaf where
  | b
  | i (k : IntKind)
  | s
def LeafOK : Leaf → Value → Prop
  | .b, c => ∃ x, c = .bool x
  | .i k, c => ∃ n, c = .int k n ∧ (Lit.int k n).wf = true
  | .s, c => ∃ x : ByteArray, c = .string x ∧ x.size ≤ maxLen
def LeafsOK : List Leaf → List Value → Prop
  | [], cs => cs = []
  | l :: ls, cs => ∃ c cs', cs = c :: cs' ∧ LeafOK l c ∧ LeafsOK ls cs'
def flatFs (P : Program) (F : TypeId → Option (List Leaf)) : List Field → Nat → Option (List Leaf)
  | [], _ => some []
  | f :: r, off => match F f.type, flatFs P F r (off + P.cellsOf f.type) with
    | some l, some m => if f.offset = off ∧ P.cellsOf f.type = l.length then some (l ++ m) else none
    | _, _ => none
def repL : Nat → List Leaf → List Leaf
  | 0, _ => []
  | n + 1, l => l ++ repL n l
def flatT (P : Program) : Nat → TypeId → Option (List Leaf)
  | 0, _ => none
  | n + 1, t => match P.underlying t with
    | some .bool => some [.b]
    | some (.int k) => some [.i k]
    | some .string => some [.s]
    | some (.struct fs) => (match flatFs P (flatT P n) fs.toList 0 with
      | some l => if l.length = P.cellsOf t then some l else none
      | none => none)
    | some (.array k e) => (match flatT P n e with
      | some l => if P.cellsOf e = l.length ∧ (repL k l).length = P.cellsOf t then some (repL k l) else none
      | none => none)
    | _ => none
theorem leafs_append : ∀ {l m : List Leaf} {cs : List Value}, LeafsOK l (cs.take l.length) → LeafsOK m (cs.drop l.length) → LeafsOK (l ++ m) cs
  | [], m, cs, _, h => by simpa using h
  | a :: l, m, cs, h1, h2 => by
    obtain ⟨c, cs', h3, h4, h5⟩ := h1
    cases cs with
    | nil => cases h3
    | cons x cs =>
      simp only [List.length_cons, List.take_succ_cons, List.cons.injEq] at h3
      obtain ⟨rfl, rfl⟩ := h3
      exact ⟨x, cs, rfl, h4, leafs_append h5 (by simpa using h2)⟩
theorem leafs_len : ∀ {l : List Leaf} {cs : List Value}, LeafsOK l cs → cs.length = l.length
  | [], cs, h => by have : cs = [] := h; subst this; rfl
  | a :: l, cs, h => by obtain ⟨c, cs', rfl, _, h2⟩ := h; simp [leafs_len h2]
section
variable {H : Type} {enc : TypeId × Value → H} {P : Program}
def Flat (enc : TypeId × Value → H) (P : Program) (fuel : Nat) (t : TypeId) (l : List Leaf) : Prop :=
  ∀ (w : World) (base : Nat) (spare : Nat → Bool) (held : Bool) (cs : List Value) (x : DataW H × List MemPlace), DataW.trod enc P w base spare held fuel t cs = some x →
    x.2 = [] ∧ LeafsOK l cs ∧ ∀ w' base' spare' held', DataW.trod enc P w' base' spare' held' fuel t cs = some x
theorem flat_fs {fuel : Nat} {F : TypeId → Option (List Leaf)} (ih : ∀ t l, F t = some l → Flat enc P fuel t l) : ∀ (fs : List Field) (off : Nat) (l : List Leaf), flatFs P F fs off = some l →
    ∀ (w : World) (base : Nat) (spare : Nat → Bool) (held : Bool) (cs : List Value) (xs : List (DataW H × List MemPlace)), cs.length = off + l.length →
      (fs.mapM fun f => DataW.trod enc P w base spare held fuel f.type ((cs.drop f.offset).take (P.cellsOf f.type))) = some xs →
      xs.flatMap (·.2) = [] ∧ LeafsOK l (cs.drop off) ∧ ∀ w' base' spare' held', (fs.mapM fun f => DataW.trod enc P w' base' spare' held' fuel f.type ((cs.drop f.offset).take (P.cellsOf f.type))) = some xs
  | [], off, l, h, w, base, spare, held, cs, xs, hlen, hx => by
    simp only [flatFs, Option.some.injEq] at h
    subst h
    simp at hx
    subst hx
    refine ⟨rfl, ?_, fun _ _ _ _ => by simp⟩
    show cs.drop off = []
    simp at hlen
    rw [List.drop_eq_nil_of_le (by omega)]
  | f :: r, off, l, h, w, base, spare, held, cs, xs, hlen, hx => by
    unfold flatFs at h
    split at h
    · rename_i l1 l2 h1 h2
      split at h
      · rename_i h3
        obtain ⟨h3, h4⟩ := h3
        simp only [Option.some.injEq] at h
        subst h
        rw [List.mapM_cons] at hx
        simp only [Option.bind_eq_bind, Option.bind_eq_some_iff, Option.pure_def, Option.some.injEq] at hx
        obtain ⟨y, hy, ys, hys, rfl⟩ := hx
        obtain ⟨a1, a2, a3⟩ := ih _ _ h1 _ _ _ _ _ _ hy
        obtain ⟨b1, b2, b3⟩ := flat_fs ih r _ l2 h2 w base spare held cs ys (by simp at hlen; omega) hys
        refine ⟨by simp [a1, b1], ?_, fun w' base' spare' held' => ?_⟩
        · refine leafs_append ?_ ?_
          · rw [← h4, ← h3]; exact a2
          · rw [List.drop_drop, ← h4]; exact b2
        · rw [List.mapM_cons, a3 w' base' spare' held', b3 w' base' spare' held']
          rfl
      · cases h
    · cases h
theorem flat_arr {fuel : Nat} {e : TypeId} {l : List Leaf} (ih : Flat enc P fuel e l) (hc : P.cellsOf e = l.length) : ∀ (n k : Nat) (w : World) (base : Nat) (spare : Nat → Bool) (held : Bool) (cs : List Value) (xs : List (DataW H × List MemPlace)), cs.length = k * l.length + (repL n l).length →
      ((List.range' k n).mapM fun i => DataW.trod enc P w base spare held fuel e ((cs.drop (i * P.cellsOf e)).take (P.cellsOf e))) = some xs →
      xs.flatMap (·.2) = [] ∧ LeafsOK (repL n l) (cs.drop (k * l.length)) ∧ ∀ w' base' spare' held', ((List.range' k n).mapM fun i => DataW.trod enc P w' base' spare' held' fuel e ((cs.drop (i * P.cellsOf e)).take (P.cellsOf e))) = some xs
  | 0, k, w, base, spare, held, cs, xs, hlen, hx => by
    simp at hx
    subst hx
    refine ⟨rfl, ?_, fun _ _ _ _ => by simp⟩
    show cs.drop _ = []
    simp [repL] at hlen
    rw [List.drop_eq_nil_of_le (by omega)]
  | n + 1, k, w, base, spare, held, cs, xs, hlen, hx => by
    rw [List.range'_succ, List.mapM_cons] at hx
    simp only [Option.bind_eq_bind, Option.bind_eq_some_iff, Option.pure_def, Option.some.injEq] at hx
    obtain ⟨y, hy, ys, hys, rfl⟩ := hx
    obtain ⟨a1, a2, a3⟩ := ih _ _ _ _ _ _ hy
    have e1 : (k + 1) * l.length = k * l.length + l.length := by rw [Nat.add_mul, Nat.one_mul]
    obtain ⟨b1, b2, b3⟩ := flat_arr ih hc n (k + 1) w base spare held cs ys (by simp [repL] at hlen; omega) hys
    refine ⟨by simp [a1, b1], ?_, fun w' base' spare' held' => ?_⟩
    · refine leafs_append ?_ ?_
      · rw [hc] at a2; exact a2
      · rw [List.drop_drop, ← e1]; exact b2
    · rw [List.range'_succ, List.mapM_cons, a3 w' base' spare' held', b3 w' base' spare' held']
      rfl
theorem flat_ok : ∀ (fuel n : Nat) (t : TypeId) (l : List Leaf), flatT P n t = some l → Flat enc P fuel t l
  | 0, _, _, _, _ => fun w base spare held cs x h => by simp [DataW.trod] at h
  | fuel + 1, 0, _, _, h => by cases h
  | fuel + 1, n + 1, t, l, h => by
    intro w base spare held cs x hx
    unfold flatT at h
    split at h
    · rename_i hu
      simp only [Option.some.injEq] at h; subst h
      obtain ⟨b, rfl, rfl⟩ := DataW.trod_bool hu hx
      exact ⟨rfl, ⟨_, [], rfl, ⟨b, rfl⟩, rfl⟩, fun _ _ _ _ => by simp [DataW.trod, hu]⟩
    · rename_i k hu
      simp only [Option.some.injEq] at h; subst h
      obtain ⟨m, rfl, rfl, hw⟩ := DataW.trod_int hu hx
      exact ⟨rfl, ⟨_, [], rfl, ⟨m, rfl, hw⟩, rfl⟩, fun _ _ _ _ => by simp [DataW.trod, hu, hw]⟩
    · rename_i hu
      simp only [Option.some.injEq] at h; subst h
      obtain ⟨m, rfl, rfl, hw⟩ := DataW.trod_string hu hx
      exact ⟨rfl, ⟨_, [], rfl, ⟨m, rfl, hw⟩, rfl⟩, fun _ _ _ _ => by simp [DataW.trod, hu, hw]⟩
    · rename_i fs hu
      split at h
      · rename_i l' hl
        split at h
        · rename_i hlen
          simp only [Option.some.injEq] at h; subst h
          simp only [DataW.trod, hu] at hx
          split at hx
          · rename_i hcs
            rw [Option.map_eq_some_iff] at hx
            obtain ⟨xs, hxs, rfl⟩ := hx
            obtain ⟨a1, a2, a3⟩ := flat_fs (fun t l h => flat_ok fuel n t l h) _ _ _ hl _ _ _ _ cs xs (by omega) hxs
            refine ⟨a1, by simpa using a2, fun w' base' spare' held' => ?_⟩
            simp only [DataW.trod, hu, hcs, if_true, a3 w' base' spare' held', Option.map_some]
          · cases hx
        · cases h
      · cases h
    · rename_i k e hu
      split at h
      · rename_i l' hl
        split at h
        · rename_i hlen
          simp only [Option.some.injEq] at h; subst h
          simp only [DataW.trod, hu] at hx
          split at hx
          · rename_i hcs
            rw [Option.map_eq_some_iff] at hx
            obtain ⟨xs, hxs, rfl⟩ := hx
            rw [List.range_eq_range'] at hxs
            obtain ⟨a1, a2, a3⟩ := flat_arr (flat_ok fuel n e l' hl) hlen.1 k 0 _ _ _ _ cs xs (by omega) hxs
            refine ⟨a1, by simpa using a2, fun w' base' spare' held' => ?_⟩
            simp only [DataW.trod, hu, hcs, if_true, List.range_eq_range', a3 w' base' spare' held', Option.map_some]
          · cases hx
        · cases h
      · cases h
    · cases h
/-- an argument that points nowhere -/
theorem open_flat {n : Nat} {t : TypeId} {l : List Leaf} (hl : flatT P n t = some l) {w : World} {base : Nat} {spare : Nat → Bool} {held : Bool} {v : Value} {d : DataW H} {p : List MemPlace} (h : DataW.Trod enc P w base spare held t v d p) :
    p = [] ∧ LeafsOK l v.cells.toList ∧ ∀ w' base' spare' held', DataW.Trod enc P w' base' spare' held' t v d [] := by
  obtain ⟨fuel, hf⟩ := h
  obtain ⟨h1, h2, h3⟩ := flat_ok fuel n t l hl _ _ _ _ _ _ hf
  have h1 : p = [] := h1
  subst h1
  exact ⟨rfl, h2, fun w' base' spare' held' => ⟨fuel, h3 w' base' spare' held'⟩⟩
end
section
variable {P : Program}
theorem intCell {w : World} {c : Value} {g t : Nat} (h : (match some (TypeDesc.int .i64), c with
    | some .bool, .bool _ => True
    | some .string, .string s => (s.size : Int) ≤ IntKind.i64.max
    | some (.int k), .int k' n => k' = k ∧ k.has n
    | some (.float k), .float k' b => k' = k ∧ k.has b
    | some (.complex k), .complex k' re im => k' = k ∧ k.has re ∧ k.has im
    | some (.pointer _), .pointer none | some (.slice _), .slice none 0 0 => True
    | some (.pointer e), .pointer (some a) => w.has P .any 0 a e 1
    | some (.slice e), .slice (some a) len cap => len ≤ cap ∧ (cap : Int) ≤ IntKind.i64.max ∧ w.has P .any 0 a e cap
    | _, _ => False)) (h3 : w.heap[g]? = some (.cells #[c] t (0, 0))) : ∃ M, w.heap[g]? = some (.cells #[.int .i64 M] t (0, 0)) := by
  cases c with
  | int k n =>
    have h : k = .i64 ∧ _ := h
    obtain ⟨rfl, _⟩ := h
    exact ⟨n, h3⟩
  | _ => exact absurd h (by simp)
/-- a package's variable that holds a whole number -/
theorem intVar {w : World} {g t : Nat} (hs : w.ShapedOpen P) (hg : Nat.blt g P.globals.size = true) (h0 : ((((begin P (fun _ _ => 0) default).world.heap[g]?).bind Obj.row?).map fun x => (x.1.size, x.2)) = some (1, t))
    (hb : P.buildable t = true) (ht : P.cellTypes P.depth t = some [t]) (hu : P.underlying t = some (.int .i64)) : ∃ M, w.heap[g]? = some (.cells #[.int .i64 M] t (0, 0)) := by
  rw [Option.map_eq_some_iff] at h0
  obtain ⟨⟨z, t'⟩, h1, h2⟩ := h0
  simp only [Prod.mk.injEq] at h2
  obtain ⟨h2, rfl⟩ := h2
  obtain ⟨cs, h3, h4, h5⟩ := hs.1 g z t' (Nat.le_of_ble_eq_true hg) h1
  obtain ⟨ts, h6, _, h7⟩ := h5 hb
  rw [ht] at h6
  cases h6
  rw [h2] at h4
  obtain ⟨l⟩ := cs
  match l, h4 with
  | [c], _ =>
    obtain ⟨u, h8, h9⟩ := h7 0 c rfl
    simp at h8
    subst h8
    unfold Cell.ok at h9
    rw [hu] at h9
    exact intCell h9 h3
end
section
variable {H : Type} {enc : TypeId × Value → H}
/-- as the kit's returnsInHanded_of_change_and, with the shape of memory handed on -/
theorem returns_shaped {a : Assume} {C : Checked} {os : Os} {f : FuncId} {fn : Func} {s : ChangeSpec} {conds : List PathCond} {apart fresh handsOn again : Bool} {X : World → Array Value → Prop}
    (hX : ∀ (w w' : World) (args : Array Value), w.heap = w'.heap → X w args → X w' args)
    (own : ownKnob C.prog.godebug = none) (started : os.Started) (noInit : C.prog.inits.idxOf? f = none) (hfn : C.prog.funcs[f]? = some fn)
    (witness : ∃ (w : World) (tape : Tape) (i : Input), w.os = os ∧ (w.forCall tape i).Shaped C.prog ∧ i.vars = [] ∧ Input.okWide C.prog (w.forCall tape i) .any w.heap.size f i ∧
      ((s.pre enc C.prog fn conds apart (w.forCall tape i).memory i.args ∧ X (w.forCall tape i).memory i.args) ∧ sizedMet enc C.prog fn (OpenSpec.ofChange s) apart (w.forCall tape i).memory i.args) ∧ a.holds C.prog (lone (Frame.enter C.prog f i.args .normal) [] (w.forCall tape i)))
    (contract : ∀ (W : World) (base : Nat) (args : Array Value) (ds gs : List (DataW H)) (before : List MemPlace), W.ShapedOpen C.prog →
      (∀ (j : Nat) t v, fn.params[j]? = some t → args[j]? = some v → Value.okWide C.prog W .any base t v) →
      DataW.Whole enc C.prog fn.params.toList s.vars apart W args.toList ds gs before →
      conds.all (PathCond.test C.prog ⟨fn.params.toList, ds, s.plain.varTypes C.prog, gs⟩) = true →
      (DataW.weightsEach C.prog (fn.params.toList ++ s.plain.varTypes C.prog) (ds ++ gs)).all (· ≤ reachBytes) = true → X W args →
      a.holds C.prog (lone (Frame.enter C.prog f args .normal) [] W) →
      Calls C.prog f args W fun e W' => ∃ v, e = .returned v ∧ s.post enc C.prog fn apart fresh handsOn again W args v W') :
    ReturnsInHanded a C os f .any (fun w args => (s.pre enc C.prog fn conds apart w args ∧ X w args) ∧ sizedMet enc C.prog fn (OpenSpec.ofChange s) apart w args) (s.post enc C.prog fn apart fresh handsOn again) := by
  refine returnsInHanded_of_calls own started noInit witness ?_
  intro w tape i _ hsh _ hok hpre hholds
  obtain ⟨_, _, _, fn', hfn', _, _, _, _, hval⟩ := hok
  have e : fn' = fn := Option.some.inj (hfn'.symm.trans hfn)
  subst e
  obtain ⟨⟨⟨ds, gs, before, hw, hc⟩, hx⟩, hz⟩ := hpre
  have hw' := DataW.Whole.of_heap (w' := w.forCall tape i) (by rfl) hw
  refine (contract (w.forCall tape i) w.heap.size i.args ds gs before hsh hval hw' hc (hz.weights hw) (hX _ _ _ (by rfl) hx) hholds).mono fun e W' ⟨v, he, hp⟩ => ?_
  subst he
  exact ChangeSpec.post_blind hp
end
end Go.Rk

namespace Go.Rk
open Go Go.RowKit Go.WideShapes Go.ChangeShapes
section
variable {H : Type} {enc : TypeId × Value → H} {P : Program}
theorem post_below {f : Func} {s : ChangeSpec} {apart fresh handsOn again : Bool} {W W' : World} {args : Array Value} {v : Value} {ds gs : List (DataW H)} {before pa pv : List MemPlace}
    (hW : DataW.Whole enc P f.params.toList s.vars apart W args.toList ds gs before)
    (hres : ∀ (b : Nat) (sp : Nat → Bool) (hd : Bool), DataW.TrodAll enc P W' b sp hd f.resultTypes.toList (v.resultList f.resultTypes.size) (s.fn H (ds ++ gs)).results [])
    (hargs : ∀ sp : Nat → Bool, (∀ p ∈ before, sp p.block = true) → DataW.TrodAll enc P W' 0 sp true f.params.toList args.toList (s.fn H (ds ++ gs)).args pa)
    (hvars : ∀ sp : Nat → Bool, (∀ p ∈ before, sp p.block = true) → DataW.TrodVars enc P W' sp s.vars (s.fn H (ds ++ gs)).vars pv)
    (hps : before = pa ++ pv) (hb : Below W.heap.size W W')
    (hok : ∀ (j : Nat) (t : TypeId) (r : Value), f.resultTypes[j]? = some t → (v.resultList f.resultTypes.size)[j]? = some r → Value.okWide P W' .any 0 t r) :
    s.post enc P f apart fresh handsOn again W args v W' := by
  have hlt : ∀ p ∈ before, p.block < W.heap.size := fun p hp => hW.lt p hp
  have hold : ∀ p ∈ before, (fun b => decide (b < W.heap.size)) p.block = true := fun p hp => by simpa using hlt p hp
  refine ⟨ds, gs, before, [], pa, pv, hW, hres _ _ _, hargs _ hold, hvars _ hold, World.keptBut_mono (fun p hp => ⟨hp, ?_⟩) (hb.frame (· ∈ before)), fun _ => ?_⟩
  · rw [hps, List.mem_append] at hp
    exact Or.inr hp
  · obtain ⟨_, _, _, _, _, hz, hn⟩ := hW
    refine ⟨hok, _, _, ([] ++ pa) ++ pv, ⟨[] ++ pa, pv, trodAll_append (hargs _ (fun _ _ => rfl)) (hres _ _ _), hvars _ (fun _ _ => rfl), rfl, ?_, ?_⟩, ?_⟩
    · intro b off hp
      have hin : MemPlace.cell b off ∈ before := by rw [hps]; simpa using hp
      rw [hb.frozen (hlt _ hin)]
      exact hz b off hin
    · intro ha
      have := hn ha
      rw [hps] at this
      simpa using this
    · intro p hp _
      rw [hps]
      simpa using hp
end
end Go.Rk
