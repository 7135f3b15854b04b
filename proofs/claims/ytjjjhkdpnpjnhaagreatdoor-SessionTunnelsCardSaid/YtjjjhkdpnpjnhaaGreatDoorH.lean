/-
  Arguments that lie in memory; less may be known of an object than is known. No condition.
-/
import Derived.Test.YtjjjhkdpnpjnhaaGreatDoorG
import Derived.Test.YtjjjhkdpnpjnhaaGreatDoorD
import Derived.ChangeArms
import Derived.ChangeStays
namespace Go.Rk
open Go
set_option linter.unusedVariables false
set_option linter.unusedSimpArgs false
set_option linter.constructorNameAsVariable false
set_option linter.unusedSectionVars false
variable [TabC]
/-- one cell is no longer known -/
def undefAt : Nat → List AV → List AV
  | _, [] => []
  | 0, _ :: l => .undef :: l
  | n + 1, v :: l => v :: undefAt n l
def undefAll (js : List Nat) (cs : List AV) : List AV := js.foldl (fun cs j => undefAt j cs) cs
theorem undefAt_len : ∀ (n : Nat) (l : List AV), (undefAt n l).length = l.length
  | _, [] => by cases ‹Nat› <;> rfl
  | 0, _ :: l => rfl
  | n + 1, v :: l => by rw [undefAt, List.length_cons, List.length_cons, undefAt_len n l]
theorem undefAll_len : ∀ (js : List Nat) (l : List AV), (undefAll js l).length = l.length
  | [], l => rfl
  | j :: js, l => by
    show (undefAll js (undefAt j l)).length = _
    rw [undefAll_len js, undefAt_len]
theorem undefAt_get : ∀ (n : Nat) (l : List AV) (i : Nat) (v : AV), (undefAt n l)[i]? = some v → v = .undef ∧ (∃ u, l[i]? = some u) ∨ l[i]? = some v
  | n, [], i, v, h => by cases n <;> simp [undefAt] at h
  | 0, a :: l, 0, v, h => by simp [undefAt] at h; exact .inl ⟨h.symm, a, rfl⟩
  | 0, a :: l, i + 1, v, h => by simp [undefAt] at h; exact .inr (by simpa using h)
  | n + 1, a :: l, 0, v, h => by simp [undefAt] at h; exact .inr (by simp [h])
  | n + 1, a :: l, i + 1, v, h => by
    simp only [undefAt, List.getElem?_cons_succ] at h ⊢
    exact undefAt_get n l i v h
theorem undefAll_get : ∀ (js : List Nat) (l : List AV) (i : Nat) (v : AV), (undefAll js l)[i]? = some v → v = .undef ∧ (∃ u, l[i]? = some u) ∨ l[i]? = some v
  | [], l, i, v, h => .inr h
  | j :: js, l, i, v, h => by
    rcases undefAll_get js (undefAt j l) i v h with ⟨h1, u, h2⟩ | h1
    · rcases undefAt_get j l i u h2 with ⟨_, w, h3⟩ | h3
      · exact .inl ⟨h1, w, h3⟩
      · exact .inl ⟨h1, u, h3⟩
    · exact undefAt_get j l i v h1
def weakO (js : List Nat) (o : AObj) : AObj := match o with
  | .cells cs ty g fz s => bif Nat.blt cs.length fz then .cells cs ty g fz s else .cells (undefAll js cs) ty g fz s
  | o => o
def Heap.weak (h : Heap) (i : Nat) (js : List Nat) : Heap := match h.t.get i with
  | some o => h.put i (weakO js o)
  | none => h
theorem weakO_cells {js : List Nat} {cs : List AV} {ty g fz : Nat} {s : Bool} : weakO js (.cells cs ty g fz s) = bif Nat.blt cs.length fz then .cells cs ty g fz s else .cells (undefAll js cs) ty g fz s := rfl
theorem weakO_gen {js : List Nat} {o : AObj} : genOf (weakO js o) = genOf o := by
  cases o <;> try rfl
  rename_i cs ty g fz s
  rw [weakO_cells]
  cases Nat.blt cs.length fz <;> rfl
theorem weakO_ro {js : List Nat} {o : AObj} (h : isRo o = true) : weakO js o = o := by
  cases o <;> try rfl
  rename_i cs ty g fz s
  rw [weakO_cells]
  have h : Nat.blt cs.length fz = true := h
  rw [h]; rfl
theorem weakO_OB {P : Program} {σ : Sg} {L : Loc} {js : List Nat} {o : AObj} {b : Option Obj} (h : OB P σ L o b) : OB P σ L (weakO js o) b := by
  cases o <;> try exact h
  rename_i cs ty g fz s
  rw [weakO_cells]
  cases Nat.blt cs.length fz with
  | true => exact h
  | false =>
    obtain ⟨c, lo, hi, h1, h2, h3, h4, h5⟩ := h
    refine ⟨c, lo, hi, h1, h2, by rw [undefAll_len]; exact h3, fun i v hi hs => ?_, h5⟩
    rcases undefAll_get js cs i v hi with ⟨rfl, u, hu⟩ | hv
    · obtain ⟨x, hx, _⟩ := h4 i u hu hs
      exact ⟨x, hx, by simp only [VR]⟩
    · exact h4 i v hv hs
theorem weak_get {h : Heap} {i j : Nat} {js : List Nat} {o : AObj} (hg : (h.weak i js).t.get j = some o) : ∃ p, h.t.get j = some p ∧ genOf o = genOf p ∧ (o = p ∨ o = weakO js p) := by
  unfold Heap.weak at hg
  cases e : h.t.get i with
  | none => rw [e] at hg; exact ⟨o, hg, rfl, .inl rfl⟩
  | some q =>
    rw [e] at hg
    simp only [put_get] at hg
    split at hg
    · rename_i hj
      subst hj
      injection hg with hg
      subst hg
      exact ⟨q, e, weakO_gen, .inr rfl⟩
    · exact ⟨o, hg, rfl, .inl rfl⟩
theorem weak_some {h : Heap} {i j : Nat} {js : List Nat} : (h.weak i js).t.get j = none ↔ h.t.get j = none := by
  unfold Heap.weak
  cases e : h.t.get i with
  | none => rfl
  | some q =>
    simp only [put_get]
    by_cases hj : j = i
    · subst hj; simp [e]
    · rw [if_neg hj]
theorem weak_ro {h : Heap} {i j : Nat} {js : List Nat} {o : AObj} (hr : isRo o = true) (hg : h.t.get j = some o) : (h.weak i js).t.get j = some o := by
  unfold Heap.weak
  cases e : h.t.get i with
  | none => exact hg
  | some q =>
    simp only [put_get]
    by_cases hj : j = i
    · subst hj
      rw [if_pos rfl]
      rw [e] at hg
      injection hg with hg
      subst hg
      rw [weakO_ro hr]
    · rw [if_neg hj]; exact hg
theorem weak_next {h : Heap} {i : Nat} {js : List Nat} : (h.weak i js).next = h.next := by
  unfold Heap.weak
  cases h.t.get i <;> rfl
section
variable {P : Program} {σ σ1 : Sg} {N : Nat} {h h1 : Heap} {w w1 : World} {i : Nat} {js : List Nat}
theorem HR.weak (hr : HR P σ h.t.get w) : HR P σ (h.weak i js).t.get w := by
  refine ⟨fun j o hj => ?_, fun j k o p L M hj hk hL hM he => ?_, fun j o k hj hk => ?_⟩
  · obtain ⟨p, h1, h2, h3⟩ := weak_get hj
    obtain ⟨L, h4, h5⟩ := hr.obj j p h1
    refine ⟨L, by rw [h2]; exact h4, ?_⟩
    rcases h3 with rfl | rfl
    · exact h5
    · exact weakO_OB h5
  · obtain ⟨o', h1, h2, _⟩ := weak_get hj
    obtain ⟨p', h3, h4, _⟩ := weak_get hk
    exact hr.inj j k o' p' L M h1 h3 (by rw [← h2]; exact hL) (by rw [← h4]; exact hM) he
  · obtain ⟨o', h1, h2, _⟩ := weak_get hj
    exact hr.top j o' k h1 (by rw [← h2]; exact hk)
theorem Aft.weak (a : Aft P σ h w σ1 h1 w1) : Aft P σ h w σ1 (h1.weak i js) w1 where
  le := a.le
  hr := a.hr.weak
  size := a.size
  frame := a.frame
  back := fun j o L hj hL => by
    obtain ⟨p, h1, h2, _⟩ := weak_get hj
    exact a.back j p L h1 (by rw [← h2]; exact hL)
  new := fun j k L hL => by rw [weak_next]; exact a.new j k L hL
  dom := fun j hj => by rw [weak_next]; exact a.dom j fun e => hj (weak_some.2 e)
  keep := fun j hj e => a.keep j hj (weak_some.1 e)
  ro := fun j o hj hr => ⟨weak_ro hr (a.ro j o hj hr).1, (a.ro j o hj hr).2⟩
  next := by rw [weak_next]; exact a.next
  os := a.os
  tape := a.tape
  output := a.output
theorem SR.weak {b : Frame} {e : T} {d : Ds} {t : Array Value} {ds : List Deferred} {cs : List Frame} (s : SR P σ N b e h d t ds cs w) : SR P σ N b e (h.weak i js) d t ds cs w where
  er := s.er
  hr := s.hr.weak
  fr := fun j k hj => s.fr j k (by rw [weak_next] at hj; exact hj)
  dm := ⟨fun j hj => by rw [weak_next]; exact s.dm.1 j fun e => hj (weak_some.2 e), fun x hx => weak_ro (TabC.ro x hx) (s.dm.2 x hx)⟩
  gl := s.gl
  df := s.df
  rn := s.rn
  rc := s.rc
  fo := s.fo
def XR.weak (i : Nat) (js : List Nat) : XR → XR
  | .nrm e h d => .nrm e (h.weak i js) d
  | .exit k e h d => .exit k e (h.weak i js) d
  | .goto k e h d => .goto k e (h.weak i js) d
  | .ret e h d => .ret e (h.weak i js) d
  | x => x
theorem XG.weak {fr : Frame} {rc : Rec} {cs : List Frame} {m : Machine} {e1 : T} {d1 : Ds} {end' : Array Value → List Deferred → List Frame → World → Machine} {Q : Sg → Prop}
    (hx : XG P σ N fr h w rc cs m e1 h1 d1 end' Q) : XG P σ N fr h w rc cs m e1 (h1.weak i js) d1 end' Q := by
  obtain ⟨σ', t, ds, cs', w', x1, x2, x3, x4, x5⟩ := hx
  exact ⟨σ', t, ds, cs', w', x1, x2.weak, x3.weak, x4, x5⟩
/-- less is known behind it -/
theorem Trip.weak {a : Code} {e : T} {d : Ds} {r : XR} (i : Nat) (js : List Nat) (ha : Trip P N a e h d r) : Trip P N a e h d (r.weak i js) := by
  intro σ fr t ds cs w k hs
  have hx := ha σ fr t ds cs w k hs
  cases r with
  | nrm e' h' d' => exact XG.weak hx
  | exit j e' h' d' => obtain ⟨k', h1, h2⟩ := hx; exact ⟨k', h1, XG.weak h2⟩
  | goto l e' h' d' => obtain ⟨k', h1, h2⟩ := hx; exact ⟨k', h1, XG.weak h2⟩
  | ret e' h' d' => obtain ⟨k', h2⟩ := hx; exact ⟨k', XG.weak h2⟩
  | pan => exact hx
  | fail => trivial
end
section
variable {P : Program} {F : Fns}
/-- less is known of some objects -/
def XR.weaks : List (Nat × List Nat) → XR → XR
  | [], x => x
  | (i, js) :: l, x => XR.weaks l (x.weak i js)
theorem Trip.weaks {N : Nat} {h : Heap} {a : Code} {e : T} {d : Ds} : ∀ (l : List (Nat × List Nat)) {r : XR}, Trip P N a e h d r → Trip P N a e h d (r.weaks l)
  | [], _, h => h
  | (i, js) :: l, _, h => Trip.weaks l (h.weak i js)
/-- a run with hints, behind which less is known and what was made is forgotten -/
theorem trip_shedW (hF : FOK P F) {N : Nat} (hN : Nat.blt N 4294967296 = true) {c : Code} {e : T} {h : Heap} {d : Ds} {r : XR} (hs : Hs) (n : Nat) (ks : Keep) (ts : List Nat) (l : List (Nat × List Nat))
    (hh : hC P N F c hs e h d (fun _ x => (x.weaks l).shedP h n ks ts ∧ (x.weaks l).shed n ks ts = r)) : Trip P N c e h d r := by
  obtain ⟨hs', x, ⟨h0, h1⟩, h2⟩ := hC_ok hF (blt_iff.1 hN) c hs _ _ _ _ hh
  rw [← h1]; exact Trip.shed (XR.shedP_ok h0) (h2.weaks l)
/-- a call, behind which less is known and what was made is forgotten -/
theorem callT_shedW (hF : FOK P F) {f : Nat} {fn : Func} {args : List AV} {h : Heap} {r : CR} (hs : Hs) (hf : P.funcs[f]? = some fn) (hk : (fn.body.isSome && isGo fn && Nat.blt fn.ntmps 4294967296 && Nat.ble args.length fn.ntmps) = true) (n : Nat) (ks : Keep) (ts : List Nat) (l : List (Nat × List Nat))
    (hh : hC P fn.ntmps F (bodyOf fn) hs (mkEnv 0 args .e) h { dfs := [], rc := none, rnd := none } (fun _ x => (x.weaks l).shedP h n ks ts ∧ leaveX F.call (cfunc P fn).res ((x.weaks l).shed n ks ts) = r)) : CallT P f args h r := by
  simp only [Bool.and_eq_true] at hk
  obtain ⟨⟨⟨k1, k2⟩, k3⟩, k4⟩ := hk
  obtain ⟨hs', x, ⟨h0, h1⟩, h2⟩ := hC_ok hF (blt_iff.1 k3) _ hs _ _ _ _ hh
  have hb : fn.body = some (bodyOf fn) := by
    cases e : fn.body with
    | none => rw [e] at k1; cases k1
    | some c => simp [bodyOf, e]
  rw [← h1]
  exact callT_of hF hf hb k2 k3 k4 (Trip.shed (XR.shedP_ok h0) (h2.weaks l))
end
end Go.Rk

namespace Go.Rk
open Go Go.RowKit
set_option linter.unusedVariables false
set_option linter.unusedSimpArgs false
set_option linter.constructorNameAsVariable false
set_option linter.unusedSectionVars false
/-! arguments that lie in memory -/
/-- what a cell says -/
def avOf : Value → AV
  | .bool b => .bool b
  | .int k n => .int k n
  | .string s => .str s.data.toList
  | _ => .undef
theorem avOf_VR (σ : Sg) : ∀ v : Value, VR σ (avOf v) v
  | .bool _ | .int _ _ | .string _ => by simp only [avOf, VR]
  | .float _ _ => by simp only [avOf, VR]
  | .complex _ _ _ => by simp only [avOf, VR]
  | .pointer _ => by simp only [avOf, VR]
  | .slice _ _ _ => by simp only [avOf, VR]
  | .map _ => by simp only [avOf, VR]
  | .func _ _ _ => by simp only [avOf, VR]
  | .nilFunc => by simp only [avOf, VR]
  | .iface _ _ => by simp only [avOf, VR]
  | .nilIface => by simp only [avOf, VR]
  | .agg _ => by simp only [avOf, VR]
  | .tuple _ => by simp only [avOf, VR]
  | .chan _ => by simp only [avOf, VR]
theorem avOf_plain : ∀ v : Value, avOf v = .undef ∨ plainV (avOf v) = true := by
  intro v
  cases v <;> first | exact .inl rfl | exact .inr rfl
theorem belowVs_avOf (n : Nat) : ∀ l : List Value, belowVs n (l.map avOf) = true
  | [] => rfl
  | v :: l => by
    have ih := belowVs_avOf n l
    have : belowV n (avOf v) = true := by cases v <;> rfl
    show (belowV n (avOf v) && belowVs n (l.map avOf)) = true
    rw [this, ih]; rfl
section
variable [TabC] {P : Program} {σ : Sg} {h : Heap} {w : World}
/-- a block of memory that is read alone -/
def argO (c : List Value) (ty fz : Nat) : AObj := .cells (c.map avOf) ty 0 fz false
/-- one block more is known -/
theorem Base.arg (hb : Base P σ h w) {b : Nat} {c : Array Value} {ty lo hi fz : Nat} (hw : w.heap[b]? = some (.cells c ty (lo, hi))) (hf : c.size < fz) (hno : ∀ i o L, h.t.get i = some o → σ i (genOf o) = some L → L.blk ≠ b) :
    Base P (σ.set h.next 0 ⟨b, 0, c.size⟩) (h.new (argO c.toList ty fz)) w := by
  have hle : σ.le (σ.set h.next 0 ⟨b, 0, c.size⟩) := Sg.le_set (hb.fr _ _ (Nat.le_refl _))
  have hn : h.t.get h.next = none := by
    cases e : h.t.get h.next with
    | none => rfl
    | some p => have := hb.dm.1 h.next (by rw [e]; simp); omega
  have hold : ∀ i p M, h.t.get i = some p → σ.set h.next 0 ⟨b, 0, c.size⟩ i (genOf p) = some M → σ i (genOf p) = some M ∧ i ≠ h.next := by
    intro i p M hi hM
    have : i ≠ h.next := fun e => by rw [e, hn] at hi; cases hi
    rw [Sg.set_other _ _ _ _ (fun e => this e.1)] at hM
    exact ⟨hM, this⟩
  refine ⟨⟨fun i p hi => ?_, fun i j p q M M' hi hj hM hM' he => ?_, fun i p k hi hk => ?_⟩, fun i k hi => ?_, ⟨fun i hi => ?_, fun x hx => ?_⟩, hb.gl.mono hle⟩
  · rw [new_get] at hi
    split at hi
    · rename_i e; cases hi; subst e
      refine ⟨_, Sg.set_same _ _ _ _, c, lo, hi, hw, rfl, by simp, fun i v hi _ => ?_, ⟨(fun h => by cases h), fun _ => .inr (.inr (by simpa using hf))⟩⟩
      rw [List.getElem?_map, Option.map_eq_some_iff] at hi
      obtain ⟨x, h1, rfl⟩ := hi
      exact ⟨x, by rw [Array.getElem?_toList] at h1; exact h1, avOf_VR _ _⟩
    · obtain ⟨M, hM, h2⟩ := hb.hr.obj i p hi
      exact ⟨M, hle _ _ _ hM, h2.mono hle⟩
  · rw [new_get] at hi hj
    split at hi <;> split at hj
    · rename_i e1 e2; rw [e1, e2]
    · rename_i e1 e2
      cases hi
      subst e1
      have hM0 := hM
      rw [show genOf (argO c.toList ty fz) = 0 from rfl, Sg.set_same] at hM
      cases hM
      exact absurd he.symm (hno j q M' hj (hold j q M' hj hM').1)
    · rename_i e1 e2
      cases hj
      subst e2
      rw [show genOf (argO c.toList ty fz) = 0 from rfl, Sg.set_same] at hM'
      cases hM'
      exact absurd he (hno i p M hi (hold i p M hi hM).1)
    · exact hb.hr.inj i j p q M M' hi hj (hold i p M hi hM).1 (hold j q M' hj hM').1 he
  · rw [new_get] at hi
    split at hi
    · rename_i e; cases hi; subst e
      rw [Sg.set_other _ _ _ _ (by rw [show genOf (argO c.toList ty fz) = 0 from rfl] at hk; omega)]
      exact hb.fr _ _ (Nat.le_refl _)
    · rename_i e
      rw [Sg.set_other _ _ _ _ (fun x => e x.1)]
      exact hb.hr.top i p k hi hk
  · rw [new_next] at hi
    rw [Sg.set_other _ _ _ _ (by omega)]
    exact hb.fr i k (by omega)
  · rw [new_get] at hi
    rw [new_next]
    split at hi
    · omega
    · have := hb.dm.1 i hi; omega
  · rw [new_get, if_neg]
    · exact hb.dm.2 x hx
    · intro e
      have := hb.dm.2 x hx
      rw [e, hn] at this
      cases this
/-- one number more is known, with nothing known of what lies there -/
theorem Base.hid (hb : Base P σ h w) (L : Loc) : Base P (σ.set h.next 0 L) { next := Nat.succ h.next, t := h.t } w := by
  have hle : σ.le (σ.set h.next 0 L) := Sg.le_set (hb.fr _ _ (Nat.le_refl _))
  have hn : h.t.get h.next = none := by
    cases e : h.t.get h.next with
    | none => rfl
    | some p => have := hb.dm.1 h.next (by rw [e]; simp); omega
  have hold : ∀ i p M, h.t.get i = some p → σ.set h.next 0 L i (genOf p) = some M → σ i (genOf p) = some M := by
    intro i p M hi hM
    have : i ≠ h.next := fun e => by rw [e, hn] at hi; cases hi
    rw [Sg.set_other _ _ _ _ (fun e => this e.1)] at hM
    exact hM
  refine ⟨⟨fun i p hi => ?_, fun i j p q M M' hi hj hM hM' he => hb.hr.inj i j p q M M' hi hj (hold i p M hi hM) (hold j q M' hj hM') he, fun i p k hi hk => ?_⟩, fun i k hi => ?_, ⟨fun i hi => ?_, fun x hx => hb.dm.2 x hx⟩, hb.gl.mono hle⟩
  · obtain ⟨M, hM, h2⟩ := hb.hr.obj i p hi
    exact ⟨M, hle _ _ _ hM, h2.mono hle⟩
  · have : i ≠ h.next := fun e => by have hi : h.t.get i = some p := hi; rw [e, hn] at hi; cases hi
    rw [Sg.set_other _ _ _ _ (fun x => this x.1)]
    exact hb.hr.top i p k hi hk
  · have hi : Nat.succ h.next ≤ i := hi
    rw [Sg.set_other _ _ _ _ (by omega)]
    exact hb.fr i k (by omega)
  · have := hb.dm.1 i hi
    show i < Nat.succ h.next
    omega
/-- a call that is true, where all that is known of memory is read alone -/
theorem calls_trueB (hb : Base P σ h w) (hro : ∀ i o, h.t.get i = some o → isRo o = true) {f : Nat} {args : List AV} {ca : Array Value} (hargs : VRs σ args ca.toList) {h' : Heap} (hc : CallT P f args h (.ret (.bool true) h' none)) :
    Calls P f ca w fun e w' => e = .returned (.bool true) ∧ Below w.heap.size w w' := by
  intro cs
  obtain ⟨σ', c, fr, cs', w', x1, x2, x3, x4, x5, x6, x7⟩ := hc.2 σ ca w .normal cs hb hargs (.inl rfl)
  rcases x7 with ⟨_, rfl⟩ | ⟨_, _, _, _, _, x8, _⟩
  · simp only [VR] at x5
    subst x5
    refine ⟨.returned (.bool true), w', fr, ⟨rfl, x6.os, x6.tape, x6.output, x6.size, fun b hb => ?_⟩, x1, x4, x2.1, x2.2.1, x3, x2.2.2⟩
    by_cases hx : ∃ i o L, h.t.get i = some o ∧ σ i (genOf o) = some L ∧ L.blk = b
    · obtain ⟨i, o, L, k1, k2, k3⟩ := hx
      rw [← k3]
      exact (x6.ro i o k1 (hro i o k1)).2 L k2
    · exact x6.frame b hb fun i o L k1 k2 k3 => hx ⟨i, o, L, k1, k2, k3⟩
  · cases x8
end
end Go.Rk

namespace Go.Rk
open Go Go.RowKit
set_option linter.unusedVariables false
set_option linter.unusedSimpArgs false
set_option linter.constructorNameAsVariable false
set_option linter.unusedSectionVars false
section
variable {H : Type} {enc : TypeId × Value → H} {P : Program}
/-- a slice of flat things, as an argument -/
theorem open_slice {n : Nat} {t e : TypeId} {l : List Leaf} (ht : P.underlying t = some (.slice e)) (hl : flatT P n e = some l) (hc : P.cellsOf e = l.length) {w : World} {base : Nat} {held : Bool} {v : Value} {d : DataW H} {p : List MemPlace} (h : DataW.Trod enc P w base (fun _ => true) held t v d p) (hv : v.cells.toList = [v]) :
    v = .slice none 0 0 ∨ ∃ a len cap, v = .slice (some a) len cap ∧ len ≤ cap ∧ cap ≤ maxLen ∧ ∀ i, i < cap → ∃ cs, w.cells? base (a.add (i * l.length)) l.length = some cs ∧ LeafsOK l cs := by
  obtain ⟨fuel, hf⟩ := h
  rw [hv] at hf
  rcases DataW.trod_slice ht hf with ⟨h1, _⟩ | ⟨a, len, cap, elems, rest, n', rfl, h1, h2, h3, h4, h5, h6, h7, h8, _⟩
  · left; injection h1
  · right
    injection h1 with h1 _
    refine ⟨a, len, cap, h1, h4, h5, fun i hi => ?_⟩
    obtain ⟨h9, h10⟩ := h8 rfl
    rw [hc] at h7 h10
    by_cases hil : i < len
    · have := h7 i hil
      have hlt : i < elems.length := by omega
      rw [List.getElem?_eq_getElem hlt, Option.bind_eq_some_iff] at this
      obtain ⟨cs, k1, k2⟩ := this
      exact ⟨cs, k1, (flat_ok _ n e l hl _ _ _ _ _ _ k2).2.1⟩
    · have := h10 (i - len) (by omega)
      have hlt : i - len < rest.length := by omega
      rw [show len + (i - len) = i by omega, List.getElem?_eq_getElem hlt, Option.bind_eq_some_iff] at this
      obtain ⟨cs, k1, k2⟩ := this
      exact ⟨cs, k1, (flat_ok _ n e l hl _ _ _ _ _ _ k2).2.1⟩
/-- where its cells lie -/
theorem cells_block {w : World} {base : Nat} {a : Addr} {n : Nat} {cs : List Value} (h : w.cells? base a n = some cs) (hn : 0 < n) :
    a.spot = none ∧ cs.length = n ∧ ∃ c ty z, w.heap[a.block]? = some (.cells c ty z) ∧ ∀ j, j < n → c[a.off + j]? = cs[j]? := by
  unfold World.cells? at h
  split at h
  · have hget : ∀ j, j < n → w.cell? (a.add j) = cs[j]? := by
      intro j hj
      have := mapM_some_get h j j (by simp [hj])
      exact this
    have hlen : cs.length = n := by simpa using mapM_some_length h
    have h0 := hget 0 hn
    have hlt : 0 < cs.length := by omega
    rw [List.getElem?_eq_getElem hlt] at h0
    have hb : ∃ c ty z, w.heap[a.block]? = some (.cells c ty z) ∧ a.spot = none := by
      unfold World.cell? at h0
      have e : (a.add 0).block = a.block := rfl
      rw [e] at h0
      split at h0
      · rename_i c ty z hz
        refine ⟨c, ty, z, hz, ?_⟩
        have e : (a.add 0).spot = a.spot := rfl
        rw [e] at h0
        cases hs : a.spot with
        | none => rfl
        | some x => rw [hs] at h0; simp at h0
      · cases h0
    obtain ⟨c, ty, z, hz, hs⟩ := hb
    refine ⟨hs, hlen, c, ty, z, hz, fun j hj => ?_⟩
    have := hget j hj
    unfold World.cell? at this
    have e1 : (a.add j).block = a.block := by unfold Addr.add; split <;> rfl
    have e2 : (a.add j).spot = none := by unfold Addr.add; split <;> first | exact hs | rfl
    have e3 : (a.add j).off = a.off + j := by unfold Addr.add; split <;> simp_all
    rw [e1, hz] at this
    simp only [e2, e3] at this
    simpa using this
  · cases h
end
end Go.Rk
