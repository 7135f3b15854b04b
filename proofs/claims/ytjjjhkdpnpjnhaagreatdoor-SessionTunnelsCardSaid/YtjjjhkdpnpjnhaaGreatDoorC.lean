/-
  Code, calls, deferred calls and range functions of the evaluator are right. No condition.
-/
import Derived.Test.YtjjjhkdpnpjnhaaGreatDoorB
import Derived.Calls
import Derived.AtR
import Derived.Defers
namespace Go.Rk
open Go
set_option linter.unusedVariables false
set_option linter.unusedSimpArgs false
set_option linter.constructorNameAsVariable false
set_option linter.unusedSectionVars false
variable [TabC]

def fat (b : Frame) (t : Array Value) (ds : List Deferred) (k : List Item) : Frame := { b with tmps := t, todo := k, defers := ds, mode := .run }
section moves
variable {P : Program} {b : Frame} {t : Array Value} {ds : List Deferred} {k : List Item} {cs : List Frame} {w : World}
theorem st_skip : step P (lone (fat b t ds (.code .skip :: k)) cs w) = .next (lone (fat b t ds k) cs w) := step_lone_go (by simp [stepG, stepG.exec, fat])
theorem st_label {l : Nat} : step P (lone (fat b t ds (.code (.label l) :: k)) cs w) = .next (lone (fat b t ds k) cs w) := step_lone_go (by simp [stepG, stepG.exec, fat])
theorem st_inBlock {i : Nat} : step P (lone (fat b t ds (.inBlock i :: k)) cs w) = .next (lone (fat b t ds k) cs w) := step_lone_go (by simp [stepG, stepG.exec, fat])
theorem st_inScope {c : Code} : step P (lone (fat b t ds (.inScope c :: k)) cs w) = .next (lone (fat b t ds k) cs w) := step_lone_go (by simp [stepG, stepG.exec, fat])
theorem st_seq {x y : Code} : step P (lone (fat b t ds (.code (.seq x y) :: k)) cs w) = .next (lone (fat b t ds (.code x :: .code y :: k)) cs w) := step_lone_go (by simp [stepG, stepG.exec, fat])
theorem st_block {i : Nat} {c : Code} : step P (lone (fat b t ds (.code (.block i c) :: k)) cs w) = .next (lone (fat b t ds (.code c :: .inBlock i :: k)) cs w) := step_lone_go (by simp [stepG, stepG.exec, fat])
theorem st_loop {c : Code} : step P (lone (fat b t ds (.code (.loop c) :: k)) cs w) = .next (lone (fat b t ds (.code c :: .inLoop c :: k)) cs w) := step_lone_go (by simp [stepG, stepG.exec, fat])
theorem st_inLoop {c : Code} : step P (lone (fat b t ds (.inLoop c :: k)) cs w) = .next (lone (fat b t ds (.code c :: .inLoop c :: k)) cs w) := step_lone_go (by simp [stepG, stepG.exec, fat])
theorem st_scope {c : Code} : step P (lone (fat b t ds (.code (.scope c) :: k)) cs w) = .next (lone (fat b t ds (.code c :: .inScope c :: k)) cs w) := step_lone_go (by simp [stepG, stepG.exec, fat])
theorem st_exit {i : Nat} {k' : List Item} (h : exitTo i k = some k') : step P (lone (fat b t ds (.code (.exit i) :: k)) cs w) = .next (lone (fat b t ds k') cs w) := step_lone_go (by simp [stepG, stepG.exec, fat, h])
theorem st_goto {l : Nat} {k' : List Item} (h : gotoIn l k = some k') : step P (lone (fat b t ds (.code (.goto l) :: k)) cs w) = .next (lone (fat b t ds k') cs w) := step_lone_go (by simp [stepG, stepG.exec, fat, h])
def evalT (t : Array Value) : Operand → Value
  | .tmp i => t.getD i undef
  | .const v => v
  | .global g => .pointer (some ⟨g, 0, none⟩)
  | .func f => .func (.func f) #[] #[]
theorem eval_fat : (fat b t ds k).eval = evalT t := by funext x; cases x <;> rfl
theorem st_cond {c : Operand} {x y : Code} {v : Bool} (h : evalT t c = .bool v) : step P (lone (fat b t ds (.code (.cond c x y) :: k)) cs w) = .next (lone (fat b t ds (.code (if v then x else y) :: k)) cs w) := by
  refine step_lone_go ?_
  have he : (fat b t ds (.code (.cond c x y) :: k)).eval c = .bool v := by rw [eval_fat]; exact h
  unfold fat at he ⊢
  simp [stepG, stepG.exec, he]
end moves

/-- the package's variables lie where they lie -/
def GL (P : Program) (σ : Sg) : Prop := ∀ g, g < P.globals.size → ∃ L, σ g 0 = some L ∧ L.blk = g ∧ L.sh = 0
theorem opd_ok {P : Program} {σ : Sg} {N : Nat} {e : T} {t : Array Value} (he : ER σ N e t) (hg : GL P σ) (x : Operand) : VR σ ((copd P x).ev e) (evalT t x) := by
  cases x with
  | tmp i =>
    show VR σ ((tmp i).ev e) (t.getD i undef)
    by_cases hi : i < 4294967296
    · rw [tmp_ev hi]; exact he.2 i hi
    · have : Nat.blt i 4294967296 = false := by
        cases h : Nat.blt i 4294967296 with
        | false => rfl
        | true => exact absurd (blt_iff.1 h) hi
      unfold tmp
      rw [this]; trivial
  | const v =>
    show VR σ ((match cval v with | some a => (⟨fun _ => a⟩ : Ev) | none => ⟨fun _ => .undef⟩).ev e) v
    cases h : cval v with
    | none => trivial
    | some a => exact cval_ok h
  | global g =>
    show VR σ ((bif Nat.blt g P.globals.size then (⟨fun _ => .ptr g 0 0⟩ : Ev) else ⟨fun _ => .undef⟩).ev e) _
    cases h : Nat.blt g P.globals.size with
    | false => trivial
    | true =>
      obtain ⟨L, hL, hb, hs⟩ := hg g (blt_iff.1 h)
      show VR σ (.ptr g 0 0) _
      simp only [VR]
      exact ⟨L, hL, by omega, by rw [hb, hs]; rfl⟩
  | func f =>
    show VR σ (.func f [] []) (.func (.func f) #[] #[])
    simp only [VR]
    exact ⟨_, _, rfl, VRs.nil, VRs.nil⟩

/-! the state of a frame -/
def DfR (σ : Sg) : List Dfr → List Deferred → Prop
  | [], l => l = []
  | .call v args :: r, l => ∃ d l', l = d :: l' ∧ DR σ v args d ∧ DfR σ r l'
  | .collected i :: r, l => ∃ L l', l = { target := .collected L.blk, args := #[] } :: l' ∧ σ i 0 = some L ∧ DfR σ r l'
theorem DfR.mono {σ σ' : Sg} (hs : σ.le σ') : ∀ {l : List Dfr} {m : List Deferred}, DfR σ l m → DfR σ' l m
  | [], _, h => h
  | .call v args :: r, _, h => by
    obtain ⟨d, l', h1, h2, h3⟩ := h
    exact ⟨d, l', h1, h2.mono hs, DfR.mono hs h3⟩
  | .collected i :: r, _, h => by
    obtain ⟨L, l', h1, h2, h3⟩ := h
    exact ⟨L, l', h1, hs _ _ _ h2, DfR.mono hs h3⟩
def RnR (σ : Sg) : Option Nat → Option Nat → Prop
  | none, x => x = none
  | some l, x => ∃ L, σ l 0 = some L ∧ x = some L.blk
theorem RnR.mono {σ σ' : Sg} (hs : σ.le σ') {a b : Option Nat} (h : RnR σ a b) : RnR σ' a b := by
  cases a with
  | none => exact h
  | some l => obtain ⟨L, h1, h2⟩ := h; exact ⟨L, hs _ _ _ h1, h2⟩
/-- what recover may find: the frame's kind, its callers -/
def RcR (σ : Sg) (kind : CallKind) : Rec → List Frame → Prop
  | none, _ => True
  | some none, cs => kind = .deferred ∧ ∃ c rest, cs = c :: rest ∧ ∀ v g older, c.mode ≠ .panicking ({ v, recovered := false, goexit := g } :: older)
  | some (some v), cs => kind = .deferred ∧ ∃ c rest cv older, cs = c :: rest ∧ c.mode = .panicking ({ v := cv, recovered := false } :: older) ∧ VR σ v cv
theorem RcR.mono {σ σ' : Sg} (hs : σ.le σ') {kind : CallKind} {r : Rec} {cs : List Frame} (h : RcR σ kind r cs) : RcR σ' kind r cs := by
  cases r with
  | none => exact h
  | some r => cases r with
    | none => exact h
    | some v => obtain ⟨h1, c, rest, cv, older, h2, h3, h4⟩ := h; exact ⟨h1, c, rest, cv, older, h2, h3, h4.mono hs⟩
/-- how the callers change: not, or a panic is recovered -/
def CsR (rc : Rec) (cs : List Frame) (rc' : Rec) (cs' : List Frame) : Prop :=
  (rc' = rc ∧ cs' = cs) ∨ (∃ v c rest cv older, rc = some (some v) ∧ rc' = some none ∧ cs = c :: rest ∧ c.mode = .panicking ({ v := cv, recovered := false } :: older) ∧ cs' = { c with mode := .panicking ({ v := cv, recovered := true } :: older) } :: rest)
theorem CsR.refl (rc : Rec) (cs : List Frame) : CsR rc cs rc cs := .inl ⟨rfl, rfl⟩
theorem CsR.trans {a b c : Rec} {x y z : List Frame} (h : CsR a x b y) (h' : CsR b y c z) : CsR a x c z := by
  rcases h with ⟨rfl, rfl⟩ | ⟨v, f, rest, cv, older, h1, h2, h3, h4, h5⟩
  · exact h'
  · rcases h' with ⟨rfl, rfl⟩ | ⟨v', f', rest', cv', older', h1', _⟩
    · exact .inr ⟨v, f, rest, cv, older, h1, h2, h3, h4, h5⟩
    · rw [h2] at h1'; cases h1'
structure SR (P : Program) (σ : Sg) (N : Nat) (b : Frame) (e : T) (h : Heap) (d : Ds) (t : Array Value) (ds : List Deferred) (cs : List Frame) (w : World) : Prop where
  er : ER σ N e t
  hr : HR P σ h.t.get w
  fr : Fresh σ h
  dm : Dom h
  gl : GL P σ
  df : DfR σ d.dfs ds
  rn : RnR σ d.rnd b.roundOf
  rc : RcR σ b.kind d.rc cs
  fo : ∃ f, P.funcs[b.fn]? = some f
theorem GL.mono {P : Program} {σ σ' : Sg} (hs : σ.le σ') (h : GL P σ) : GL P σ' := fun g hg => let ⟨L, h1, h2⟩ := h g hg; ⟨L, hs _ _ _ h1, h2⟩

/-- what is behind a result: the machine goes from m to where the result says -/
def XG (P : Program) (σ : Sg) (N : Nat) (b : Frame) (h : Heap) (w : World) (rc : Rec) (cs : List Frame) (m : Machine) (e' : T) (h' : Heap) (d' : Ds) (end' : Array Value → List Deferred → List Frame → World → Machine) (Q : Sg → Prop) : Prop :=
  ∃ σ' t ds cs' w', Steps P m (end' t ds cs' w') ∧ SR P σ' N b e' h' d' t ds cs' w' ∧ Aft P σ h w σ' h' w' ∧ CsR rc cs d'.rc cs' ∧ Q σ'
def XOK (P : Program) (σ : Sg) (N : Nat) (b : Frame) (h : Heap) (w : World) (rc : Rec) (cs : List Frame) (k : List Item) (m : Machine) : XR → Prop
  | .fail => True
  | .nrm e' h' d' => XG P σ N b h w rc cs m e' h' d' (fun t ds cs w => lone (fat b t ds k) cs w) (fun _ => True)
  | .exit i e' h' d' => ∃ k', exitTo i k' = exitTo i k ∧ XG P σ N b h w rc cs m e' h' d' (fun t ds cs w => lone (fat b t ds (.code (.exit i) :: k')) cs w) (fun _ => True)
  | .goto l e' h' d' => ∃ k', gotoIn l k' = gotoIn l k ∧ XG P σ N b h w rc cs m e' h' d' (fun t ds cs w => lone (fat b t ds (.code (.goto l) :: k')) cs w) (fun _ => True)
  | .ret e' h' d' => ∃ k', XG P σ N b h w rc cs m e' h' d' (fun t ds cs w => lone (fat b t ds (.code .ret :: k')) cs w) (fun _ => True)
  | .pan v e' h' d' => ∃ k' cv, XG P σ N b h w rc cs m e' h' d' (fun t ds cs w => lone { fat b t ds k' with mode := .panicking [{ v := cv, recovered := false }] } cs w) (fun σ' => VR σ' v cv)
theorem XG.after {P : Program} {σ σ1 : Sg} {N : Nat} {b : Frame} {h h1 : Heap} {w w1 : World} {rc rc1 : Rec} {cs cs1 : List Frame} {m m1 : Machine} {e' : T} {h' : Heap} {d' : Ds} {end' : Array Value → List Deferred → List Frame → World → Machine} {Q : Sg → Prop}
    (hs : Steps P m m1) (ha : Aft P σ h w σ1 h1 w1) (hc : CsR rc cs rc1 cs1) (hx : XG P σ1 N b h1 w1 rc1 cs1 m1 e' h' d' end' Q) : XG P σ N b h w rc cs m e' h' d' end' Q := by
  obtain ⟨σ', t, ds, cs', w', x1, x2, x3, x4, x5⟩ := hx
  exact ⟨σ', t, ds, cs', w', hs.trans x1, x2, ha.trans x3, hc.trans x4, x5⟩
theorem XOK.after {P : Program} {σ σ1 : Sg} {N : Nat} {b : Frame} {h h1 : Heap} {w w1 : World} {rc rc1 : Rec} {cs cs1 : List Frame} {k : List Item} {m m1 : Machine} {x : XR}
    (hs : Steps P m m1) (ha : Aft P σ h w σ1 h1 w1) (hc : CsR rc cs rc1 cs1) (hx : XOK P σ1 N b h1 w1 rc1 cs1 k m1 x) : XOK P σ N b h w rc cs k m x := by
  cases x with
  | fail => trivial
  | nrm e h d => exact XG.after hs ha hc hx
  | exit i e h d => obtain ⟨k', h1, h2⟩ := hx; exact ⟨k', h1, h2.after hs ha hc⟩
  | goto i e h d => obtain ⟨k', h1, h2⟩ := hx; exact ⟨k', h1, h2.after hs ha hc⟩
  | ret e h d => obtain ⟨k', h2⟩ := hx; exact ⟨k', h2.after hs ha hc⟩
  | pan v e h d => obtain ⟨k', cv, h2⟩ := hx; exact ⟨k', cv, h2.after hs ha hc⟩

section
variable {P : Program} {σ : Sg} {N : Nat} {b : Frame} {h : Heap} {w : World} {rc : Rec} {cs : List Frame} {k k1 : List Item} {m : Machine}
theorem XOK.andThen {x : XR} {f : T → Heap → Ds → XR} (hp : ∀ i, exitTo i k1 = exitTo i k) (hg : ∀ l, gotoIn l k1 = gotoIn l k) (hx : XOK P σ N b h w rc cs k1 m x)
    (hk : ∀ σ' e' h' d' t ds cs' w', SR P σ' N b e' h' d' t ds cs' w' → XOK P σ' N b h' w' d'.rc cs' k (lone (fat b t ds k1) cs' w') (f e' h' d')) : XOK P σ N b h w rc cs k m (x.andThen f) := by
  cases x with
  | fail => trivial
  | nrm e' h' d' =>
    obtain ⟨σ', t, ds, cs', w', x1, x2, x3, x4, _⟩ := hx
    exact XOK.after x1 x3 x4 (hk _ _ _ _ _ _ _ _ x2)
  | exit i e h d => obtain ⟨k', h1, h2⟩ := hx; exact ⟨k', h1.trans (hp i), h2⟩
  | goto i e h d => obtain ⟨k', h1, h2⟩ := hx; exact ⟨k', h1.trans (hg i), h2⟩
  | ret e h d => obtain ⟨k', h2⟩ := hx; exact ⟨k', h2⟩
  | pan v e h d => obtain ⟨k', cv, h2⟩ := hx; exact ⟨k', cv, h2⟩
/-- a piece of code is done rightly -/
def KOK (P : Program) (F : Fns) (N : Nat) (c : Code) (K : K) : Prop :=
  ∀ σ b e h d t ds cs w k, SR P σ N b e h d t ds cs w → XOK P σ N b h w d.rc cs k (lone (fat b t ds (.code c :: k)) cs w) (K.run F e h d)
theorem nrm_ok {e : T} {d : Ds} {t : Array Value} {ds : List Deferred} {w0 : World} (hs : SR P σ N b e h d t ds cs w) (hm : Steps P m (lone (fat b t ds k) cs w)) : XOK P σ N b h w d.rc cs k m (.nrm e h d) :=
  ⟨σ, t, ds, cs, w, hm, hs, Aft.refl hs.hr, CsR.refl _ _, trivial⟩
theorem skip_ok {F : Fns} : KOK P F N .skip kNil := fun σ b e h d t ds cs w k hs => nrm_ok (w0 := w) hs (.one st_skip)
theorem label_ok {F : Fns} {l : Nat} : KOK P F N (.label l) kNil := fun σ b e h d t ds cs w k hs => nrm_ok (w0 := w) hs (.one st_label)
theorem fail_code {F : Fns} {c : Code} : KOK P F N c kFail := fun _ _ _ _ _ _ _ _ _ _ _ => trivial
theorem exit_ok {F : Fns} {i : Nat} : KOK P F N (.exit i) (kExit i) := fun σ b e h d t ds cs w k hs => ⟨k, rfl, σ, t, ds, cs, w, .refl _ _, hs, Aft.refl hs.hr, CsR.refl _ _, trivial⟩
theorem goto_ok {F : Fns} {i : Nat} : KOK P F N (.goto i) (kGoto i) := fun σ b e h d t ds cs w k hs => ⟨k, rfl, σ, t, ds, cs, w, .refl _ _, hs, Aft.refl hs.hr, CsR.refl _ _, trivial⟩
theorem ret_ok {F : Fns} : KOK P F N .ret kRet := fun σ b e h d t ds cs w k hs => ⟨k, σ, t, ds, cs, w, .refl _ _, hs, Aft.refl hs.hr, CsR.refl _ _, trivial⟩
theorem seq_ok {F : Fns} {x y : Code} {A B : K} (ha : KOK P F N x A) (hb : KOK P F N y B) : KOK P F N (.seq x y) (kSeq A B) := by
  intro σ b e h d t ds cs w k hs
  refine XOK.after (.one st_seq) (Aft.refl hs.hr) (CsR.refl _ _) ?_
  exact XOK.andThen (k1 := .code y :: k) (fun _ => rfl) (fun _ => rfl) (ha _ _ _ _ _ _ _ _ _ _ hs) fun σ' e' h' d' t' ds' cs' w' hs' => hb _ _ _ _ _ _ _ _ _ _ hs'
theorem cond_ok {F : Fns} {c : Operand} {x y : Code} {A B : K} (ha : KOK P F N x A) (hb : KOK P F N y B) : KOK P F N (.cond c x y) (kCond (copd P c) A B) := by
  intro σ b e h d t ds cs w k hs
  show XOK P σ N b h w d.rc cs k _ (condX ((copd P c).ev e) (A.run F e h d) (B.run F e h d))
  have hc := opd_ok hs.er hs.gl c
  cases hv : (copd P c).ev e <;> try trivial
  rename_i v
  rw [hv] at hc
  simp only [VR] at hc
  refine XOK.after (.one (st_cond hc)) (Aft.refl hs.hr) (CsR.refl _ _) ?_
  cases v with
  | true => exact ha _ _ _ _ _ _ _ _ _ _ hs
  | false => exact hb _ _ _ _ _ _ _ _ _ _ hs
theorem block_ok {F : Fns} {i : Nat} {x : Code} {A : K} (ha : KOK P F N x A) : KOK P F N (.block i x) (kBlock i A) := by
  intro σ b e h d t ds cs w k hs
  refine XOK.after (.one st_block) (Aft.refl hs.hr) (CsR.refl _ _) ?_
  have hx := ha σ b e h d t ds cs w (.inBlock i :: k) hs
  show XOK P σ N b h w d.rc cs k _ (inBlock i (A.run F e h d))
  cases hr : A.run F e h d <;> rw [hr] at hx
  · obtain ⟨σ', t', ds', cs', w', x1, x2, x3, x4, _⟩ := hx
    exact ⟨σ', t', ds', cs', w', x1.trans (.one st_inBlock), x2, x3, x4, trivial⟩
  · rename_i j e' h' d'
    obtain ⟨k', h1, σ', t', ds', cs', w', x1, x2, x3, x4, _⟩ := hx
    show XOK P σ N b h w d.rc cs k _ (bif Nat.beq j i then .nrm e' h' d' else .exit j e' h' d')
    cases hj : Nat.beq j i with
    | true =>
      have := Nat.eq_of_beq_eq_true hj; subst this
      have hk : exitTo j k' = some k := by rw [h1]; simp [exitTo]
      exact ⟨σ', t', ds', cs', w', x1.trans (.one (st_exit hk)), x2, x3, x4, trivial⟩
    | false =>
      have hne : ¬ i = j := fun h => by subst h; simp at hj
      have hk : exitTo j k' = exitTo j k := by rw [h1]; simp [exitTo, hne]
      exact ⟨k', hk, σ', t', ds', cs', w', x1, x2, x3, x4, trivial⟩
  · obtain ⟨k', h1, h2⟩ := hx; exact ⟨k', h1, h2⟩
  · exact hx
  · exact hx
  · trivial
theorem loop_ok {F : Fns} {x : Code} {A : K} (ha : KOK P F N x A) : KOK P F N (.loop x) (kLoop A) := by
  intro σ b e h d t ds cs w k hs
  refine XOK.after (.one st_loop) (Aft.refl hs.hr) (CsR.refl _ _) ?_
  show XOK P σ N b h w d.rc cs k _ (loopN F.fuel (A.run F) e h d)
  generalize F.fuel = n
  induction n generalizing σ e h d t ds cs w with
  | zero => trivial
  | succ n ih =>
    show XOK P σ N b h w d.rc cs k _ ((A.run F e h d).andThen (loopN n (A.run F)))
    refine XOK.andThen (k1 := .inLoop x :: k) (fun _ => rfl) (fun _ => rfl) (ha _ _ _ _ _ _ _ _ _ _ hs) fun σ' e' h' d' t' ds' cs' w' hs' => ?_
    exact XOK.after (.one st_inLoop) (Aft.refl hs'.hr) (CsR.refl _ _) (ih _ _ _ _ _ _ _ _ hs')

def FindOK (P : Program) (F : Fns) (N : Nat) (c : Code) (find : Nat → Option K) : Prop := ∀ l, match find l with
  | some K => ∃ c', findLabel c l = some c' ∧ KOK P F N c' K
  | none => findLabel c l = none
theorem scope_ok {F : Fns} {x : Code} {A : K} {find : Nat → Option K} (ha : KOK P F N x A) (hf : FindOK P F N x find) : KOK P F N (.scope x) (kScope find A) := by
  intro σ b e h d t ds cs w k hs
  refine XOK.after (.one st_scope) (Aft.refl hs.hr) (CsR.refl _ _) ?_
  have hx := ha σ b e h d t ds cs w (.inScope x :: k) hs
  show XOK P σ N b h w d.rc cs k _ (scopeN F.fuel find F (A.run F e h d))
  generalize A.run F e h d = r at hx
  generalize d.rc = rc at hx
  generalize lone (fat b t ds (.code x :: .inScope x :: k)) cs w = m at hx
  clear hs
  generalize F.fuel = n
  induction n generalizing σ h w rc cs m r with
  | zero => trivial
  | succ n ih =>
    cases r with
    | fail => trivial
    | nrm e' h' d' =>
      obtain ⟨σ', t', ds', cs', w', x1, x2, x3, x4, _⟩ := hx
      exact ⟨σ', t', ds', cs', w', x1.trans (.one st_inScope), x2, x3, x4, trivial⟩
    | exit j e' h' d' => obtain ⟨k', h1, h2⟩ := hx; exact ⟨k', h1, h2⟩
    | ret e' h' d' => exact hx
    | pan v e' h' d' => exact hx
    | goto l e' h' d' =>
      obtain ⟨k', h1, σ', t', ds', cs', w', x1, x2, x3, x4, _⟩ := hx
      show XOK P σ N b h w rc cs k m (match find l with
        | some K => scopeN n find F (K.run F e' h' d')
        | none => .goto l e' h' d')
      have hl := hf l
      cases hfl : find l with
      | none =>
        rw [hfl] at hl
        simp only [] at hl
        exact ⟨k', by rw [h1]; simp [gotoIn, hl], σ', t', ds', cs', w', x1, x2, x3, x4, trivial⟩
      | some K =>
        rw [hfl] at hl
        obtain ⟨c', hc', hK⟩ := hl
        have hg : gotoIn l k' = some (.code c' :: .inScope x :: k) := by rw [h1]; simp [gotoIn, hc']
        exact XOK.after (x1.trans (.one (st_goto hg))) x3 x4 (ih _ _ _ _ _ _ _ (hK _ _ _ _ _ _ _ _ _ (.inScope x :: k) x2))
/-- code: all but regions and range functions -/
theorem comp_ok {F : Fns} (hreg : ∀ i ops draw, KOK P F N (.region i ops draw) (comp P N (.region i ops draw))) (hrange : ∀ f ps a b, KOK P F N (.rangeFunc f ps a b) (comp P N (.rangeFunc f ps a b))) :
    ∀ c : Code, KOK P F N c (comp P N c) ∧ FindOK P F N c (compFind P N c)
  | .skip => ⟨by rw [comp]; exact skip_ok, fun l => by rw [compFind]; rfl; all_goals simp⟩
  | .label l' => ⟨by rw [comp]; exact label_ok, fun l => by
      rw [compFind]
      by_cases hl : (l' == l) = true
      · rw [if_pos hl]; exact ⟨.skip, by rw [findLabel, if_pos hl], skip_ok⟩
      · rw [if_neg hl]; simp only [findLabel, if_neg hl]⟩
  | .region i ops draw => ⟨hreg i ops draw, fun l => by rw [compFind]; rfl; all_goals simp⟩
  | .seq x y => by
    obtain ⟨hx, fx⟩ := comp_ok hreg hrange x
    obtain ⟨hy, fy⟩ := comp_ok hreg hrange y
    refine ⟨by rw [comp]; exact seq_ok hx hy, fun l => ?_⟩
    rw [compFind]
    have h1 := fx l
    cases hf : compFind P N x l with
    | some K =>
      rw [hf] at h1
      obtain ⟨c', h2, h3⟩ := h1
      exact ⟨.seq c' y, by simp [findLabel, h2], seq_ok h3 hy⟩
    | none =>
      rw [hf] at h1
      simp only [] at h1
      have h2 := fy l
      cases hg : compFind P N y l with
      | some K =>
        rw [hg] at h2
        obtain ⟨c', h3, h4⟩ := h2
        exact ⟨c', by simp [findLabel, h1, h3], h4⟩
      | none =>
        rw [hg] at h2
        simp only [] at h2
        simp only [findLabel, h1, h2]
  | .cond c x y => ⟨by rw [comp]; exact cond_ok (comp_ok hreg hrange x).1 (comp_ok hreg hrange y).1, fun l => by rw [compFind]; rfl; all_goals simp⟩
  | .block i x => ⟨by rw [comp]; exact block_ok (comp_ok hreg hrange x).1, fun l => by rw [compFind]; rfl; all_goals simp⟩
  | .loop x => ⟨by rw [comp]; exact loop_ok (comp_ok hreg hrange x).1, fun l => by rw [compFind]; rfl; all_goals simp⟩
  | .rangeFunc f ps x y => ⟨hrange f ps x y, fun l => by rw [compFind]; rfl; all_goals simp⟩
  | .exit i => ⟨by rw [comp]; exact exit_ok, fun l => by rw [compFind]; rfl; all_goals simp⟩
  | .scope x => ⟨by rw [comp]; exact scope_ok (comp_ok hreg hrange x).1 (comp_ok hreg hrange x).2, fun l => by rw [compFind]; rfl; all_goals simp⟩
  | .goto l => ⟨by rw [comp]; exact goto_ok, fun l => by rw [compFind]; rfl; all_goals simp⟩
  | .ret => ⟨by rw [comp]; exact ret_ok, fun l => by rw [compFind]; rfl; all_goals simp⟩
  | .refuse s => ⟨by rw [comp]; exact fail_code, fun l => by rw [compFind]; rfl; all_goals simp⟩
end
end Go.Rk

namespace Go.Rk
open Go
set_option linter.unusedVariables false
set_option linter.unusedSimpArgs false
set_option linter.constructorNameAsVariable false
set_option linter.unusedSectionVars false
variable [TabC]
section moves
variable {P : Program} {b : Frame} {t : Array Value} {ds : List Deferred} {k : List Item} {cs : List Frame} {w : World} {ops : Array Oper}
theorem fat_atR : fat b t ds k = b.atR ⟨t, ds⟩ k := rfl
theorem st_region {id : Nat} : step P (lone (fat b t ds (.code (.region id ops false) :: k)) cs w) = .next (lone (fat b t ds (.inRegion ops (List.range ops.size) :: k)) cs w) := step_lone_go (by simp [stepG, stepG.exec, fat])
theorem st_regEnd : step P (lone (fat b t ds (.inRegion ops [] :: k)) cs w) = .next (lone (fat b t ds k) cs w) := step_lone_go (by simp [stepG, stepG.exec, fat])
def setD (t : Array Value) (dst : Option Nat) (v : Value) : Array Value := match dst with
  | some d => t.setIfInBounds d v
  | none => t
theorem fin_fat {i : Nat} {rest : List Nat} {o : Oper} {v : Value} (ho : ops[i]? = some o) : (fat b t ds (.inRegion ops (i :: rest) :: k)).finish v = fat b (setD t o.dst v) ds (.inRegion ops rest :: k) := by
  simp [Frame.finish, fat, ho, setD]
  cases o.dst <;> rfl
theorem st_opskip {i : Nat} {rest : List Nat} {o : Oper} (ho : ops[i]? = some o) (hw : Region.wanted o (yielded ops t) = false) :
    step P (lone (fat b t ds (.inRegion ops (i :: rest) :: k)) cs w) = .next (lone (fat b (setD t o.dst undef) ds (.inRegion ops rest :: k)) cs w) := by
  refine step_lone_go ?_
  rw [← fin_fat ho]
  have hw' : Region.wanted o (yielded ops (fat b t ds (.inRegion ops (i :: rest) :: k)).tmps) = false := hw
  simp only [fat] at hw' ⊢
  simp [stepG, stepG.exec, ho, hw']
theorem st_op {i : Nat} {rest : List Nat} {o : Oper} {v : Value} {n : Next} {w' : World} (ho : ops[i]? = some o) (hw : Region.wanted o (yielded ops t) = true) (hr : (o.semAt b.roundOf (evalT t)).run P w = .ok n w') (hn : IsVal n v) :
    step P (lone (fat b t ds (.inRegion ops (i :: rest) :: k)) cs w) = .next (lone (fat b (setD t o.dst v) ds (.inRegion ops rest :: k)) cs w') := by
  refine step_lone_go ?_
  rw [← fin_fat ho]
  have he : evalT t = (Act.mk t ds).eval := by funext x; cases x <;> rfl
  rw [he] at hr
  rw [fat_atR, stepGR_op ho hw]
  rcases hn with rfl | ⟨rfl, rfl⟩
  · simp [stepG.apply, Sem.runT_eq, hr, Frame.atR]
  · simp [stepG.apply, Sem.runT_eq, hr, Frame.atR]
end moves
end Go.Rk

namespace Go.Rk
open Go
set_option linter.unusedVariables false
set_option linter.unusedSimpArgs false
set_option linter.constructorNameAsVariable false
set_option linter.unusedSectionVars false
variable [TabC]
section
variable {P : Program} {σ σ' : Sg} {N : Nat} {b : Frame} {h h' : Heap} {w w' : World} {e : T} {d : Ds} {t : Array Value} {ds : List Deferred} {cs : List Frame}
theorem SR.op (hs : SR P σ N b e h d t ds cs w) (ha : Aft P σ h w σ' h' w') {dst : Option Nat} (hN : N < 4294967296) (hd : dstOk N dst = true) {v : AV} {c : Value} (hv : VR σ' v c) : SR P σ' N b ((seOf dst).se e v) h' d (setD t dst c) ds cs w' := by
  refine ⟨?_, ha.hr, ha.fresh hs.fr hs.dm, ha.domOk hs.dm, hs.gl.mono ha.le, hs.df.mono ha.le, hs.rn.mono ha.le, hs.rc.mono ha.le, hs.fo⟩
  cases dst with
  | none => exact hs.er.mono ha.le
  | some i => exact (hs.er.mono ha.le).put (blt_iff.1 hd) hN hv
theorem SR.fresh1 (hs : SR P σ N b e h d t ds cs w) : ∀ k, σ h.next k = none := fun k => hs.fr _ k (Nat.le_refl _)
end

/-- a frame that leaves with a value, or with a panic -/
def RetF (P : Program) (fr : Frame) (w : World) (c : Value) : Prop := fr.mode = .returning ∧ fr.defers = [] ∧ ∃ fn, P.funcs[fr.fn]? = some fn ∧ (results fn fr.tmps).run P w = .ok c w
def PanF (P : Program) (fr : Frame) (c : Value) : Prop := fr.mode = .panicking [{ v := c, recovered := false }] ∧ fr.defers = [] ∧ ∃ fn, P.funcs[fr.fn]? = some fn
structure Base (P : Program) (σ : Sg) (h : Heap) (w : World) : Prop where
  hr : HR P σ h.t.get w
  fr : Fresh σ h
  dm : Dom h
  gl : GL P σ
theorem SR.base {P : Program} {σ : Sg} {N : Nat} {b : Frame} {h : Heap} {w : World} {e : T} {d : Ds} {t : Array Value} {ds : List Deferred} {cs : List Frame} (hs : SR P σ N b e h d t ds cs w) : Base P σ h w := ⟨hs.hr, hs.fr, hs.dm, hs.gl⟩
/-- calls are done rightly -/
def CallOK (P : Program) (F : Fns) : Prop := ∀ (σ : Sg) (f : Nat) (args : List AV) (ca : Array Value) (h : Heap) (w : World) (rc : Rec) (kind : CallKind) (cs : List Frame),
  Base P σ h w → VRs σ args ca.toList → RcR σ kind rc cs → kind = .normal ∨ kind = .deferred →
  match F.call f args rc h with
  | .fail => True
  | .ret v h' rc' => ∃ σ' c fr cs' w', Steps P (lone (Frame.enter P f ca kind) cs w) (lone fr cs' w') ∧ RetF P fr w' c ∧ fr.kind = kind ∧ fr.fn = f ∧ VR σ' v c ∧ Aft P σ h w σ' h' w' ∧ CsR rc cs rc' cs'
  | .pan v h' rc' => ∃ σ' c fr cs' w', Steps P (lone (Frame.enter P f ca kind) cs w) (lone fr cs' w') ∧ PanF P fr c ∧ fr.kind = kind ∧ fr.fn = f ∧ VR σ' v c ∧ Aft P σ h w σ' h' w' ∧ CsR rc cs rc' cs'
/-- a round that a function asks for is done rightly: the caller's frame goes on with the answer, or a panic -/
def RndOK (P : Program) (F : Fns) : Prop := ∀ (σ : Sg) (l : Nat) (L : Loc) (args : List AV) (ca : Array Value) (h : Heap) (w : World) (c : Frame) (cs : List Frame) (m : Machine),
  Base P σ h w → σ l 0 = some L → VRs σ args ca.toList → (∀ lf f tmps as bd w1, (Instr.yield L.blk ca).run P w = .ok (.round lf f tmps as bd) w1 → step P m = .next (lone (Frame.round lf f tmps as bd .normal) (c :: cs) w1)) →
  match F.rnd l args h with
  | .fail => True
  | .ret v h' _ => ∃ σ' x w', Steps P m (lone (c.finish x) cs w') ∧ VR σ' v x ∧ Aft P σ h w σ' h' w'
  | .pan v h' _ => ∃ σ' x w', Steps P m (lone (c.raise [{ v := x, recovered := false }]) cs w') ∧ VR σ' v x ∧ Aft P σ h w σ' h' w'
end Go.Rk

namespace Go.Rk
open Go
set_option linter.unusedVariables false
set_option linter.unusedSimpArgs false
set_option linter.constructorNameAsVariable false
set_option linter.unusedSectionVars false
variable [TabC]
section moves
variable {P : Program} {b : Frame} {t : Array Value} {ds : List Deferred} {k : List Item} {cs : List Frame} {w : World} {ops : Array Oper} {i : Nat} {rest : List Nat} {o : Oper}
theorem ev_act : evalT t = (Act.mk t ds).eval := by funext x; cases x <;> rfl
theorem st_pan {v : Value} {w' : World} (ho : ops[i]? = some o) (hw : Region.wanted o (yielded ops t) = true) (hr : (o.semAt b.roundOf (evalT t)).run P w = .halt (.panic v) w') :
    step P (lone (fat b t ds (.inRegion ops (i :: rest) :: k)) cs w) = .next (lone { fat b t ds (.inRegion ops (i :: rest) :: k) with mode := .panicking [{ v, recovered := false }] } cs w') := by
  refine step_lone_go ?_
  rw [ev_act (ds := ds)] at hr
  rw [fat_atR, stepGR_op ho hw]
  simp [stepG.apply, Sem.runT_eq, hr, Frame.atR, Frame.raise]
theorem st_enter {f : Nat} {args : Array Value} {w' : World} (ho : ops[i]? = some o) (hw : Region.wanted o (yielded ops t) = true) (hr : (o.semAt b.roundOf (evalT t)).run P w = .ok (.enter f args) w') :
    step P (lone (fat b t ds (.inRegion ops (i :: rest) :: k)) cs w) = .next (lone (Frame.enter P f args .normal) (fat b t ds (.inRegion ops (i :: rest) :: k) :: cs) w') := by
  refine step_lone_go ?_
  rw [ev_act (ds := ds)] at hr
  rw [fat_atR, stepGR_op ho hw]
  simp [stepG.apply, Sem.runT_eq, hr, Frame.atR]
theorem st_round {l f : Nat} {tm : Array Value} {as bd : Code} {w' : World} (ho : ops[i]? = some o) (hw : Region.wanted o (yielded ops t) = true) (hr : (o.semAt b.roundOf (evalT t)).run P w = .ok (.round l f tm as bd) w') :
    step P (lone (fat b t ds (.inRegion ops (i :: rest) :: k)) cs w) = .next (lone (Frame.round l f tm as bd .normal) (fat b t ds (.inRegion ops (i :: rest) :: k) :: cs) w') := by
  refine step_lone_go ?_
  rw [ev_act (ds := ds)] at hr
  rw [fat_atR, stepGR_op ho hw]
  simp [stepG.apply, Sem.runT_eq, hr, Frame.atR]
theorem st_dfr {x : Deferred} {w' : World} (ho : ops[i]? = some o) (hw : Region.wanted o (yielded ops t) = true) (hr : (o.semAt b.roundOf (evalT t)).run P w = .ok (.defer x) w') :
    step P (lone (fat b t ds (.inRegion ops (i :: rest) :: k)) cs w) = .next (lone (fat b (setD t o.dst undef) (x :: ds) (.inRegion ops rest :: k)) cs w') := by
  refine step_lone_go ?_
  rw [ev_act (ds := ds)] at hr
  rw [← fin_fat (ds := x :: ds) ho]
  rw [fat_atR, stepGR_op ho hw]
  simp [stepG.apply, Sem.runT_eq, hr, Frame.atR, fat]
theorem st_rcv {x : Value} {cs' : List Frame} {w' : World} (ho : ops[i]? = some o) (hw : Region.wanted o (yielded ops t) = true) (hr : (o.semAt b.roundOf (evalT t)).run P w = .ok .recover w') (hb : b.roundOf = none)
    (hx : (match tryRecover (fat b t ds (.inRegion ops (i :: rest) :: k)) cs with | some (v, c) => (v, c) | none => (.nilIface, cs)) = (x, cs')) :
    step P (lone (fat b t ds (.inRegion ops (i :: rest) :: k)) cs w) = .next (lone (fat b (setD t o.dst x) ds (.inRegion ops rest :: k)) cs' w') := by
  refine step_lone_go ?_
  rw [ev_act (ds := ds)] at hr
  rw [← fin_fat ho]
  rw [fat_atR] at hx ⊢
  rw [stepGR_op ho hw]
  simp only [stepG.apply, Sem.runT_eq, hr]
  simp only [Frame.atR, hb] at hx ⊢
  revert hx
  generalize tryRecover _ cs = y
  intro hx
  cases y <;> simp at hx ⊢ <;> simp [hx]
end moves
end Go.Rk

namespace Go.Rk
open Go
set_option linter.unusedVariables false
set_option linter.unusedSimpArgs false
set_option linter.constructorNameAsVariable false
set_option linter.unusedSectionVars false
variable [TabC]
section
variable {P : Program} {N : Nat} {F : Fns}
theorem defer_run {e : T} {h : Heap} {o : Op} {c : Call} (ho : o = .defer c) : (cop P o).run e h = .fail ∨ ∃ v args, (cop P o).run e h = .dfr v args := by
  subst ho
  unfold cop
  simp only []
  split
  · rename_i g hg
    show isFn _ _ = _ ∨ ∃ v args, isFn _ _ = _
    unfold isFn
    split
    · exact .inr ⟨_, _, rfl⟩
    · exact .inl rfl
  · exact .inl rfl
theorem dfr_ok {ops : Array Oper} {i : Nat} {rest : List Nat} {o : Oper} {R : K} (hN : N < 4294967296) (ho : ops[i]? = some o) (hd : dstOk N o.dst = true)
    (hrest : ∀ σ b e h d t ds cs w k, SR P σ N b e h d t ds cs w → XOK P σ N b h w d.rc cs k (lone (fat b t ds (.inRegion ops rest :: k)) cs w) (R.run F e h d))
    (σ : Sg) (b : Frame) (e : T) (h : Heap) (d : Ds) (t : Array Value) (ds : List Deferred) (cs : List Frame) (w : World) (k : List Item) (hs : SR P σ N b e h d t ds cs w) (hw : Region.wanted o (yielded ops t) = true)
    {v : AV} {args : List AV} (hop : OSd P σ h w (execOp (evalT t) o) (.dfr v args)) :
    XOK P σ N b h w d.rc cs k (lone (fat b t ds (.inRegion ops (i :: rest) :: k)) cs w) (dfrK d v args fun d => R.run F ((seOf o.dst).se e (.tup [])) h d) := by
  obtain ⟨x, hx, hdr⟩ := hop
  have hrn := hs.rn
  unfold dfrK
  cases hr : d.rnd with
  | some l => trivial
  | none =>
    rw [hr] at hrn
    have hb : b.roundOf = none := hrn
    have hx' : (o.semAt b.roundOf (evalT t)).run P w = .ok (.defer x) w := by rw [hb]; exact hx
    have h1 := hs.op (Aft.refl hs.hr) hN hd (v := .tup []) (c := undef) (by simp only [VR]; exact ⟨#[], rfl, VRs.nil⟩)
    refine XOK.after (.one (st_dfr ho hw hx')) (Aft.refl hs.hr) (rc1 := d.rc) (CsR.refl _ _) (hrest _ _ _ _ _ _ _ _ _ _ ⟨h1.er, h1.hr, h1.fr, h1.dm, h1.gl, ⟨_, _, rfl, hdr, hs.df⟩, hrn, hs.rc, hs.fo⟩)
theorem rcv_ok {ops : Array Oper} {i : Nat} {rest : List Nat} {o : Oper} {R : K} (hN : N < 4294967296) (ho : ops[i]? = some o) (hd : dstOk N o.dst = true)
    (hrest : ∀ σ b e h d t ds cs w k, SR P σ N b e h d t ds cs w → XOK P σ N b h w d.rc cs k (lone (fat b t ds (.inRegion ops rest :: k)) cs w) (R.run F e h d))
    (σ : Sg) (b : Frame) (e : T) (h : Heap) (d : Ds) (t : Array Value) (ds : List Deferred) (cs : List Frame) (w : World) (k : List Item) (hs : SR P σ N b e h d t ds cs w) (hw : Region.wanted o (yielded ops t) = true)
    (hop : (o.semAt b.roundOf (evalT t)).run P w = .ok .recover w) :
    XOK P σ N b h w d.rc cs k (lone (fat b t ds (.inRegion ops (i :: rest) :: k)) cs w) (rcvK d fun v d => R.run F ((seOf o.dst).se e v) h d) := by
  have hrn := hs.rn
  have hrc := hs.rc
  unfold rcvK
  cases hr : d.rnd with
  | some l => cases d.rc <;> trivial
  | none =>
    rw [hr] at hrn
    have hb : b.roundOf = none := hrn
    cases hc : d.rc with
    | none => trivial
    | some r =>
      rw [hc] at hrc
      cases r with
      | none =>
        obtain ⟨hk, c, rest', rfl, hm⟩ := hrc
        have hx : tryRecover (fat b t ds (.inRegion ops (i :: rest) :: k)) (c :: rest') = none := by
          unfold tryRecover fat
          simp only [hk]
          split
          · rename_i v older h1; exact absurd h1 (hm _ _ _)
          · rfl
        have h1 := hs.op (Aft.refl hs.hr) hN hd (v := .nilIface) (c := .nilIface) (by simp only [VR])
        have h2 := hrest σ b _ h d _ ds (c :: rest') w k h1
        rw [hc] at h2
        exact XOK.after (.one (st_rcv ho hw hop hb (by rw [hx]))) (Aft.refl hs.hr) (CsR.refl _ _) h2
      | some v =>
        obtain ⟨hk, c, rest', cv, older, rfl, hm, hv⟩ := hrc
        have hx : tryRecover (fat b t ds (.inRegion ops (i :: rest) :: k)) (c :: rest') = some (cv, { c with mode := .panicking ({ v := cv, recovered := true } :: older) } :: rest') := by
          unfold tryRecover fat
          simp only [hk, hm]
        have h1 := hs.op (Aft.refl hs.hr) hN hd (v := v) (c := cv) hv
        have h2 := hrest σ b _ h { dfs := d.dfs, rc := some none, rnd := none } _ ds ({ c with mode := .panicking ({ v := cv, recovered := true } :: older) } :: rest') w k
          ⟨h1.er, h1.hr, h1.fr, h1.dm, h1.gl, h1.df, hrn, ⟨hk, _, _, rfl, by intro v g older; simp⟩, hs.fo⟩
        exact XOK.after (.one (st_rcv ho hw hop hb (by rw [hx]))) (Aft.refl hs.hr) (.inr ⟨v, c, rest', cv, older, rfl, rfl, rfl, hm, rfl⟩) h2
/-- one operation that is carried out; R: what stands behind it -/
theorem kOp_ok (hN : N < 4294967296) (hG : ∀ f args rc h, F.call f args rc h ≠ .fail → ∃ fn, P.funcs[f]? = some fn ∧ isGo fn = true) (hC : CallOK P F) (hR : RndOK P F) {ops : Array Oper} {i : Nat} {rest : List Nat} {o : Oper} {R : K} (ho : ops[i]? = some o) (hd : dstOk N o.dst = true)
    (hrest : ∀ σ b e h d t ds cs w k, SR P σ N b e h d t ds cs w → XOK P σ N b h w d.rc cs k (lone (fat b t ds (.inRegion ops rest :: k)) cs w) (R.run F e h d))
    (σ : Sg) (b : Frame) (e : T) (h : Heap) (d : Ds) (t : Array Value) (ds : List Deferred) (cs : List Frame) (w : World) (k : List Item) (hs : SR P σ N b e h d t ds cs w) (hw : Region.wanted o (yielded ops t) = true) :
    XOK P σ N b h w d.rc cs k (lone (fat b t ds (.inRegion ops (i :: rest) :: k)) cs w) ((kOp (cop P o.op) (seOf o.dst) R).run F e h d) := by
  have hop := cop_ok hs.hr hs.gl hs.fresh1 (fun x => opd_ok hs.er hs.gl x) o
  by_cases hdef : ∃ c, o.op = .defer c
  · obtain ⟨c, hc⟩ := hdef
    show XOK P σ N b h w d.rc cs k _ (onOR ((cop P o.op).run e h) F e h d fun v h d => R.run F ((seOf o.dst).se e v) h d)
    rcases defer_run (P := P) (e := e) (h := h) hc with h0 | ⟨v, args, h0⟩
    · rw [h0]; trivial
    · rw [h0] at hop ⊢
      exact dfr_ok hN ho hd hrest _ _ _ _ _ _ _ _ _ _ hs hw hop
  have hop' := hop
  rw [← Oper.semAt_eq b.roundOf (evalT t) o (fun c hc => hdef ⟨c, hc⟩)] at hop
  show XOK P σ N b h w d.rc cs k _ (onOR ((cop P o.op).run e h) F e h d fun v h d => R.run F ((seOf o.dst).se e v) h d)
  cases hr : (cop P o.op).run e h <;> rw [hr] at hop hop'
  case fail => trivial
  case val v h' =>
    obtain ⟨n, c, w', σ', h1, h2, h3, h4⟩ := hop
    exact XOK.after (.one (st_op ho hw h1 h2)) h4 (CsR.refl _ _) (hrest _ _ _ _ _ _ _ _ _ _ (hs.op h4 hN hd h3))
  case pan v h' =>
    obtain ⟨c, w', σ', h1, h2, h3⟩ := hop
    refine ⟨_, c, σ', t, ds, cs, w', .one (st_pan ho hw h1), ?_, h3, CsR.refl _ _, h2⟩
    exact ⟨hs.er.mono h3.le, h3.hr, h3.fresh hs.fr hs.dm, h3.domOk hs.dm, hs.gl.mono h3.le, hs.df.mono h3.le, hs.rn.mono h3.le, hs.rc.mono h3.le, hs.fo⟩
  case enter f args =>
    obtain ⟨ca, h1, h2⟩ := hop
    show XOK P σ N b h w d.rc cs k _ (callK (F.call f args none h) e d fun v h => R.run F ((seOf o.dst).se e v) h d)
    have hcall := hC σ f args ca h w none .normal (fat b t ds (.inRegion ops (i :: rest) :: k) :: cs) hs.base h1 trivial (.inl rfl)
    have hgo := hG f args none h
    cases hx : F.call f args none h with
    | fail => trivial
    | ret v h' rc' =>
      rw [hx] at hcall hgo
      have hst := st_enter (k := k) (cs := cs) (ds := ds) (rest := rest) ho hw (h2 (hgo (by simp)))
      obtain ⟨σ', c, fr, cs', w', x1, x2, x3, x4, x5, x6, x7⟩ := hcall
      rcases x7 with ⟨_, rfl⟩ | ⟨_, _, _, _, _, x8, _⟩
      · have hl := step_leave_returned (cs := cs) (c := fat b t ds (.inRegion ops (i :: rest) :: k)) (P := P) (fr := fr) (w := w') (v := c) ⟨x2.1, x2.2.1, x3, x2.2.2⟩
        rw [fin_fat ho] at hl
        exact XOK.after ((Steps.one hst).trans (x1.trans (.one hl))) x6 (CsR.refl _ _) (hrest _ _ _ _ _ _ _ _ _ _ (hs.op x6 hN hd x5))
      · cases x8
    | pan v h' rc' =>
      rw [hx] at hcall hgo
      have hst := st_enter (k := k) (cs := cs) (ds := ds) (rest := rest) ho hw (h2 (hgo (by simp)))
      obtain ⟨σ', c, fr, cs', w', x1, x2, x3, x4, x5, x6, x7⟩ := hcall
      rcases x7 with ⟨_, rfl⟩ | ⟨_, _, _, _, _, x8, _⟩
      · have hl := step_leave_panicked (cs := cs) (c := fat b t ds (.inRegion ops (i :: rest) :: k)) (P := P) (fr := fr) (w := w') (chain := [{ v := c, recovered := false }]) ⟨x2.1, x2.2.1, x2.2.2⟩
        refine ⟨_, c, σ', t, ds, cs, w', (Steps.one hst).trans (x1.trans (.one hl)), ?_, x6, CsR.refl _ _, x5⟩
        exact ⟨hs.er.mono x6.le, x6.hr, x6.fresh hs.fr hs.dm, x6.domOk hs.dm, hs.gl.mono x6.le, hs.df.mono x6.le, hs.rn.mono x6.le, hs.rc.mono x6.le, hs.fo⟩
      · cases x8
  case round l args =>
    obtain ⟨L, ca, h1, h2, h3⟩ := hop
    show XOK P σ N b h w d.rc cs k _ (callK (F.rnd l args h) e d fun v h => R.run F ((seOf o.dst).se e v) h d)
    have hrn := hR σ l L args ca h w (fat b t ds (.inRegion ops (i :: rest) :: k)) cs (lone (fat b t ds (.inRegion ops (i :: rest) :: k)) cs w) hs.base h1 h2
      (fun lf f tm as bd w1 hy => st_round ho hw (h3.trans hy))
    cases hx : F.rnd l args h with
    | fail => trivial
    | ret v h' rc' =>
      rw [hx] at hrn
      obtain ⟨σ', x, w', x1, x2, x3⟩ := hrn
      rw [fin_fat ho] at x1
      exact XOK.after x1 x3 (CsR.refl _ _) (hrest _ _ _ _ _ _ _ _ _ _ (hs.op x3 hN hd x2))
    | pan v h' rc' =>
      rw [hx] at hrn
      obtain ⟨σ', x, w', x1, x2, x3⟩ := hrn
      refine ⟨_, x, σ', t, ds, cs, w', x1, ?_, x3, CsR.refl _ _, x2⟩
      exact ⟨hs.er.mono x3.le, x3.hr, x3.fresh hs.fr hs.dm, x3.domOk hs.dm, hs.gl.mono x3.le, hs.df.mono x3.le, hs.rn.mono x3.le, hs.rc.mono x3.le, hs.fo⟩
  case dfr v args => exact dfr_ok hN ho hd hrest _ _ _ _ _ _ _ _ _ _ hs hw hop'
  case rcv => exact rcv_ok hN ho hd hrest _ _ _ _ _ _ _ _ _ _ hs hw hop
end
end Go.Rk

namespace Go.Rk
open Go
set_option linter.unusedVariables false
set_option linter.unusedSimpArgs false
set_option linter.constructorNameAsVariable false
set_option linter.unusedSectionVars false
variable [TabC]
section
variable {P : Program} {N : Nat} {F : Fns}
theorem guardOf_cases {all : Array Oper} {g : Option (Nat × Bool)} : guardOf all g = none ∨ (g = none ∧ guardOf all g = some none) ∨ (∃ j b t, g = some (j, b) ∧ (all[j]?).bind (·.dst) = some t ∧ guardOf all g = some (some (t, b))) := by
  cases g with
  | none => exact .inr (.inl ⟨rfl, rfl⟩)
  | some p =>
    obtain ⟨j, b⟩ := p
    unfold guardOf
    simp only []
    split
    · rename_i t ht; exact .inr (.inr ⟨j, b, t, rfl, ht, rfl⟩)
    · exact .inl rfl
def boolOf (c : Value) : Option Bool := match c with | .bool b => some b | _ => none
theorem yielded_of {ops : Array Oper} {t : Array Value} {j i : Nat} (hj : (ops[j]?).bind (·.dst) = some i) : yielded ops t j = boolOf (t.getD i undef) := by
  unfold yielded
  rw [hj]
  simp only [Option.bind_some]
  rw [Array.getD_eq_getD_getElem?]
  cases h : t[i]? with
  | none => rfl
  | some v => cases v <;> rfl
/-- a guard that is decided -/
theorem wanted_ok {σ : Sg} {e : T} {t : Array Value} (he : ER σ N e t) (hg : GL P σ) {ops : Array Oper} {o : Oper} {j i : Nat} {b : Bool} (h1 : o.guard = some (j, b)) (h2 : (ops[j]?).bind (·.dst) = some i) (h3 : isBool ((tmp i).ev e) = true) :
    Region.wanted o (yielded ops t) = isB ((tmp i).ev e) b := by
  have hv : VR σ ((tmp i).ev e) (t.getD i undef) := opd_ok he hg (.tmp i)
  have hy := yielded_of (t := t) h2
  unfold Region.wanted
  rw [h1]
  simp only []
  rw [hy]
  unfold isBool at h3
  split at h3
  · rename_i c hc
    rw [hc] at hv ⊢
    simp only [VR] at hv
    rw [hv]
    cases b <;> cases c <;> rfl
  · rename_i hc
    rw [hc] at hv ⊢
    simp only [VR] at hv
    obtain ⟨a, ha, _⟩ := hv
    rw [ha]
    cases b <;> rfl
  · exact absurd h3 (by simp)
theorem undef_VR {σ : Sg} : VR σ (.tup []) undef := by simp only [VR]; exact ⟨#[], rfl, VRs.nil⟩
theorem kOps_ok (hN : N < 4294967296) (hG : ∀ f args rc h, F.call f args rc h ≠ .fail → ∃ fn, P.funcs[f]? = some fn ∧ isGo fn = true) (hC : CallOK P F) (hR : RndOK P F) {ops : Array Oper} :
    ∀ (l : List Oper) (i : Nat), ops.toList.drop i = l → ∀ σ b e h d t ds cs w k, SR P σ N b e h d t ds cs w →
      XOK P σ N b h w d.rc cs k (lone (fat b t ds (.inRegion ops (List.range' i l.length) :: k)) cs w) ((kOps P N ops l).run F e h d)
  | [], i, hl, σ, b, e, h, d, t, ds, cs, w, k, hs => nrm_ok (w0 := w) hs (.one st_regEnd)
  | o :: r, i, hl, σ, b, e, h, d, t, ds, cs, w, k, hs => by
    have hlt : i < ops.toList.length := by
      by_cases hx : i < ops.toList.length
      · exact hx
      · rw [List.drop_eq_nil_of_le (by omega)] at hl; cases hl
    have hcons := List.drop_eq_getElem_cons hlt
    rw [hl] at hcons
    injection hcons with h1 h2
    have ho : ops[i]? = some o := by
      rw [h1]; simp
    have ih := kOps_ok hN hG hC hR (ops := ops) r (i + 1) h2.symm
    have hrange : List.range' i (o :: r).length = i :: List.range' (i + 1) r.length := by simp [List.range'_succ]
    rw [hrange]
    rw [kOps]
    cases hd : dstOk N o.dst with
    | false => trivial
    | true =>
      rcases guardOf_cases (all := ops) (g := o.guard) with h0 | ⟨h0, h3⟩ | ⟨j, c, i', h0, h3, h4⟩
      · rw [h0]; trivial
      · rw [h3]
        have hw : Region.wanted o (yielded ops t) = true := by simp [Region.wanted, h0]
        exact kOp_ok hN hG hC hR ho hd ih _ _ _ _ _ _ _ _ _ _ hs hw
      · rw [h4]
        show XOK P σ N b h w d.rc cs k _ (bif isBool ((tmp i').ev e) then (bif isB ((tmp i').ev e) c then (kOp (cop P o.op) (seOf o.dst) (kOps P N ops r)).run F e h d else (kOps P N ops r).run F ((seOf o.dst).se e (.tup [])) h d) else .fail)
        cases h5 : isBool ((tmp i').ev e) with
        | false => trivial
        | true =>
          have hw := wanted_ok hs.er hs.gl h0 h3 h5
          cases h6 : isB ((tmp i').ev e) c with
          | true =>
            rw [h6] at hw
            exact kOp_ok hN hG hC hR ho hd ih _ _ _ _ _ _ _ _ _ _ hs hw
          | false =>
            rw [h6] at hw
            exact XOK.after (.one (st_opskip ho hw)) (Aft.refl hs.hr) (CsR.refl _ _) (ih _ _ _ _ _ _ _ _ _ _ (hs.op (Aft.refl hs.hr) hN hd undef_VR))
theorem region_ok (hN : N < 4294967296) (hG : ∀ f args rc h, F.call f args rc h ≠ .fail → ∃ fn, P.funcs[f]? = some fn ∧ isGo fn = true) (hC : CallOK P F) (hR : RndOK P F) (id : Nat) (ops : Array Oper) : KOK P F N (.region id ops false) (comp P N (.region id ops false)) := by
  intro σ b e h d t ds cs w k hs
  refine XOK.after (.one st_region) (Aft.refl hs.hr) (CsR.refl _ _) ?_
  have := kOps_ok hN hG hC hR (ops := ops) ops.toList 0 rfl σ b e h d t ds cs w k hs
  rw [← List.range_eq_range'] at this
  simpa [comp] using this
end
end Go.Rk

namespace Go.Rk
open Go
set_option linter.unusedVariables false
set_option linter.unusedSimpArgs false
set_option linter.constructorNameAsVariable false
set_option linter.unusedSectionVars false
variable [TabC]
section moves
variable {P : Program} {b : Frame} {t : Array Value} {ds : List Deferred} {k : List Item} {cs : List Frame} {w : World}
theorem acall_ok {σ : Sg} {v : AV} {c : Value} (hv : VR σ v c) {args : List AV} {ca : Array Value} (ha : VRs σ args ca.toList) {f : Nat} {as : List AV} (he : acall v args = .enter f as) :
    ∃ cas : Array Value, VRs σ as cas.toList ∧ ((∃ fn, P.funcs[f]? = some fn ∧ isGo fn = true) → ∀ w, (do let d ← Deferred.ofValue c ca; invoke d.target d.args : Sem Next).run P w = .ok (.enter f cas) w) := by
  unfold acall at he
  split at he
  · rename_i g first cap
    injection he with he1 he2
    subst he1 he2
    simp only [VR] at hv
    obtain ⟨a', b', rfl, h1, h2⟩ := hv
    refine ⟨a' ++ (ca ++ b'), ?_, ?_⟩
    · simp only [Array.toList_append]; exact VRs.append h1 (VRs.append ha h2)
    · rintro ⟨fn, hfn, hgo⟩ w
      unfold isGo at hgo
      rw [Bool.and_eq_true] at hgo
      have hn : fn.name ≠ "runtime.NumGoroutine" := by simpa using hgo.2
      have hb : fn.body ≠ none := by
        intro h0
        rw [h0] at hgo
        simp at hgo
      simp [Deferred.ofValue, invoke, callFunc, hfn, hn, hb, Array.append_assoc]
  · cases he
  · cases he
theorem run_getLoop {l : Nat} {r : Loop} (hb : w.heap[l]? = some (.loop r)) : (Instr.getLoop l).run P w = .ok r w := by
  have := run_getObj_at (P := P) hb (fun _ _ _ h => by cases h)
  simp only [Instr.getLoop, Sem.run_bind, this, Result.andThen_ok, Sem.run_pure]
theorem run_setLoop {l : Nat} {r : Loop} {n : Obj} (hb : w.heap[l]? = some (.loop r)) : (setObj l n).run P w = .ok () (wset w l n) := run_setObj_at hb (fun _ _ _ h => by cases h)
theorem st_rangeFunc {f : Operand} {ps : Array Tmp} {as bd : Code} {l : Nat} {mark : List Deferred} {w1 w2 : World} {g : Nat} {gargs : Array Value} (h1 : (Instr.enterLoop b.fn t ps as bd b.roundOf).run P w = .ok (l, mark) w1)
    (h2 : (do let d ← Deferred.ofValue (evalT t f) #[.func (.yield l) #[] #[]]; invoke d.target d.args : Sem Next).run P w1 = .ok (.enter g gargs) w2) :
    step P (lone (fat b t ds (.code (.rangeFunc f ps as bd) :: k)) cs w) = .next (lone (Frame.enter P g gargs .normal) (fat b t (mark ++ ds) (.inRangeFunc l :: k) :: cs) w2) := by
  refine step_lone_go ?_
  have he : ∀ ds k f, (fat b t ds k).eval f = evalT t f := fun ds k f => by rw [eval_fat]
  have h3 : ∀ ds k, (resolve (fat b t ds k).eval { callee := .value f, args := #[.const (.func (.yield l) #[] #[])], argTypes := #[] } 0) = Deferred.ofValue (evalT t f) #[.func (.yield l) #[] #[]] := by
    intro ds k
    rw [eval_fat]
    simp [resolve, evalT]
  unfold fat at h3
  simp only [stepG, stepG.exec, fat, Sem.runT_eq, h1, stepG.apply, h3, h2]
  simp
theorem st_endRangeFunc {l : Nat} {jump : Option Code} {w1 : World} (h : (Instr.endLoop l).run P w = .ok jump w1) :
    step P (lone (fat b t ds (.endRangeFunc l :: k)) cs w) = .next (lone (fat b t ds ((jump.map Item.code).toList ++ k)) cs w1) := by
  refine step_lone_go ?_
  simp only [stepG, stepG.exec, fat, Sem.runT_eq, h]
  simp
theorem fin_range {l : Nat} {v : Value} : (fat b t ds (.inRangeFunc l :: k)).finish v = fat b t ds (.endRangeFunc l :: k) := rfl
theorem raise_fat {chain : List PanicEntry} : (fat b t ds k).raise chain = { fat b t ds k with mode := .panicking chain } := rfl
end moves
section
variable {P : Program} {σ σ' : Sg} {N : Nat} {b : Frame} {h h' : Heap} {w w' : World} {e : T} {d : Ds} {t : Array Value} {ds : List Deferred} {cs : List Frame}
theorem SR.aft (hs : SR P σ N b e h d t ds cs w) (ha : Aft P σ h w σ' h' w') : SR P σ' N b e h' d t ds cs w' :=
  ⟨hs.er.mono ha.le, ha.hr, ha.fresh hs.fr hs.dm, ha.domOk hs.dm, hs.gl.mono ha.le, hs.df.mono ha.le, hs.rn.mono ha.le, hs.rc.mono ha.le, hs.fo⟩
theorem Like.wnew {o : Obj} : Like w (wnew w o) := ⟨rfl, rfl, rfl⟩
theorem Like.wset {i : Nat} {o : Obj} : Like w (wset w i o) := ⟨rfl, rfl, rfl⟩
/-- behind a range function -/
theorem afterRange_ok {l : Nat} {L : Loc} (hs : SR P σ N b e h d t ds cs w) (hL : σ l 0 = some L) {k : List Item} :
    XOK P σ N b h w d.rc cs k (lone (fat b t ds (.endRangeFunc L.blk :: k)) cs w) (afterRange l e d h) := by
  unfold afterRange
  cases ho : h.t.get l with
  | none => trivial
  | some o =>
    cases o with
    | loop lp =>
      obtain ⟨L', hL', hob⟩ := hs.hr.obj l _ ho
      simp only [genOf] at hL'
      rw [hL] at hL'; cases hL'
      obtain ⟨r, hb, h1, h2, h3, h4, h5, h6, h7⟩ := hob
      have hend : r.state ≠ .busy → (Instr.endLoop L.blk).run P w = .ok r.pending (wset w L.blk (.loop { r with state := .exhausted })) := by
        intro hne
        have hne' : (r.state == LoopState.busy) = false := by cases hst : r.state <;> first | rfl | exact absurd hst hne
        simp only [Instr.endLoop, Sem.run_bind, run_getLoop hb, Result.andThen_ok, hne', Bool.false_eq_true, if_false, Sem.run_pure, run_setLoop hb]
      have haft : Aft P σ h w σ (h.put l (.loop { lp with st := .exhausted })) (wset w L.blk (.loop { r with state := .exhausted })) :=
        Aft.mkPut (obj := .loop { r with state := .exhausted }) hs.hr ho hL rfl ⟨{ r with state := .exhausted }, rfl, rfl, h2, h3, h4, h5, h6, h7⟩ rfl Like.wset
      have hend' : r.state ≠ .busy → (Instr.endLoop L.blk).run P w = .ok lp.pending (wset w L.blk (.loop { r with state := .exhausted })) := by
        intro hne
        rw [hend hne]
        exact congrArg (fun x => Result.ok x _) h2
      revert haft hend'
      generalize wset w L.blk (.loop { r with state := .exhausted }) = w1
      intro haft hend'
      have key : r.state ≠ .busy → XOK P σ N b h w d.rc cs k (lone (fat b t ds (.endRangeFunc L.blk :: k)) cs w) (match lp.pending with
        | none => .nrm e (h.put l (.loop { lp with st := .exhausted })) d
        | some .ret => .ret e (h.put l (.loop { lp with st := .exhausted })) d
        | some (.exit i) => .exit i e (h.put l (.loop { lp with st := .exhausted })) d
        | _ => .fail) := by
        intro hne
        have hst := st_endRangeFunc (b := b) (t := t) (ds := ds) (k := k) (cs := cs) (hend' hne)
        split
        · rename_i hp
          rw [hp] at hst
          exact ⟨σ, t, ds, cs, _, .one hst, hs.aft haft, haft, CsR.refl _ _, trivial⟩
        · rename_i hp
          rw [hp] at hst
          exact ⟨k, σ, t, ds, cs, _, .one hst, hs.aft haft, haft, CsR.refl _ _, trivial⟩
        · rename_i i hp
          rw [hp] at hst
          exact ⟨k, rfl, σ, t, ds, cs, _, .one hst, hs.aft haft, haft, CsR.refl _ _, trivial⟩
        · trivial
      show XOK P σ N b h w d.rc cs k _ (match lp.st with
        | .busy => .fail
        | _ => _)
      split
      · trivial
      · rename_i hx; exact key (by rw [h1]; intro h0; exact hx h0)
    | _ => trivial
variable {F : Fns}
/-- a range function is called, its loop made -/
theorem rangeIn_ok (hG : ∀ f args rc h, F.call f args rc h ≠ .fail → ∃ fn, P.funcs[f]? = some fn ∧ isGo fn = true) (hC : CallOK P F) {f : Operand} {ps : Array Tmp} {as bd : Code} {σ0 : Sg} {h0 : Heap} {w0 : World} {d0 : Ds} {l : Nat} {L : Loc} {mark : List Deferred} {k : List Item}
    (hrun : (Instr.enterLoop b.fn t ps as bd b.roundOf).run P w0 = .ok (L.blk, mark) w) (hL : σ l 0 = some L) (hs : SR P σ N b e h d t (mark ++ ds) cs w) (ha : Aft P σ0 h0 w0 σ h w) (hrc : d0.rc = d.rc) :
    XOK P σ0 N b h0 w0 d0.rc cs k (lone (fat b t ds (.code (.rangeFunc f ps as bd) :: k)) cs w0) (match acall ((copd P f).ev e) [.yield l] with
      | .enter g args => callK (F.call g args none h) e d fun _ h' => afterRange l e d h'
      | _ => .fail) := by
  split
  · rename_i g args hac
    have hy : VRs σ [.yield l] (#[Value.func (.yield L.blk) #[] #[]] : Array Value).toList := by
      refine VRs.cons ?_ VRs.nil
      simp only [VR]; exact ⟨L, hL, rfl⟩
    obtain ⟨cas, h1, h2⟩ := acall_ok (P := P) (opd_ok hs.er hs.gl f) hy hac
    have hcall := hC σ g args cas h w none .normal (fat b t (mark ++ ds) (.inRangeFunc L.blk :: k) :: cs) hs.base h1 trivial (.inl rfl)
    have hgo := hG g args none h
    rw [hrc]
    cases hx : F.call g args none h with
    | fail => trivial
    | ret v h' rc' =>
      rw [hx] at hcall hgo
      have hst := st_rangeFunc (ds := ds) (k := k) (cs := cs) hrun (h2 (hgo (by simp)) w)
      obtain ⟨σ', c, fr, cs', w', x1, x2, x3, x4, x5, x6, x7⟩ := hcall
      rcases x7 with ⟨_, rfl⟩ | ⟨_, _, _, _, _, x8, _⟩
      · have hl := step_leave_returned (cs := cs) (c := fat b t (mark ++ ds) (.inRangeFunc L.blk :: k)) (P := P) (fr := fr) (w := w') (v := c) ⟨x2.1, x2.2.1, x3, x2.2.2⟩
        rw [fin_range] at hl
        exact XOK.after ((Steps.one hst).trans (x1.trans (.one hl))) (ha.trans x6) (CsR.refl _ _) (afterRange_ok (hs.aft x6) (x6.le _ _ _ hL))
      · cases x8
    | pan v h' rc' =>
      rw [hx] at hcall hgo
      have hst := st_rangeFunc (ds := ds) (k := k) (cs := cs) hrun (h2 (hgo (by simp)) w)
      obtain ⟨σ', c, fr, cs', w', x1, x2, x3, x4, x5, x6, x7⟩ := hcall
      rcases x7 with ⟨_, rfl⟩ | ⟨_, _, _, _, _, x8, _⟩
      · have hl := step_leave_panicked (cs := cs) (c := fat b t (mark ++ ds) (.inRangeFunc L.blk :: k)) (P := P) (fr := fr) (w := w') (chain := [{ v := c, recovered := false }]) ⟨x2.1, x2.2.1, x2.2.2⟩
        exact ⟨_, c, σ', t, _, cs, w', (Steps.one hst).trans (x1.trans (.one hl)), hs.aft x6, ha.trans x6, CsR.refl _ _, x5⟩
      · cases x8
  · trivial
theorem range_ok (hG : ∀ f args rc h, F.call f args rc h ≠ .fail → ∃ fn, P.funcs[f]? = some fn ∧ isGo fn = true) (hC : CallOK P F) (f : Operand) (ps : Array Tmp) (as bd : Code) : KOK P F N (.rangeFunc f ps as bd) (comp P N (.rangeFunc f ps as bd)) := by
  intro σ b e h d t ds cs w k hs
  show XOK P σ N b h w d.rc cs k _ (enterL h d { st := .ready, pending := none, env := e, ps := ps.toList, assign := as, body := bd, n := N } fun h' l d => match acall ((copd P f).ev e) [.yield l] with
      | .enter g args => callK (F.call g args none h') e d fun _ h' => afterRange l e d h'
      | _ => .fail)
  have hrn := hs.rn
  unfold enterL
  cases hr : d.rnd with
  | none =>
    rw [hr] at hrn
    have hb : b.roundOf = none := hrn
    have a1 : Aft P σ h w (σ.set h.next 0 ⟨w.heap.size, 0, 0⟩) (h.new (.dfd false)) (wnew w (.deferred (some []))) := Aft.mkNew hs.hr hs.fresh1 rfl rfl rfl Like.wnew
    have s1 := hs.aft a1
    have a2 := Aft.mkNew (w' := wnew (wnew w (.deferred (some []))) (.loop { state := .ready, pending := none, fn := b.fn, tmps := t, params := ps, assign := as, body := bd, defers := w.heap.size })) (sz := 0) s1.hr s1.fresh1 (o := .loop { st := .ready, pending := none, env := e, ps := ps.toList, assign := as, body := bd, n := N }) rfl
      ⟨_, rfl, rfl, rfl, s1.er.mono (Sg.le_set (s1.fresh1 0)), rfl, rfl, rfl, hs.fo⟩ rfl Like.wnew
    have s2 := s1.aft a2
    refine rangeIn_ok hG hC (L := ⟨w.heap.size + 1, 0, 0⟩) (mark := [{ target := .collected w.heap.size, args := #[] }]) ?_ ?_ (ds := ds) (b := b) (w := wnew (wnew w (.deferred (some []))) (.loop { state := .ready, pending := none, fn := b.fn, tmps := t, params := ps, assign := as, body := bd, defers := w.heap.size })) (σ := (σ.set h.next 0 ⟨w.heap.size, 0, 0⟩).set (h.new (.dfd false)).next 0 ⟨(wnew w (.deferred (some []))).heap.size, 0, 0⟩) ?_ (a1.trans a2) rfl
    · rw [hb]
      simp only [Instr.enterLoop, wnew, Sem.run_bind, run_newObj, Sem.run_pure, Result.andThen_ok, Array.size_push]
    · rw [new_next, Sg.set_same]
      simp [wnew]
    · refine ⟨s2.er, s2.hr, s2.fr, s2.dm, s2.gl, ?_, ?_, s2.rc, hs.fo⟩
      · exact ⟨⟨w.heap.size, 0, 0⟩, ds, rfl, a2.le _ _ _ (Sg.set_same _ _ _ _), s2.df⟩
      · exact hb
  | some l0 =>
    rw [hr] at hrn
    obtain ⟨L0, hL0, hb⟩ := hrn
    show XOK P σ N b h w d.rc cs k _ (bif isLoop (h.t.get l0) then _ else .fail)
    cases ho : h.t.get l0 with
    | none => trivial
    | some o =>
      cases o with
      | loop lp =>
        obtain ⟨L', hL', hob⟩ := hs.hr.obj l0 _ ho
        simp only [genOf] at hL'
        rw [hL0] at hL'; cases hL'
        obtain ⟨r, hbk, _⟩ := hob
        have a2 := Aft.mkNew (w' := wnew w (.loop { state := .ready, pending := none, fn := b.fn, tmps := t, params := ps, assign := as, body := bd, defers := r.defers })) (sz := 0) hs.hr hs.fresh1 (o := .loop { st := .ready, pending := none, env := e, ps := ps.toList, assign := as, body := bd, n := N }) rfl
          ⟨_, rfl, rfl, rfl, hs.er.mono (Sg.le_set (hs.fresh1 0)), rfl, rfl, rfl, hs.fo⟩ rfl Like.wnew
        have s2 := hs.aft a2
        refine rangeIn_ok hG hC (L := ⟨w.heap.size, 0, 0⟩) (mark := []) (ds := ds) (b := b) (w := wnew w (.loop { state := .ready, pending := none, fn := b.fn, tmps := t, params := ps, assign := as, body := bd, defers := r.defers })) (σ := σ.set h.next 0 ⟨w.heap.size, 0, 0⟩) ?_ (Sg.set_same _ _ _ _) s2 a2 rfl
        rw [hb]
        simp only [Instr.enterLoop, wnew, Sem.run_bind, run_getLoop hbk, run_newObj, Sem.run_pure, Result.andThen_ok]
      | _ => trivial
end
end Go.Rk

namespace Go.Rk
open Go
set_option linter.unusedVariables false
set_option linter.unusedSimpArgs false
set_option linter.constructorNameAsVariable false
set_option linter.unusedSectionVars false
variable [TabC]
section
variable {P : Program} {σ : Sg} {N : Nat} {h : Heap} {w : World} {e : T} {t : Array Value}
def ares (P : Program) : ResultVar → ARes
  | .tmp t => .tmp (tmp t)
  | .cell a t => .cell (tmp a) (agg? P t)
def cres (t : Array Value) : ResultVar → Sem Value
  | .tmp i => pure (t.getD i undef)
  | .cell a ty => do loadVar ty (← asAddr (t.getD a undef))
theorem tmp_ok (he : ER σ N e t) (hg : GL P σ) (i : Nat) : VR σ ((tmp i).ev e) (t.getD i undef) := opd_ok he hg (.tmp i)
theorem nth_lt : ∀ {cs : List AV} {i : Nat}, i < cs.length → cs[i]? = some (nth cs i)
  | [], i, h => by simp at h
  | v :: l, 0, h => rfl
  | v :: l, i + 1, h => by simpa [nth] using nth_lt (cs := l) (i := i) (by simpa using h)
theorem resCell_ok (hr : HR P σ h.t.get w) {v : AV} {c : Value} (hv : VR σ v c) {ty : TypeId} {n : Option Nat} (ha : agg? P ty = some n) (hok : resOk h n v = true) :
    ∃ x, (do loadVar ty (← asAddr c)).run P w = .ok x w ∧ VR σ (resCell h n v) x := by
  unfold resOk at hok
  split at hok
  · rename_i b g off
    split at hok
    · rename_i cs ty' g' fz s hb
      rw [Bool.and_eq_true] at hok
      have hg := Nat.eq_of_beq_eq_true hok.1
      subst hg
      simp only [VR] at hv
      obtain ⟨L, hL, hsh, rfl⟩ := hv
      obtain ⟨L', cc, lo, hi, hL', hblk, hsz, hlen, hrel, _⟩ := cells_of hr hb
      rw [hL] at hL'; cases hL'
      cases n with
      | none =>
        have hlt : off < cs.length := blt_iff.1 hok.2
        obtain ⟨x, hx, hvx⟩ := hrel off _ (nth_lt hlt) hsh
        have hrc : resCell h none (.ptr b g off) = nth cs off := by simp [resCell, hb]
        exact ⟨x, by simp [asAddr, loadVar, agg?_none ha, cell_at hblk, hx], by rw [hrc]; exact hvx⟩
      | some n =>
        have hle : off + n ≤ cs.length := ble_iff.1 hok.2
        obtain ⟨h3, h4⟩ := cells_take hsz hlen hrel hsh hle
        obtain ⟨ag, sg⟩ := agg?_some (w := w) ha
        refine ⟨.agg ((cc.toList.drop (off - L.sh)).take n).toArray, by simp [asAddr, loadVar, ag, sg, run_loadCells_at hblk h4], ?_⟩
        have : Nat.ble (off + n) cs.length = true := hok.2
        have hrc : resCell h (some n) (.ptr b g off) = .agg (takeN cs off n) := by simp only [resCell, hb, beq_same, this, cond_true]
        rw [hrc]
        simp only [VR]
        exact ⟨_, rfl, h3⟩
    · cases hok
  · cases hok
theorem resv_ok (hr : HR P σ h.t.get w) (he : ER σ N e t) (hg : GL P σ) : ∀ (rs : List ResultVar) (k : List AV → CR),
    resv e h (rs.map (ares P)) k = .fail ∨ ∃ l cl, resv e h (rs.map (ares P)) k = k l ∧ VRs σ l cl ∧ (rs.mapM (cres t)).run P w = .ok cl w
  | [], k => .inr ⟨[], [], rfl, VRs.nil, by simp⟩
  | .tmp i :: r, k => by
    rcases resv_ok hr he hg r (fun l => k ((tmp i).ev e :: l)) with h0 | ⟨l, cl, h1, h2, h3⟩
    · exact .inl h0
    · exact .inr ⟨(tmp i).ev e :: l, t.getD i undef :: cl, h1, VRs.cons (tmp_ok he hg i) h2, by simp [List.mapM_cons, cres, h3]⟩
  | .cell a ty :: r, k => by
    cases ha : agg? P ty with
    | none => exact .inl (by simp only [List.map_cons, ares, ha]; rfl)
    | some n =>
      have hx : resv e h (((.cell a ty : ResultVar) :: r).map (ares P)) k = bif resOk h n ((tmp a).ev e) then resv e h (r.map (ares P)) fun l => k (resCell h n ((tmp a).ev e) :: l) else .fail := by
        simp only [List.map_cons, ares, ha]
        rfl
      rw [hx]
      cases hok : resOk h n ((tmp a).ev e) with
      | false => exact .inl rfl
      | true =>
        obtain ⟨x, h4, h5⟩ := resCell_ok hr (tmp_ok he hg a) ha hok
        rcases resv_ok hr he hg r (fun l => k (resCell h n ((tmp a).ev e) :: l)) with h0 | ⟨l, cl, h1, h2, h3⟩
        · exact .inl h0
        · refine .inr ⟨resCell h n ((tmp a).ev e) :: l, x :: cl, h1, VRs.cons h5 h2, ?_⟩
          have h4' : (cres t (.cell a ty)).run P w = .ok x w := h4
          simp [List.mapM_cons, h4', h3]
theorem results_ok (hr : HR P σ h.t.get w) (he : ER σ N e t) (hg : GL P σ) (fn : Func) (rc : Rec) :
    resv e h (fn.results.toList.map (ares P)) (fun l => .ret (one l) h rc) = .fail ∨ ∃ v c, resv e h (fn.results.toList.map (ares P)) (fun l => .ret (one l) h rc) = .ret v h rc ∧ VR σ v c ∧ (results fn t).run P w = .ok c w := by
  rcases resv_ok hr he hg fn.results.toList (fun l => .ret (one l) h rc) with h0 | ⟨l, cl, h1, h2, h3⟩
  · exact .inl h0
  · have hdef : results fn t = (do
        let vs ← fn.results.mapM (cres t)
        pure (if h : vs.size = 1 then vs[0] else .tuple vs)) := by
      unfold results
      congr 1
    have hrun : (results fn t).run P w = .ok (if h : cl.toArray.size = 1 then cl.toArray[0] else .tuple cl.toArray) w := by
      rw [hdef]
      simp [Array.mapM_eq_mapM_toList, h3]
    refine .inr ⟨one l, _, h1, ?_, hrun⟩
    have hlen := h2.len
    cases l with
    | nil =>
      simp only [VRs] at h2; subst h2
      show VR σ (.tup []) _
      simp only [VR]
      exact ⟨#[], by simp, VRs.nil⟩
    | cons v r =>
      cases r with
      | nil =>
        simp only [VRs] at h2
        obtain ⟨c, l', rfl, h4, rfl⟩ := h2
        simpa [one] using h4
      | cons v' r =>
        have : ¬ cl.toArray.size = 1 := by simp at hlen ⊢; omega
        rw [dif_neg this]
        show VR σ (.tup (v :: v' :: r)) _
        simp only [VR]
        exact ⟨_, rfl, h2⟩
end

section
variable {P : Program} {F : Fns}
def ModeR (σ : Sg) (p : Option AV) (m : FrameMode) : Prop := match p with
  | none => m = .returning
  | some v => ∃ cv, m = .panicking [{ v := cv, recovered := false }] ∧ VR σ v cv
theorem ModeR.mono {σ σ' : Sg} (hs : σ.le σ') {p : Option AV} {m : FrameMode} (h : ModeR σ p m) : ModeR σ' p m := by
  cases p with
  | none => exact h
  | some v => obtain ⟨cv, h1, h2⟩ := h; exact ⟨cv, h1, h2.mono hs⟩
theorem ModeR.ne {σ : Sg} {p : Option AV} {m : FrameMode} (h : ModeR σ p m) : m ≠ .run := by
  cases p with
  | none => have : m = .returning := h; rw [this]; simp
  | some v => obtain ⟨cv, h1, h2⟩ := h; rw [h1]; simp
def LeaveOK (P : Program) (σ : Sg) (h : Heap) (w : World) (fr : Frame) (cs : List Frame) (rc : Rec) : CR → Prop
  | .fail => True
  | .ret v h' rc' => rc' = rc ∧ ∃ σ' c fr' w', Steps P (lone fr cs w) (lone fr' cs w') ∧ RetF P fr' w' c ∧ fr'.kind = fr.kind ∧ fr'.fn = fr.fn ∧ VR σ' v c ∧ Aft P σ h w σ' h' w'
  | .pan v h' rc' => rc' = rc ∧ ∃ σ' c fr' w', Steps P (lone fr cs w) (lone fr' cs w') ∧ PanF P fr' c ∧ fr'.kind = fr.kind ∧ fr'.fn = fr.fn ∧ VR σ' v c ∧ Aft P σ h w σ' h' w'
theorem LeaveOK.after {σ σ1 : Sg} {h h1 : Heap} {w w1 : World} {fr fr1 : Frame} {cs : List Frame} {rc : Rec} {x : CR} (hs : Steps P (lone fr cs w) (lone fr1 cs w1)) (ha : Aft P σ h w σ1 h1 w1) (hk : fr1.kind = fr.kind) (hf : fr1.fn = fr.fn)
    (hx : LeaveOK P σ1 h1 w1 fr1 cs rc x) : LeaveOK P σ h w fr cs rc x := by
  cases x with
  | fail => trivial
  | ret v h' rc' =>
    obtain ⟨h0, σ', c, fr', w', x1, x2, x3, x4, x5, x6⟩ := hx
    exact ⟨h0, σ', c, fr', w', hs.trans x1, x2, x3.trans hk, x4.trans hf, x5, ha.trans x6⟩
  | pan v h' rc' =>
    obtain ⟨h0, σ', c, fr', w', x1, x2, x3, x4, x5, x6⟩ := hx
    exact ⟨h0, σ', c, fr', w', hs.trans x1, x2, x3.trans hk, x4.trans hf, x5, ha.trans x6⟩
theorem Base.aft {σ σ' : Sg} {h h' : Heap} {w w' : World} (hb : Base P σ h w) (ha : Aft P σ h w σ' h' w') : Base P σ' h' w' := ⟨ha.hr, ha.fresh hb.fr hb.dm, ha.domOk hb.dm, hb.gl.mono ha.le⟩
theorem step_collected {fr : Frame} {cs : List Frame} {w w1 : World} {b : Nat} {args : Array Value} {ds calls : List Deferred} (hm : fr.mode ≠ .run) (hd : fr.defers = { target := .collected b, args } :: ds) (hr : (Instr.takeDeferred b).run P w = .ok calls w1) :
    step P (lone fr cs w) = .next (lone { fr with defers := calls ++ ds } cs w1) := by
  refine step_lone_go ?_
  cases hmode : fr.mode with
  | run => exact absurd hmode hm
  | returning => simp [stepG, unwind, hmode, hd, Sem.runT_eq, hr]
  | panicking chain => simp [stepG, unwind, hmode, hd, Sem.runT_eq, hr]
theorem leave_ok (hG : ∀ f args rc h, F.call f args rc h ≠ .fail → ∃ fn, P.funcs[f]? = some fn ∧ isGo fn = true) (hC : CallOK P F) {N : Nat} {e : T} {t : Array Value} {fn : Func} {rc : Rec} {cs : List Frame} :
    ∀ (dfs : List Dfr) (h : Heap) (p : Option AV) (σ : Sg) (w : World) (fr : Frame), Base P σ h w → DfR σ dfs fr.defers → ER σ N e t → fr.tmps = t → P.funcs[fr.fn]? = some fn → ModeR σ p fr.mode →
      LeaveOK P σ h w fr cs rc (leave F.call (fn.results.toList.map (ares P)) e rc dfs h p)
  | [], h, some v, σ, w, fr, hb, hd, he, ht, hf, hm => by
    obtain ⟨cv, h1, h2⟩ := hm
    exact ⟨rfl, σ, cv, fr, w, .refl _ _, ⟨h1, hd, fn, hf⟩, rfl, rfl, h2, Aft.refl hb.hr⟩
  | [], h, none, σ, w, fr, hb, hd, he, ht, hf, hm => by
    show LeaveOK P σ h w fr cs rc (resv e h (fn.results.toList.map (ares P)) fun l => .ret (one l) h rc)
    rcases results_ok hb.hr he hb.gl fn rc with h0 | ⟨v, c, h1, h2, h3⟩
    · rw [h0]; trivial
    · rw [h1]
      exact ⟨rfl, σ, c, fr, w, .refl _ _, ⟨hm, hd, fn, hf, by rw [ht]; exact h3⟩, rfl, rfl, h2, Aft.refl hb.hr⟩
  | .collected r :: dfs, h, p, σ, w, fr, hb, hd, he, ht, hf, hm => by
    rw [leave]
    split
    · rename_i hr
      obtain ⟨L, l', h1, h2, h3⟩ := hd
      obtain ⟨L', hL', hob⟩ := hb.hr.obj r _ hr
      simp only [genOf] at hL'
      rw [h2] at hL'; cases hL'
      have hob' : w.heap[L.blk]? = some (.deferred (some [])) := hob
      have hrun : (Instr.takeDeferred L.blk).run P w = .ok [] (wset w L.blk (.deferred none)) := by
        simp only [Instr.takeDeferred, Sem.run_bind, run_getObj_at (P := P) hob' (fun _ _ _ h => by cases h), Result.andThen_ok, run_setObj_at (P := P) hob' (fun _ _ _ h => by cases h), Sem.run_pure]
      have ha : Aft P σ h w σ (h.put r (.dfd true)) (wset w L.blk (.deferred none)) := Aft.mkPut (obj := .deferred none) hb.hr hr h2 rfl rfl rfl Like.wset
      exact LeaveOK.after (.one (step_collected hm.ne h1 hrun)) ha rfl rfl (leave_ok hG hC dfs _ p _ _ { fr with defers := [] ++ l' } (hb.aft ha) (h3.mono ha.le) he ht hf hm)
    · trivial
  | .call g args :: dfs, h, p, σ, w, fr, hb, hd, he, ht, hf, hm => by
    rw [leave]
    obtain ⟨d, l', h1, h2, h3⟩ := hd
    split
    · rename_i f as hac
      unfold acall at hac
      split at hac
      · rename_i g first cap
        injection hac with e1 e2
        subst e1 e2
        obtain ⟨a, c, b, rfl, h4, h5, h6⟩ := h2
        have hargs : VRs σ (first ++ (args ++ cap)) ((a ++ b) ++ c).toList := by
          simp only [Array.toList_append, List.append_assoc]; exact VRs.append h4 (VRs.append h6 h5)
        have hrc : RcR σ .deferred (some p) ({ fr with defers := l' } :: cs) := by
          cases p with
          | none => exact ⟨rfl, _, _, rfl, by intro v g older; have : fr.mode = .returning := hm; rw [show ({ fr with defers := l' } : Frame).mode = fr.mode from rfl, this]; simp⟩
          | some v => obtain ⟨cv, h7, h8⟩ := hm; exact ⟨rfl, _, _, cv, [], rfl, h7, h8⟩
        have hcall := hC σ g (first ++ (args ++ cap)) ((a ++ b) ++ c) h w (some p) .deferred ({ fr with defers := l' } :: cs) hb hargs hrc (.inr rfl)
        have hgo := hG g (first ++ (args ++ cap)) (some p) h
        have hinv : (∃ fn, P.funcs[g]? = some fn ∧ isGo fn = true) → (invoke (.fn (.func g) c) (a ++ b)).run P w = .ok (.enter g ((a ++ b) ++ c)) w := by
          rintro ⟨fn, hfn, hgo⟩
          unfold isGo at hgo
          rw [Bool.and_eq_true] at hgo
          have hn : fn.name ≠ "runtime.NumGoroutine" := by simpa using hgo.2
          have hb : fn.body ≠ none := by
            intro h0
            rw [h0] at hgo
            simp at hgo
          simp [invoke, callFunc, hfn, hn, hb]
        generalize F.call g (first ++ (args ++ cap)) (some p) h = x at hcall hgo
        have hst := fun hh => step_defer (P := P) (fr := fr) (cs := cs) (w := w) (d := { target := .fn (.func g) c, args := a ++ b }) (ds := l') hm.ne h1 rfl (hinv (hgo hh))
        split
        · rename_i v h' p'
          obtain ⟨σ', cv, frX, cs', w', x1, x2, x3, x4, x5, x6, x7⟩ := hcall
          have hst := hst (by simp)
          have key : ∀ c0 : Frame, cs' = c0 :: cs → c0.fn = fr.fn → c0.kind = fr.kind → c0.tmps = t → c0.defers = l' → ModeR σ' p' (settle c0.mode) → LeaveOK P σ h w fr cs rc (leave F.call (fn.results.toList.map (ares P)) e rc dfs h' p') := by
            intro c0 hc0 k1 k2 k3 k4 k5
            subst hc0
            have h9 := step_going_returned (P := P) (fr := frX) (c := c0) (cs := cs) (w := w') (v := cv) x3 ⟨x2.1, x2.2.1, x2.2.2⟩
            refine LeaveOK.after ((Steps.one hst).trans (x1.trans (.one h9))) x6 k2 k1 (leave_ok hG hC dfs _ p' _ _ { c0 with mode := settle c0.mode } (hb.aft x6) ?_ (he.mono x6.le) k3 (by show P.funcs[c0.fn]? = _; rw [k1]; exact hf) k5)
            show DfR σ' dfs c0.defers
            rw [k4]; exact h3.mono x6.le
          rcases x7 with ⟨y1, y2⟩ | ⟨v1, c1, rest, cv1, older, y1, y2, y3, y4, y5⟩
          · injection y1 with y1; subst y1
            refine key _ y2 rfl rfl ht rfl ?_
            show ModeR σ' p' (settle fr.mode)
            cases p' with
            | none => have : fr.mode = .returning := hm; rw [this]; rfl
            | some v => obtain ⟨cv, h7, h8⟩ := hm; exact ⟨cv, by rw [h7]; rfl, h8.mono x6.le⟩
          · injection y2 with y2
            injection y1 with y1
            subst y2 y1
            injection y3 with y3 y6
            subst y3 y6
            obtain ⟨cv2, h7, h8⟩ := hm
            have h7' : fr.mode = .panicking ({ v := cv1, recovered := false } :: older) := y4
            rw [h7] at h7'
            injection h7' with h7'
            injection h7' with h7' h9
            subst h9
            exact key _ y5 rfl rfl ht rfl rfl
        · rename_i v h' rc'
          have hst := hst (by simp)
          obtain ⟨σ', cv, frX, cs', w', x1, x2, x3, x4, x5, x6, x7⟩ := hcall
          split
          · rcases x7 with ⟨y1, y2⟩ | ⟨v1, c1, rest, cv1, older, y1, _⟩
            · subst y2
              have h9 := step_going_panicked (P := P) (fr := frX) (c := { fr with defers := l' }) (cs := cs) (w := w') (chain := [{ v := cv, recovered := false }]) ⟨x2.1, x2.2.1, x2.2.2⟩
              refine LeaveOK.after ((Steps.one hst).trans (x1.trans (.one h9))) x6 rfl rfl (leave_ok hG hC dfs _ (some v) _ _ _ (hb.aft x6) (h3.mono x6.le) (he.mono x6.le) ht hf ⟨cv, ?_, x5⟩)
              have : fr.mode = .returning := hm
              show raised fr.mode _ = _
              rw [this]; rfl
            · simp at y1
          · trivial
        · trivial
      · cases hac
      · cases hac
    · trivial
end
end Go.Rk

namespace Go.Rk
open Go
set_option linter.unusedVariables false
set_option linter.unusedSimpArgs false
set_option linter.constructorNameAsVariable false
set_option linter.unusedSectionVars false
variable [TabC]
section
variable {P : Program} {F : Fns}
/-- regions that draw their order are done rightly -/
def DrawOK (P : Program) (F : Fns) : Prop := ∀ N, N < 4294967296 → ∀ id ops, KOK P F N (.region id ops true) (comp P N (.region id ops true))
def GoOK (P : Program) (F : Fns) : Prop := ∀ f args rc h, F.call f args rc h ≠ .fail → ∃ fn, P.funcs[f]? = some fn ∧ isGo fn = true
theorem code_ok (hG : GoOK P F) (hC : CallOK P F) (hR : RndOK P F) (hD : DrawOK P F) {N : Nat} (hN : N < 4294967296) (c : Code) : KOK P F N c (comp P N c) :=
  (comp_ok (fun i ops draw => by cases draw with
    | true => exact hD N hN i ops
    | false => exact region_ok hN hG hC hR i ops) (fun f ps a b => range_ok hG hC f ps a b) c).1

theorem mkEnv_get : ∀ (args : List AV) (i : Nat) (e : T) (j : Nat), i + args.length ≤ 4294967296 → j < 4294967296 →
    (mkEnv i args e).get j = if i ≤ j ∧ j < i + args.length then (args[j - i]?).getD .undef else e.get j
  | [], i, e, j, hi, hj => by
    rw [if_neg (by simp)]; rfl
  | v :: l, i, e, j, hi, hj => by
    simp only [List.length_cons] at hi
    rw [mkEnv, mkEnv_get l (Nat.succ i) _ j (by simp only [Nat.succ_eq_add_one]; omega) hj]
    simp only [Nat.succ_eq_add_one, List.length_cons]
    by_cases h1 : i + 1 ≤ j ∧ j < i + 1 + l.length
    · rw [if_pos h1, if_pos (by omega)]
      have : j - i = (j - (i + 1)) + 1 := by omega
      rw [this]; simp
    · rw [if_neg h1, T.get_put (by omega) hj]
      by_cases h2 : j = i
      · subst h2; rw [if_pos rfl, if_pos (by omega)]; simp
      · rw [if_neg h2, if_neg (by omega)]
theorem env_ok {σ : Sg} {args : List AV} {ca : Array Value} {n : Nat} (h : VRs σ args ca.toList) (hle : args.length ≤ n) (hn : n < 4294967296) : ER σ n (mkEnv 0 args .e) (ca ++ Array.replicate (n - ca.size) undef) := by
  have hlen := h.len
  simp only [Array.length_toList] at hlen
  refine ⟨by simp; omega, fun j hj => ?_⟩
  rw [mkEnv_get args 0 .e j (by omega) hj]
  by_cases hja : j < args.length
  · rw [if_pos (by omega)]
    have hv : args[j]? = some args[j] := by simp [hja]
    obtain ⟨c, hc, hvc⟩ := h.get hv
    have : (ca ++ Array.replicate (n - ca.size) undef).getD j undef = c := by
      rw [Array.getD_eq_getD_getElem?, Array.getElem?_append_left (by omega)]
      rw [Array.getElem?_toList] at hc
      rw [hc]; rfl
    rw [this, Nat.sub_zero, hv]
    exact hvc
  · rw [if_neg (by omega), T.get_e]
    trivial
theorem st_end {b : Frame} {t : Array Value} {ds : List Deferred} {cs : List Frame} {w : World} (hb : b.roundOf = none) : step P (lone (fat b t ds []) cs w) = .next (lone { fat b t ds [] with mode := .returning } cs w) := stepR_end (a := ⟨t, ds⟩) hb
theorem st_ret {b : Frame} {t : Array Value} {ds : List Deferred} {k : List Item} {cs : List Frame} {w : World} (hb : b.roundOf = none) : step P (lone (fat b t ds (.code .ret :: k)) cs w) = .next (lone { fat b t ds (.code .ret :: k) with mode := .returning } cs w) := stepR_ret (a := ⟨t, ds⟩) hb
theorem ares_eq : (fun r : ResultVar => match r with | .tmp t => ARes.tmp (tmp t) | .cell a t => .cell (tmp a) (agg? P t)) = ares P := by funext r; cases r <;> rfl
def AnsOK (P : Program) (σ : Sg) (h : Heap) (w : World) (m : Machine) (rc : Rec) (cs : List Frame) (kind : CallKind) (f : Nat) : CR → Prop
  | .fail => True
  | .ret v h' rc' => ∃ σ' c fr cs' w', Steps P m (lone fr cs' w') ∧ RetF P fr w' c ∧ fr.kind = kind ∧ fr.fn = f ∧ VR σ' v c ∧ Aft P σ h w σ' h' w' ∧ CsR rc cs rc' cs'
  | .pan v h' rc' => ∃ σ' c fr cs' w', Steps P m (lone fr cs' w') ∧ PanF P fr c ∧ fr.kind = kind ∧ fr.fn = f ∧ VR σ' v c ∧ Aft P σ h w σ' h' w' ∧ CsR rc cs rc' cs'
theorem CallOK.of (H : ∀ (σ : Sg) (f : Nat) (args : List AV) (ca : Array Value) (h : Heap) (w : World) (rc : Rec) (kind : CallKind) (cs : List Frame),
  Base P σ h w → VRs σ args ca.toList → RcR σ kind rc cs → kind = .normal ∨ kind = .deferred → AnsOK P σ h w (lone (Frame.enter P f ca kind) cs w) rc cs kind f (F.call f args rc h)) : CallOK P F := by
  intro σ f args ca h w rc kind cs h1 h2 h3 h4
  have := H σ f args ca h w rc kind cs h1 h2 h3 h4
  cases hx : F.call f args rc h <;> rw [hx] at this <;> exact this
theorem CallOK.to (H : CallOK P F) (σ : Sg) (f : Nat) (args : List AV) (ca : Array Value) (h : Heap) (w : World) (rc : Rec) (kind : CallKind) (cs : List Frame)
    (h1 : Base P σ h w) (h2 : VRs σ args ca.toList) (h3 : RcR σ kind rc cs) (h4 : kind = .normal ∨ kind = .deferred) : AnsOK P σ h w (lone (Frame.enter P f ca kind) cs w) rc cs kind f (F.call f args rc h) := by
  have := H σ f args ca h w rc kind cs h1 h2 h3 h4
  cases hx : F.call f args rc h <;> rw [hx] at this <;> exact this
theorem AnsOK.of_leave {σ σ1 : Sg} {h h1 : Heap} {w w1 : World} {m : Machine} {fr : Frame} {rc rc1 : Rec} {cs cs1 : List Frame} {x : CR} (hs : Steps P m (lone fr cs1 w1)) (ha : Aft P σ h w σ1 h1 w1) (hc : CsR rc cs rc1 cs1)
    (hx : LeaveOK P σ1 h1 w1 fr cs1 rc1 x) : AnsOK P σ h w m rc cs fr.kind fr.fn x := by
  cases x with
  | fail => trivial
  | ret v h' rc' =>
    obtain ⟨h0, σ', c, fr', w', x1, x2, x3, x4, x5, x6⟩ := hx
    exact ⟨σ', c, fr', cs1, w', hs.trans x1, x2, x3, x4, x5, ha.trans x6, by rw [h0]; exact hc⟩
  | pan v h' rc' =>
    obtain ⟨h0, σ', c, fr', w', x1, x2, x3, x4, x5, x6⟩ := hx
    exact ⟨σ', c, fr', cs1, w', hs.trans x1, x2, x3, x4, x5, ha.trans x6, by rw [h0]; exact hc⟩
theorem leaveX_ok (hG : GoOK P F) (hC : CallOK P F) {N : Nat} {fn : Func} {σ : Sg} {b : Frame} {h : Heap} {w : World} {rc : Rec} {cs : List Frame} {m : Machine} (hb : b.roundOf = none) (hf : P.funcs[b.fn]? = some fn) {x : XR} (hx : XOK P σ N b h w rc cs [] m x) :
    AnsOK P σ h w m rc cs b.kind b.fn (leaveX F.call (fn.results.toList.map (ares P)) x) := by
  cases x with
  | fail => trivial
  | exit => trivial
  | goto => trivial
  | nrm e' h' d' =>
    obtain ⟨σ', t', ds', cs', w', x1, x2, x3, x4, _⟩ := hx
    exact AnsOK.of_leave (fr := { fat b t' ds' [] with mode := .returning }) (x1.trans (.one (st_end hb))) x3 x4 (leave_ok hG hC d'.dfs h' none σ' w' _ x2.base x2.df x2.er rfl hf rfl)
  | ret e' h' d' =>
    obtain ⟨k', σ', t', ds', cs', w', x1, x2, x3, x4, _⟩ := hx
    exact AnsOK.of_leave (fr := { fat b t' ds' (.code .ret :: k') with mode := .returning }) (x1.trans (.one (st_ret hb))) x3 x4 (leave_ok hG hC d'.dfs h' none σ' w' _ x2.base x2.df x2.er rfl hf rfl)
  | pan v e' h' d' =>
    obtain ⟨k', cv, σ', t', ds', cs', w', x1, x2, x3, x4, x5⟩ := hx
    exact AnsOK.of_leave (fr := { fat b t' ds' k' with mode := .panicking [{ v := cv, recovered := false }] }) x1 x3 x4 (leave_ok hG hC d'.dfs h' (some v) σ' w' _ x2.base x2.df x2.er rfl hf ⟨cv, rfl, x5⟩)
theorem callC_cases (f : Nat) (args : List AV) (rc : Rec) (h : Heap) : callC P F f args rc h = .fail ∨ ∃ fn c, P.funcs[f]? = some fn ∧ fn.body = some c ∧ isGo fn = true ∧ fn.ntmps < 4294967296 ∧ args.length ≤ fn.ntmps ∧
    callC P F f args rc h = leaveX F.call (fn.results.toList.map (ares P)) ((comp P fn.ntmps c).run F (mkEnv 0 args .e) h { dfs := [], rc := rc, rnd := none }) := by
  unfold callC fnOf
  cases hf : P.funcs[f]? with
  | none => exact .inl rfl
  | some fn =>
    show (bif Nat.ble args.length fn.ntmps then leaveX F.call (cfunc P fn).res ((cfunc P fn).body.run F (mkEnv 0 args .e) h { dfs := [], rc := rc, rnd := none }) else .fail) = .fail ∨ _
    cases hle : Nat.ble args.length fn.ntmps with
    | false => exact .inl rfl
    | true =>
      rw [cond_true]
      cases hb : fn.body with
      | none =>
        left
        unfold cfunc
        simp only [hb]
        rfl
      | some c =>
        by_cases hg : (isGo fn && Nat.blt fn.ntmps 4294967296) = true
        · right
          have hg' := hg
          rw [Bool.and_eq_true] at hg'
          refine ⟨fn, c, rfl, hb, hg'.1, blt_iff.1 hg'.2, ble_iff.1 hle, ?_⟩
          unfold cfunc
          simp only [hb, hg, if_true]
          unfold callF
          simp only [hle, cond_true]
          congr 1
        · left
          unfold cfunc
          simp only [hb, if_neg hg]
          rfl
theorem callC_ok (hG : GoOK P F) (hC : CallOK P F) (hR : RndOK P F) (hD : DrawOK P F) {n : Nat} {rnd : Nat → List AV → Heap → CR} : CallOK P { fuel := n, call := callC P F, rnd := rnd } := by
  refine CallOK.of fun σ f args ca h w rc kind cs hb hargs hrc hk => ?_
  show AnsOK P σ h w _ rc cs kind f (callC P F f args rc h)
  rcases callC_cases (P := P) (F := F) f args rc h with h0 | ⟨fn, c, hf, hbody, hgo, hn, hle, h0⟩
  · rw [h0]; trivial
  rw [h0]
  have hen : Frame.enter P f ca kind = fat (Frame.enter P f ca kind) (ca ++ Array.replicate (fn.ntmps - ca.size) undef) [] [.code c] := by
    simp [Frame.enter, fat, hf, hbody]
  have hs : SR P σ fn.ntmps (Frame.enter P f ca kind) (mkEnv 0 args .e) h { dfs := [], rc := rc, rnd := none } (ca ++ Array.replicate (fn.ntmps - ca.size) undef) [] cs w :=
    ⟨env_ok hargs hle hn, hb.hr, hb.fr, hb.dm, hb.gl, rfl, rfl, hrc, ⟨fn, hf⟩⟩
  have hx := code_ok hG hC hR hD hn c σ (Frame.enter P f ca kind) _ h _ _ _ cs w [] hs
  rw [← hen] at hx
  exact leaveX_ok hG hC (b := Frame.enter P f ca kind) rfl hf hx
theorem setAll_ok {σ : Sg} {N : Nat} (hN : N < 4294967296) : ∀ (ps : List Nat) (args : List AV) (ca : List Value) (e : T) (tm : Array Value) (k : T → CR), VRs σ args ca → ER σ N e tm →
    setAll N ps args e k = .fail ∨ ∃ e', setAll N ps args e k = k e' ∧ ps.length = ca.length ∧ ER σ N e' ((ps.zip ca).foldl (fun tmps p => tmps.setIfInBounds p.1 p.2) tm)
  | [], [], ca, e, tm, k, h, he => by
    simp only [VRs] at h; subst h
    exact .inr ⟨e, rfl, rfl, he⟩
  | [], _ :: _, ca, e, tm, k, h, he => .inl rfl
  | _ :: _, [], ca, e, tm, k, h, he => .inl rfl
  | p :: ps, v :: vs, ca, e, tm, k, h, he => by
    simp only [VRs] at h
    obtain ⟨c, l', rfl, h1, h2⟩ := h
    rw [setAll]
    cases hp : Nat.blt p N with
    | false => exact .inl rfl
    | true =>
      rw [cond_true]
      rcases setAll_ok hN ps vs l' _ _ k h2 (he.put (blt_iff.1 hp) hN h1) with h0 | ⟨e', h3, h4, h5⟩
      · exact .inl h0
      · exact .inr ⟨e', h3, by simp [h4], h5⟩
def RAns (P : Program) (σ : Sg) (h : Heap) (w : World) (m : Machine) (c : Frame) (cs : List Frame) : CR → Prop
  | .fail => True
  | .ret v h' _ => ∃ σ' x w', Steps P m (lone (c.finish x) cs w') ∧ VR σ' v x ∧ Aft P σ h w σ' h' w'
  | .pan v h' _ => ∃ σ' x w', Steps P m (lone (c.raise [{ v := x, recovered := false }]) cs w') ∧ VR σ' v x ∧ Aft P σ h w σ' h' w'
theorem RAns.after {σ σ1 : Sg} {h h1 : Heap} {w w1 : World} {m m1 : Machine} {c : Frame} {cs : List Frame} {x : CR} (hs : Steps P m m1) (ha : Aft P σ h w σ1 h1 w1) (hx : RAns P σ1 h1 w1 m1 c cs x) : RAns P σ h w m c cs x := by
  cases x with
  | fail => trivial
  | ret v h' rc => obtain ⟨σ', x, w', x1, x2, x3⟩ := hx; exact ⟨σ', x, w', hs.trans x1, x2, ha.trans x3⟩
  | pan v h' rc => obtain ⟨σ', x, w', x1, x2, x3⟩ := hx; exact ⟨σ', x, w', hs.trans x1, x2, ha.trans x3⟩
theorem RndOK.of (H : ∀ (σ : Sg) (l : Nat) (L : Loc) (args : List AV) (ca : Array Value) (h : Heap) (w : World) (c : Frame) (cs : List Frame) (m : Machine),
  Base P σ h w → σ l 0 = some L → VRs σ args ca.toList → (∀ lf f tmps as bd w1, (Instr.yield L.blk ca).run P w = .ok (.round lf f tmps as bd) w1 → step P m = .next (lone (Frame.round lf f tmps as bd .normal) (c :: cs) w1)) →
  RAns P σ h w m c cs (F.rnd l args h)) : RndOK P F := by
  intro σ l L args ca h w c cs m h1 h2 h3 h4
  have := H σ l L args ca h w c cs m h1 h2 h3 h4
  cases hx : F.rnd l args h <;> rw [hx] at this <;> exact this
/-- a round's end -/
theorem endR_ok {σ : Sg} {l : Nat} {L : Loc} (hL : σ l 0 = some L) {lp : ALoop} {bb : Bool} {pend : Option Code} (hbp : bb = pend.isNone) {h : Heap} {d : Ds} {w : World} {c : Frame} {cs : List Frame} {m : Machine} (hb : Base P σ h w)
    (hst : ∀ w1, (Instr.endRound L.blk pend).run P w = .ok (.bool bb) w1 → Steps P m (lone (c.finish (.bool bb)) cs w1)) : RAns P σ h w m c cs (endR l lp bb pend h d) := by
  unfold endR
  split
  · split
    · rename_i lp' ho
      obtain ⟨L', hL', hob⟩ := hb.hr.obj l _ ho
      simp only [genOf] at hL'
      rw [hL] at hL'; cases hL'
      obtain ⟨r, hbk, h1, h2, h3, h4, h5, h6, h7⟩ := hob
      have hrun : (Instr.endRound L.blk pend).run P w = .ok (.bool bb) (wset w L.blk (.loop { r with state := (if pend.isNone then .ready else .done), pending := pend })) := by
        simp only [Instr.endRound, Sem.run_bind, run_getLoop hbk, Result.andThen_ok, run_setLoop hbk, Sem.run_pure, hbp]
      refine ⟨σ, .bool bb, _, hst _ hrun, by simp only [VR], ?_⟩
      refine Aft.mkPut (obj := .loop { r with state := (if pend.isNone then .ready else .done), pending := pend }) hb.hr ho hL rfl ⟨_, rfl, ?_, rfl, h3, h4, h5, h6, h7⟩ rfl Like.wset
      simp only [hbp]
      cases pend <;> rfl
    · trivial
  · trivial
theorem roundC_ok (hG : GoOK P F) (hC : CallOK P F) (hR : RndOK P F) (hD : DrawOK P F) {n : Nat} {call : Nat → List AV → Rec → Heap → CR} : RndOK P { fuel := n, call := call, rnd := roundC P F } := by
  refine RndOK.of fun σ l L args ca h w c cs m hb hL hargs hm => ?_
  show RAns P σ h w m c cs (roundC P F l args h)
  unfold roundC
  split
  · rename_i lp ho
    cases hlt : Nat.blt lp.n 4294967296 with
    | false => trivial
    | true =>
      rw [cond_true]
      have hN := blt_iff.1 hlt
      obtain ⟨L', hL', hob⟩ := hb.hr.obj l _ ho
      simp only [genOf] at hL'
      rw [hL] at hL'; cases hL'
      obtain ⟨r, hbk, h1, h2, h3, h4, h5, h6, h7⟩ := hob
      rcases setAll_ok hN lp.ps args ca.toList lp.env r.tmps (fun e => roundB P F l lp ((comp P lp.n lp.assign).run F e h { dfs := [], rc := none, rnd := some l })) hargs h3 with h0 | ⟨e', h0, hlen, her⟩
      · rw [h0]; trivial
      rw [h0]
      have hyield : (Instr.yield L.blk ca).run P w = .ok (.round L.blk r.fn ((r.params.zip ca).foldl (fun tmps (t, a) => tmps.setIfInBounds t a) r.tmps) r.assign r.body) w := by
        have hsz : ca.size = r.params.size := by
          rw [← h4] at hlen
          simpa using hlen.symm
        simp only [Instr.yield, Sem.run_bind, run_getLoop hbk, Result.andThen_ok, hsz, ne_eq, not_true_eq_false, if_false, Sem.run_pure]
      have hstep := hm _ _ _ _ _ _ hyield
      have htm : (r.params.zip ca).foldl (fun tmps (t, a) => tmps.setIfInBounds t a) r.tmps = (lp.ps.zip ca.toList).foldl (fun tmps p => tmps.setIfInBounds p.1 p.2) r.tmps := by
        rw [← Array.foldl_toList, Array.toList_zip, h4]
      rw [htm] at hstep
      generalize (lp.ps.zip ca.toList).foldl (fun tmps p => tmps.setIfInBounds p.1 p.2) r.tmps = tm at hstep her
      generalize hbf : Frame.round L.blk r.fn tm r.assign r.body .normal = b at hstep
      have hbe : b = fat b tm [] [.code r.assign, .beginRound, .code r.body] := by subst hbf; rfl
      have hbr : b.roundOf = some L.blk := by subst hbf; rfl
      have hbk' : b.kind = .normal := by subst hbf; rfl
      have hbfn : ∃ f, P.funcs[b.fn]? = some f := by subst hbf; exact h7
      have hs : SR P σ lp.n b e' h { dfs := [], rc := none, rnd := some l } tm [] (c :: cs) w := ⟨her, hb.hr, hb.fr, hb.dm, hb.gl, rfl, ⟨L, hL, hbr⟩, trivial, hbfn⟩
      have hx := code_ok hG hC hR hD hN r.assign σ b e' h _ _ _ (c :: cs) w [.beginRound, .code r.body] hs
      rw [← hbe] at hx
      refine RAns.after (.one hstep) (Aft.refl hb.hr) ?_
      rw [h5] at hx
      clear hbe hstep hs
      cases hr : (comp P lp.n lp.assign).run F e' h { dfs := [], rc := none, rnd := some l } <;> rw [hr] at hx <;> try trivial
      rename_i e1 h1' d1
      obtain ⟨σ1, t1, ds1, cs1, w1, x1, x2, x3, x4, _⟩ := hx
      have hcs : cs1 = c :: cs ∧ d1.rc = none := by
        rcases x4 with ⟨y1, y2⟩ | ⟨_, _, _, _, _, y1, _⟩
        · exact ⟨y2, y1⟩
        · cases y1
      obtain ⟨rfl, hrc1⟩ := hcs
      refine RAns.after x1 x3 ?_
      have hL1 := x3.le _ _ _ hL
      show RAns P σ1 h1' w1 _ c cs (match h1'.t.get l with
        | some (.loop lp') => (match lp'.st with
          | .ready => endRound l lp ((comp P lp.n lp.body).run F e1 (h1'.put l (.loop { lp' with st := .busy })) d1)
          | _ => .fail)
        | _ => .fail)
      split
      · rename_i lp' ho'
        split
        · rename_i hrdy
          obtain ⟨L', hL', hob'⟩ := x2.hr.obj l _ ho'
          simp only [genOf] at hL'
          rw [hL1] at hL'; cases hL'
          obtain ⟨r', hbk1, g1, g2, g3, g4, g5, g6, g7⟩ := hob'
          have hbeg : (Instr.beginRound L.blk).run P w1 = .ok () (wset w1 L.blk (.loop { r' with state := .busy })) := by
            have : r'.state = .ready := by rw [g1, hrdy]
            simp only [Instr.beginRound, Sem.run_bind, run_getLoop hbk1, Result.andThen_ok, run_setLoop hbk1, this, Sem.run_pure]
          have ha : Aft P σ1 h1' w1 σ1 (h1'.put l (.loop { lp' with st := .busy })) (wset w1 L.blk (.loop { r' with state := .busy })) :=
            Aft.mkPut (obj := .loop { r' with state := .busy }) x2.hr ho' hL1 rfl ⟨_, rfl, rfl, g2, g3, g4, g5, g6, g7⟩ rfl Like.wset
          have hs1 := stepR_beginRound (P := P) (b := b) (a := ⟨t1, ds1⟩) (k := [.code r.body]) (cs := c :: cs) hbr hbeg
          refine RAns.after (.one hs1) ha ?_
          have hx2 := code_ok hG hC hR hD hN r.body σ1 b e1 _ d1 t1 ds1 (c :: cs) _ [] (x2.aft ha)
          rw [h6] at hx2 ⊢
          rw [hrc1] at hx2
          clear hs1 hbeg x1 x2 hm hyield htm
          generalize (wset w1 L.blk (.loop { r' with state := .busy })) = w2 at ha hx2 ⊢
          generalize (h1'.put l (.loop { lp' with st := .busy })) = h2' at ha hx2 ⊢
          show RAns P σ1 h2' w2 (lone (fat b t1 ds1 [.code lp.body]) (c :: cs) w2) c cs (endRound l lp ((comp P lp.n lp.body).run F e1 h2' d1))
          cases hr2 : (comp P lp.n lp.body).run F e1 h2' d1 <;> rw [hr2] at hx2
          · rename_i e3 h3' d3
            obtain ⟨σ3, t3, ds3, cs3, w3, z1, z2, z3, z4, _⟩ := hx2
            have hcs : cs3 = c :: cs := by
              rcases z4 with ⟨_, y2⟩ | ⟨_, _, _, _, _, y1, _⟩
              · exact y2
              · cases y1
            subst hcs
            refine RAns.after z1 z3 (endR_ok (lp := lp) (z3.le _ _ _ hL1) rfl z2.base fun w4 hw4 => .one (stepR_round_end (a := ⟨t3, ds3⟩) hbr hbk' hw4))
          · rename_i i e3 h3' d3
            obtain ⟨k', hk', σ3, t3, ds3, cs3, w3, z1, z2, z3, z4, _⟩ := hx2
            have hcs : cs3 = c :: cs := by
              rcases z4 with ⟨_, y2⟩ | ⟨_, _, _, _, _, y1, _⟩
              · exact y2
              · cases y1
            subst hcs
            refine RAns.after z1 z3 (endR_ok (lp := lp) (z3.le _ _ _ hL1) rfl z2.base fun w4 hw4 => .one (stepR_round_exit (a := ⟨t3, ds3⟩) hbr hbk' hk' hw4))
          · trivial
          · rename_i e3 h3' d3
            obtain ⟨k', σ3, t3, ds3, cs3, w3, z1, z2, z3, z4, _⟩ := hx2
            have hcs : cs3 = c :: cs := by
              rcases z4 with ⟨_, y2⟩ | ⟨_, _, _, _, _, y1, _⟩
              · exact y2
              · cases y1
            subst hcs
            refine RAns.after z1 z3 (endR_ok (lp := lp) (z3.le _ _ _ hL1) rfl z2.base fun w4 hw4 => .one (stepR_round_ret (a := ⟨t3, ds3⟩) hbr hbk' hw4))
          · rename_i v e3 h3' d3
            obtain ⟨k', cv, σ3, t3, ds3, cs3, w3, z1, z2, z3, z4, z5⟩ := hx2
            have hcs : cs3 = c :: cs := by
              rcases z4 with ⟨_, y2⟩ | ⟨_, _, _, _, _, y1, _⟩
              · exact y2
              · cases y1
            subst hcs
            show RAns P σ1 h2' w2 _ c cs (match d3.dfs with | [] => .pan v h3' none | _ => .fail)
            split
            · rename_i hd3
              have hdf := z2.df
              rw [hd3] at hdf
              have hdf : ds3 = [] := hdf
              subst hdf
              have hl := step_leave_panicked (P := P) (fr := { fat b t3 [] k' with mode := .panicking [{ v := cv, recovered := false }] }) (c := c) (cs := cs) (w := w3) (chain := [{ v := cv, recovered := false }]) ⟨rfl, rfl, hbfn⟩
              exact ⟨σ3, cv, w3, z1.trans (.one hl), z5, z3⟩
            · trivial
          · trivial
        · trivial
      · trivial
  · trivial
theorem callC_go : ∀ f args rc h, callC P F f args rc h ≠ .fail → ∃ fn, P.funcs[f]? = some fn ∧ isGo fn = true := by
  intro f args rc h hne
  rcases callC_cases (P := P) (F := F) f args rc h with h0 | ⟨fn, c, hf, _, hgo, _⟩
  · exact absurd h0 hne
  · exact ⟨fn, hf, hgo⟩
theorem fns_ok (hD : ∀ F, GoOK P F → CallOK P F → RndOK P F → DrawOK P F) : ∀ k, GoOK P (fns P k) ∧ CallOK P (fns P k) ∧ RndOK P (fns P k)
  | 0 => ⟨fun _ _ _ _ h => absurd rfl h, fun _ _ _ _ _ _ _ _ _ _ _ _ _ => trivial, fun _ _ _ _ _ _ _ _ _ _ _ _ _ _ => trivial⟩
  | k + 1 => by
    obtain ⟨h1, h2, h3⟩ := fns_ok hD k
    exact ⟨callC_go, callC_ok h1 h2 h3 (hD _ h1 h2 h3), roundC_ok h1 h2 h3 (hD _ h1 h2 h3)⟩
end
end Go.Rk
