/-
  A step of the proof of this seat's statement. No condition.
-/
import Derived.Test.YtjjjhkdpnpjnhaaGreatDoorCards
import Derived.Test.YtjjjhkdpnpjnhaaGreatDoorTie
import Derived.ProofKit
import Derived.LaidMore
import Derived.OpenShut
import Derived.SevenTiedAt
import Derived.Lay
import Derived.Stop.Joined
import Derived.Test.YtjjjhkdpnpjnhaaGreatDoorD
import Derived.Test.YtjjjhkdpnpjnhaaGreatDoorG
import Derived.Test.YtjjjhkdpnpjnhaaGreatDoorSC
namespace Go.Proofs.YtjjjhkdpnpjnhaaGreatDoor
open Go Go.ChangeShapes Go.WideShapes Go.ChangeAt Go.RowKit Go.Rk Go.ChangeMaps
set_option maxRecDepth 100000
set_option linter.unusedVariables false
set_option linter.unusedSimpArgs false
set_option linter.constructorNameAsVariable false
set_option linter.unusedSectionVars false
theorem own : ownKnob Tryz.prog.godebug = Option.none := by kernel_rfl
theorem u64s_VRs {σ : Sg} : ∀ (L : List Nat), VRs σ (u64s L) ((L.map Int.ofNat).map fun z => Value.int .u64 z)
  | [] => VRs.nil
  | a :: l => VRs.cons (by simp only [VR]) (u64s_VRs l)
theorem laidPw : (Rows.laid_internal_strconv_uint64pow10 : DataW Unit) = Lib.tabData .u64 (pw.map Int.ofNat) := by kernel_rfl
theorem maxLenOf {W : World} (hs : W.ShapedOpen Tryz.prog) : ∃ M, W.heap[0]? = some (.cells #[.int .i64 M] 3 (0, 0)) :=
  intVar hs (by kernel_rfl) (by kernel_rfl) (by kernel_rfl) (by kernel_rfl) (by kernel_rfl)
theorem powOf {W : World} (hs : W.ShapedOpen Tryz.prog) (hl : laidMet Tryz.prog [("math/bits.deBruijn32tab", Rows.laid_math_bits_deBruijn32tab), ("math/bits.deBruijn64tab", Rows.laid_math_bits_deBruijn64tab), ("internal/strconv.uint64pow10", Rows.laid_internal_strconv_uint64pow10), ("unicode/utf8.acceptRanges", Rows.laid_unicode_utf8_acceptRanges), ("strconv.ErrRange", Rows.laid_strconv_ErrRange), ("strconv.ErrSyntax", Rows.laid_strconv_ErrSyntax), ("unicode.CaseRanges", Rows.laid_unicode_CaseRanges), ("unicode/utf8.first", Rows.laid_unicode_utf8_first)] W) : ∃ c, W.heap[2]? = some (.cells c 271 (0, 0)) ∧ c.toList = (pw.map Int.ofNat).map fun z => Value.int .u64 z := by
  obtain ⟨ps, hv, _⟩ := hl
  obtain ⟨c2, h2, hn2⟩ := varCells (g := 2) (t := 271) (n := 20) hs (by kernel_rfl) (by kernel_rfl)
  refine ⟨c2, h2, ?_⟩
  obtain ⟨g, t, cs, fuel, p, k1, k2, k3, k4⟩ := laid_reads hv _ _ (List.mem_cons_of_mem _ (List.mem_cons_of_mem _ List.mem_cons_self))
  obtain rfl := Option.some.inj ((show Tryz.prog.globalNamed "internal/strconv.uint64pow10" = some 2 by kernel_rfl).symm.trans k1)
  obtain rfl := Option.some.inj ((show (Tryz.prog.globals[2]?).map (·.type) = some 271 by kernel_rfl).symm.trans k2)
  obtain rfl := var_cells k1 h2 k3
  rw [laidPw] at k4
  exact Lib.cells_of_tab (n := 20) (e := 177) (by kernel_rfl) (by kernel_rfl) (by kernel_rfl) (by kernel_rfl) k4
theorem tabPair (M : Int) : (tb M).tabs.Pairwise (fun (x y : Nat × AObj) => x.1 ≠ y.1) := by
  show List.Pairwise _ [tMx M, tPw]
  simp
theorem tabW {W : World} {M : Int} (h0 : W.heap[0]? = some (.cells #[.int .i64 M] 3 (0, 0))) {c2 : Array Value} (h2 : W.heap[2]? = some (.cells c2 271 (0, 0))) (e2 : c2.toList = (pw.map Int.ofNat).map fun z => Value.int .u64 z) : @TabW (tb M) W := by
  intro x hx
  have hx : x ∈ [tMx M, tPw] := hx
  simp only [List.mem_cons, List.mem_nil_iff, or_false] at hx
  rcases hx with rfl | rfl
  · exact ⟨_, _, _, _, _, _, rfl, h0, .inl rfl, VRs.cons (by simp only [VR]) VRs.nil⟩
  · exact ⟨_, _, _, _, _, _, rfl, h2, .inl rfl, by rw [e2]; exact u64s_VRs _⟩
/-! arguments: rows of texts -/
theorem add_block (a : Addr) (n : Nat) : (a.add n).block = a.block := by unfold Addr.add; split <;> rfl
theorem add_off (a : Addr) (n : Nat) : (a.add n).off = a.off + n := by unfold Addr.add; split <;> simp_all
theorem strs_block {W : World} {a : Addr} {cap : Nat} (h : ∀ i, i < cap → ∃ cs, W.cells? 0 (a.add (i * 1)) 1 = some cs ∧ LeafsOK [.s] cs) (hc : 0 < cap) :
    a.spot = none ∧ ∃ c ty z, W.heap[a.block]? = some (.cells c ty z) ∧ ∀ i, i < cap → ∃ s : ByteArray, c[a.off + i]? = some (.string s) := by
  obtain ⟨cs, h1, _⟩ := h 0 hc
  obtain ⟨hs, _, c, ty, z, hz, _⟩ := cells_block h1 (Nat.lt_succ_self 0)
  have e0 : a.add (0 * 1) = a := rfl
  rw [e0] at hs hz
  refine ⟨hs, c, ty, z, hz, fun i hi => ?_⟩
  obtain ⟨cs, h1, h2⟩ := h i hi
  obtain ⟨_, _, c', ty', z', hz', hg⟩ := cells_block h1 (Nat.lt_succ_self 0)
  rw [add_block, hz] at hz'
  cases hz'
  have := hg 0 (Nat.lt_succ_self 0)
  rw [add_off] at this
  obtain ⟨x, cs', rfl, ⟨s, rfl, _⟩, _⟩ := h2
  exact ⟨s, by simpa using this⟩
theorem txt_of {c : Array Value} {o l cap : Nat} (hl : l ≤ cap) (h : ∀ i, i < cap → ∃ s : ByteArray, c[o + i]? = some (.string s)) : Txt (c.toList.map avOf) o l := by
  intro i hi
  obtain ⟨s, hs⟩ := h i (by omega)
  refine ⟨s.data.toList, ?_⟩
  rw [Nat.mul_one, List.getElem?_map, Array.getElem?_toList, hs]
  rfl
/-- an argument that is a row of texts in a block -/
structure Sl (W : World) (v : Value) (b : Nat) (c : Array Value) (ty o l k : Nat) : Prop where
  blk : ∃ z, W.heap[b]? = some (.cells c ty z)
  vr : ∀ (σ : Sg) (i : Nat), σ i 0 = some ⟨b, 0, c.size⟩ → VR σ (.slice i 0 o l k 1 false) v
  txt : Txt (c.toList.map avOf) o l
  lt : l < 9223372036854775808
  nt : b ≠ 0 ∧ b ≠ 2
def isS (W : World) (v : Value) : Prop := v = .slice none 0 0 ∨ ∃ a len cap, v = .slice (some a) len cap ∧ len ≤ cap ∧ cap ≤ maxLen ∧ ∀ i, i < cap → ∃ cs, W.cells? 0 (a.add (i * 1)) 1 = some cs ∧ LeafsOK [.s] cs
theorem maxLen_eq : maxLen = 9223372036854775807 := by unfold maxLen; rfl
theorem dummy {W : World} (hs : W.ShapedOpen Tryz.prog) (b : Nat) : ∃ d c ty z, d ≠ b ∧ (d ≠ 0 ∧ d ≠ 2) ∧ W.heap[d]? = some (.cells c ty z) := by
  obtain ⟨c7, h7, _⟩ := varCells (g := 7) (t := 333) (n := 32) hs (by kernel_rfl) (by kernel_rfl)
  obtain ⟨c8, h8, _⟩ := varCells (g := 8) (t := 334) (n := 64) hs (by kernel_rfl) (by kernel_rfl)
  by_cases h : b = 7
  · exact ⟨8, c8, _, _, by omega, by omega, h8⟩
  · exact ⟨7, c7, _, _, by omega, by omega, h7⟩
theorem slOf {W : World} (hs : W.ShapedOpen Tryz.prog) {M : Int} (h0 : W.heap[0]? = some (.cells #[.int .i64 M] 3 (0, 0))) {c2 : Array Value} (h2 : W.heap[2]? = some (.cells c2 271 (0, 0))) (e2 : c2.toList = (pw.map Int.ofNat).map fun z => Value.int .u64 z) {v : Value} (hv : isS W v) :
    v = .slice none 0 0 ∨ ∃ b c ty o l k, Sl W v b c ty o l k := by
  rcases hv with hv | ⟨a, len, cap, rfl, hlc, hcm, hv⟩
  · exact .inl hv
  · right
    rw [maxLen_eq] at hcm
    by_cases hc : cap = 0
    · subst hc
      have hl0 : len = 0 := by omega
      subst hl0
      obtain ⟨d, c, ty, z, _, hd, hz⟩ := dummy hs 0
      exact ⟨d, c, ty, 0, 0, 0, ⟨z, hz⟩, fun σ i hσ => by
        simp only [VR]
        exact ⟨_, a, 0, hσ, rfl, Nat.le_refl _, Nat.le_refl _, (fun h => by cases h), .inl rfl⟩, fun i hi => by omega, by omega, hd⟩
    · obtain ⟨hsp, c, ty, z, hz, hg⟩ := strs_block hv (by omega)
      have hbd : a.off + cap ≤ c.size := by
        obtain ⟨s, h⟩ := hg (cap - 1) (by omega)
        have := (Array.getElem?_eq_some_iff.1 h).1
        omega
      refine ⟨a.block, c, ty, a.off, len, cap, ⟨z, hz⟩, fun σ i hσ => ?_, txt_of hlc hg, by omega, fun e => ?_, fun e => ?_⟩
      · simp only [VR]
        refine ⟨_, a, cap, hσ, rfl, hlc, Nat.le_refl _, (fun h => by cases h), .inr ⟨Nat.zero_le _, ?_, by show a.off - 0 + cap * 1 ≤ c.size; omega⟩⟩
        obtain ⟨bb, oo, ss⟩ := a
        simp only at hsp
        subst hsp
        rfl
      · rw [e, h0] at hz
        cases hz
        obtain ⟨s, h⟩ := hg 0 (by omega)
        have h3 := (Array.getElem?_eq_some_iff.1 h).1
        simp only [Nat.add_zero] at h h3
        have : a.off = 0 := by simpa using h3
        rw [this] at h
        simp at h
      · rw [e, h2] at hz
        cases hz
        obtain ⟨s, h⟩ := hg 0 (by omega)
        rw [← Array.getElem?_toList, e2] at h
        have := List.mem_of_getElem? h
        simp at this
theorem HA_eq [MaxL] (c1 c2 : List Value) (t1 f1 t2 f2 : Nat) : ((hpT P).new (argO c1 t1 f1)).new (argO c2 t2 f2) = HA (c1.map avOf) t1 f1 (c2.map avOf) t2 f2 := by kernel_rfl
theorem next9 [MaxL] : (hpT P).next = 9 := by kernel_rfl
theorem base2 [MaxL] {W : World} (hT : TabW W) {b1 b2 t1 t2 : Nat} {c1 c2 : Array Value} {z1 z2 : Nat × Nat} (h1 : W.heap[b1]? = some (.cells c1 t1 z1)) (h2 : W.heap[b2]? = some (.cells c2 t2 z2)) (hn : b1 ≠ b2) (n1 : b1 ≠ 0 ∧ b1 ≠ 2) (n2 : b2 ≠ 0 ∧ b2 ≠ 2) :
    ∃ σ, Base P σ (HA (c1.toList.map avOf) t1 (c1.size + 1) (c2.toList.map avOf) t2 (c2.size + 1)) W ∧ σ 9 0 = some ⟨b1, 0, c1.size⟩ ∧ σ 10 0 = some ⟨b2, 0, c2.size⟩ := by
  have hB := baseT (P := P) tabOKM (tabPair MaxL.M) hT
  have ht : ∀ i o L, (hpT P).t.get i = some o → sgT P W i (genOf o) = some L → L.blk = 0 ∨ L.blk = 2 := by
    intro i o L hi hL
    have hm := tree_mem hi
    have hm : (i, o) ∈ [tMx MaxL.M, tPw] := hm
    have hb : L.blk = i := by
      unfold sgT at hL
      split at hL
      · cases hL; rfl
      · cases hL
    simp only [List.mem_cons, List.mem_nil_iff, or_false] at hm
    rcases hm with h | h <;> (injection h with h _; subst h; rw [hb]; simp)
  obtain ⟨l1, u1⟩ := z1
  obtain ⟨l2, u2⟩ := z2
  have hA := hB.arg h1 (fz := c1.size + 1) (Nat.lt_succ_self _) (fun i o L hi hL => by rcases ht i o L hi hL with h | h <;> rw [h] <;> omega)
  rw [next9] at hA
  have hA2 := hA.arg h2 (fz := c2.size + 1) (Nat.lt_succ_self _) (fun i o L hi hL => by
    rw [new_get, next9] at hi
    split at hi
    · rename_i e
      cases hi
      subst e
      rw [show genOf (argO c1.toList t1 (c1.size + 1)) = 0 from rfl, Sg.set_same] at hL
      cases hL
      exact hn
    · rename_i e
      rw [Sg.set_other _ _ _ _ (fun x => e x.1)] at hL
      rcases ht i o L hi hL with h | h <;> rw [h] <;> omega)
  rw [HA_eq] at hA2
  have e10 : ((hpT P).new (argO c1.toList t1 (c1.size + 1))).next = 10 := by rw [new_next, next9]
  rw [e10] at hA2
  exact ⟨_, hA2, by rw [Sg.set_other _ _ _ _ (by omega)]; exact Sg.set_same _ _ _ _, Sg.set_same _ _ _ _⟩
theorem ro2 [MaxL] {c1 c2 : Array Value} {t1 t2 : Nat} : ∀ i o, (HA (c1.toList.map avOf) t1 (c1.size + 1) (c2.toList.map avOf) t2 (c2.size + 1)).t.get i = some o → isRo o = true := by
  intro i o hi
  rw [← HA_eq, new_get] at hi
  split at hi
  · cases hi
    show Nat.blt (c2.toList.map avOf).length (c2.size + 1) = true
    exact blt_iff.2 (by simp)
  · rw [new_get] at hi
    split at hi
    · cases hi
      show Nat.blt (c1.toList.map avOf).length (c1.size + 1) = true
      exact blt_iff.2 (by simp)
    · exact TabC.ro _ (tree_mem hi)
theorem call3 (v0 v1 : Value) (W : World) (hs : W.ShapedOpen Tryz.prog) (hl : laidMet Tryz.prog [("math/bits.deBruijn32tab", Rows.laid_math_bits_deBruijn32tab), ("math/bits.deBruijn64tab", Rows.laid_math_bits_deBruijn64tab), ("internal/strconv.uint64pow10", Rows.laid_internal_strconv_uint64pow10), ("unicode/utf8.acceptRanges", Rows.laid_unicode_utf8_acceptRanges), ("strconv.ErrRange", Rows.laid_strconv_ErrRange), ("strconv.ErrSyntax", Rows.laid_strconv_ErrSyntax), ("unicode.CaseRanges", Rows.laid_unicode_CaseRanges), ("unicode/utf8.first", Rows.laid_unicode_utf8_first)] W) (hv0 : isS W v0) (hv1 : isS W v1) :
    Calls Tryz.prog 3 #[v0, v1] W fun e w' => e = .returned (.bool true) ∧ Below W.heap.size W w' := by
  obtain ⟨M, h0⟩ := maxLenOf hs
  obtain ⟨p2, h2, e2⟩ := powOf hs hl
  letI : MaxL := ⟨M⟩
  have hT : TabW W := tabW h0 h2 e2
  have nilV : ∀ σ : Sg, VR σ .slice0 (.slice none 0 0) := fun σ => by simp only [VR]
  rcases slOf hs h0 h2 e2 hv0 with rfl | ⟨b1, c1, t1, o1, l1, k1, s1⟩ <;> rcases slOf hs h0 h2 e2 hv1 with rfl | ⟨b2, c2, t2, o2, l2, k2, s2⟩
  · obtain ⟨d, c1, t1, z1, _, hd, hz1⟩ := dummy hs 0
    obtain ⟨d2, c2, t2, z2, hdn, hd2, hz2⟩ := dummy hs d
    obtain ⟨σ, hB, q1, q2⟩ := base2 hT hz1 hz2 (Ne.symm hdn) hd hd2
    obtain ⟨H, hC⟩ := lawNN (c1.toList.map avOf) t1 (c1.size + 1) (c2.toList.map avOf) t2 (c2.size + 1) (fun n => belowVs_avOf n _) (fun n => belowVs_avOf n _) 0 0 0 0 0 0
    exact calls_trueB hB ro2 (VRs.cons (nilV σ) (VRs.cons (nilV σ) VRs.nil)) hC
  · obtain ⟨z2, hz2⟩ := s2.blk
    obtain ⟨d, c1, t1, z1, hdn, hd, hz1⟩ := dummy hs b2
    obtain ⟨σ, hB, q1, q2⟩ := base2 hT hz1 hz2 hdn hd s2.nt
    obtain ⟨H, hC⟩ := lawNS (c1.toList.map avOf) t1 (c1.size + 1) (c2.toList.map avOf) t2 (c2.size + 1) (fun n => belowVs_avOf n _) (fun n => belowVs_avOf n _) 0 0 0 o2 l2 k2 s2.lt s2.txt
    exact calls_trueB hB ro2 (VRs.cons (nilV σ) (VRs.cons (s2.vr σ 10 q2) VRs.nil)) hC
  · obtain ⟨z1, hz1⟩ := s1.blk
    obtain ⟨d, c2, t2, z2, hdn, hd, hz2⟩ := dummy hs b1
    obtain ⟨σ, hB, q1, q2⟩ := base2 hT hz1 hz2 (Ne.symm hdn) s1.nt hd
    obtain ⟨H, hC⟩ := lawSN (c1.toList.map avOf) t1 (c1.size + 1) (c2.toList.map avOf) t2 (c2.size + 1) (fun n => belowVs_avOf n _) (fun n => belowVs_avOf n _) o1 l1 k1 0 0 0 s1.lt s1.txt
    exact calls_trueB hB ro2 (VRs.cons (s1.vr σ 9 q1) (VRs.cons (nilV σ) VRs.nil)) hC
  · obtain ⟨z1, hz1⟩ := s1.blk
    obtain ⟨z2, hz2⟩ := s2.blk
    by_cases hbb : b1 = b2
    · subst hbb
      rw [hz1] at hz2
      cases hz2
      obtain ⟨d, c2, t2, z2, hdn, hd, hzd⟩ := dummy hs b1
      obtain ⟨σ, hB, q1, q2⟩ := base2 hT hz1 hzd (Ne.symm hdn) s1.nt hd
      obtain ⟨H, hC⟩ := lawST (c1.toList.map avOf) t1 (c1.size + 1) (c2.toList.map avOf) t2 (c2.size + 1) (fun n => belowVs_avOf n _) (fun n => belowVs_avOf n _) o1 l1 k1 o2 l2 k2 s1.lt s1.txt s2.lt s2.txt
      exact calls_trueB hB ro2 (VRs.cons (s1.vr σ 9 q1) (VRs.cons (s2.vr σ 9 q1) VRs.nil)) hC
    · obtain ⟨σ, hB, q1, q2⟩ := base2 hT hz1 hz2 hbb s1.nt s2.nt
      obtain ⟨H, hC⟩ := lawSS (c1.toList.map avOf) t1 (c1.size + 1) (c2.toList.map avOf) t2 (c2.size + 1) (fun n => belowVs_avOf n _) (fun n => belowVs_avOf n _) o1 l1 k1 o2 l2 k2 s1.lt s1.txt s2.lt s2.txt
      exact calls_trueB hB ro2 (VRs.cons (s1.vr σ 9 q1) (VRs.cons (s2.vr σ 10 q2) VRs.nil)) hC
/-! the claim's form -/
def TS (t : TypeId) : Prop := t = 22 ∨ t = 9
theorem un22 : Tryz.prog.underlying 22 = some (.slice 9) := by kernel_rfl
theorem un9 : Tryz.prog.underlying 9 = some .string := by kernel_rfl
theorem kidsS : Kids Tryz.prog TS where
  pointer := fun h hu => by
    rcases h with rfl | rfl
    · rw [un22] at hu; cases hu
    · rw [un9] at hu; cases hu
  slice := fun h hu => by
    rcases h with rfl | rfl
    · rw [un22] at hu; cases hu; exact .inr rfl
    · rw [un9] at hu; cases hu
  array := fun h hu => by
    rcases h with rfl | rfl
    · rw [un22] at hu; cases hu
    · rw [un9] at hu; cases hu
  struct := fun h hu => by
    rcases h with rfl | rfl
    · rw [un22] at hu; cases hu
    · rw [un9] at hu; cases hu
  map := fun h hu => by
    rcases h with rfl | rfl
    · rw [un22] at hu; cases hu
    · rw [un9] at hu; cases hu
theorem stays {H : Type} {enc : TypeId × Value → H} {W W' : World} {v : Value} {d : DataW H} {p : List MemPlace} (h : DataW.Trod enc Tryz.prog W 0 (fun _ => true) true 22 v d p) (hb : Below W.heap.size W W') (hlt : ∀ q ∈ p, q.block < W.heap.size) {sp : Nat → Bool} (hsp : ∀ q ∈ p, sp q.block = true) :
    DataW.Trod enc Tryz.prog W' 0 sp true 22 v d p := by
  obtain ⟨n, hn⟩ := h
  refine ⟨n, DataW.trod_stays kidsS (fun {t e} ht hu => ?_) (fun h => by cases h) (.inl rfl) hn (fun q hq => hb.same (hlt q hq)) hsp⟩
  rcases ht with rfl | rfl
  · rw [un22] at hu; cases hu; exact Nat.le_of_ble_eq_true (show Nat.ble 1 (Tryz.prog.cellsOf 9) = true by kernel_rfl)
  · rw [un9] at hu; cases hu
theorem flat9 : flatT Tryz.prog 8 9 = some [.s] := by kernel_rfl
theorem cells9 : Tryz.prog.cellsOf 9 = [Leaf.s].length := by kernel_rfl
theorem isS_of {H : Type} {enc : TypeId × Value → H} {W : World} {v : Value} {d : DataW H} {p : List MemPlace} (h : DataW.Trod enc Tryz.prog W 0 (fun _ => true) true 22 v d p) (hv : ∃ a len cap, v = .slice a len cap) : isS W v := by
  obtain ⟨a, len, cap, rfl⟩ := hv
  rcases open_slice un22 flat9 cells9 h rfl with h1 | ⟨a', len', cap', h1, h2, h3, h4⟩
  · exact .inl h1
  · exact .inr ⟨a', len', cap', h1, h2, h3, h4⟩
theorem lifted (os : Os) (started : os.Started) (H : Type) (enc : TypeId × Value → H) :
    ReturnsInHanded {} Tryz.checked os 3 .any (fun w args => (Rows.sessionTunnelsSpec.pre enc Tryz.prog Tryz.f3 [] false w args ∧ laidMetH Tryz.prog Rows.sessionTunnelsRow.laid w) ∧ sizedMet enc Tryz.prog Tryz.f3 (OpenSpec.ofChange Rows.sessionTunnelsSpec) false w args)
      (Rows.sessionTunnelsSpec.post enc Tryz.prog Tryz.f3 false true false false) := by
  refine returns_shaped (C := Tryz.checked) (X := fun w _ => laidMetH Tryz.prog Rows.sessionTunnelsRow.laid w) (fun _ _ _ hh h => h.of_heap hh) own started (by kernel_rfl) Tryz.func3
    (ChangeSpec.witness_shaped (enc := enc) (C := Tryz.checked) (os := os) (X := fun w _ => laidMetH Tryz.prog Rows.sessionTunnelsRow.laid w) false (World.laidAll Tryz.prog os Rows.sessionTunnelsRow.laid) #[.slice none 0 0, .slice none 0 0] 8 (World.laidAll_os _ _ _)
      (World.shaped_of_ZipB (by kernel_rfl) (by kernel_rfl)) (by kernel_rfl) (by kernel_rfl) (by kernel_rfl)
      (by rw [MakeChecks.laidMetH_plain _ _ _ (by kernel_rfl)]; exact laidMet_laidAll _ (by kernel_rfl) (by kernel_rfl))) ?_
  intro W base args ds gs before hsh hval0 hW _ _ hL _
  have hval : ∀ (j : Nat) t v, Tryz.f3.params[j]? = some t → args[j]? = some v → Value.okWide Tryz.prog W .any base t v := hval0
  have hL' : laidMet Tryz.prog [("math/bits.deBruijn32tab", Rows.laid_math_bits_deBruijn32tab), ("math/bits.deBruijn64tab", Rows.laid_math_bits_deBruijn64tab), ("internal/strconv.uint64pow10", Rows.laid_internal_strconv_uint64pow10), ("unicode/utf8.acceptRanges", Rows.laid_unicode_utf8_acceptRanges), ("strconv.ErrRange", Rows.laid_strconv_ErrRange), ("strconv.ErrSyntax", Rows.laid_strconv_ErrSyntax), ("unicode.CaseRanges", Rows.laid_unicode_CaseRanges), ("unicode/utf8.first", Rows.laid_unicode_utf8_first)] W := by
    have := hL
    rw [MakeChecks.laidMetH_plain _ _ _ (by kernel_rfl)] at this
    exact this
  have hW' := hW
  have hlt := fun q hq => hW.lt q hq
  obtain ⟨p, q, hA0, hV, rfl, hfz, hnd⟩ := hW
  have hA : DataW.TrodAll enc Tryz.prog W 0 (fun _ => true) true Tryz.f3.params.toList args.toList ds p := hA0
  rw [Tryz.params3] at hA hval
  obtain ⟨v0, v1, d0, d1, p0, p1, rfl, rfl, rfl, h0, h1⟩ := trodAll_two hA
  obtain ⟨rfl, rfl⟩ := trodVars_none hV
  have s0 := isS_of h0 (okWide_slice un22 (hval 0 22 v0 rfl rfl))
  have s1 := isS_of h1 (okWide_slice un22 (hval 1 22 v1 rfl rfl))
  clear hA0 hval0
  simp only [List.append_nil] at hW' hlt
  refine (call3 v0 v1 W hsh hL' s0 s1).mono fun e W' ⟨he, hw⟩ => ?_
  subst he
  exact ⟨_, rfl, post_below (pa := p0 ++ p1) (pv := []) hW' (fun _ _ _ => trodAll_mk1 (shut_bool Tryz.underlying4 _)) (fun sp hsp => trodAll_mk2 (stays h0 hw (fun q hq => hlt q (List.mem_append_left _ hq)) (fun q hq => hsp q (List.mem_append_left _ hq))) (stays h1 hw (fun q hq => hlt q (List.mem_append_right _ hq)) (fun q hq => hsp q (List.mem_append_right _ hq)))) (fun _ _ => rfl) (by simp) hw
    (ok_one (by kernel_rfl) rfl (okWide_bool_mk Tryz.underlying4 _))⟩
end Go.Proofs.YtjjjhkdpnpjnhaaGreatDoor

namespace Go.Proofs.YtjjjhkdpnpjnhaaGreatDoor
open Go Go.ChangeShapes Go.WideShapes Go.ChangeAt Go.RowKit Go.Rk Go.ChangeMaps
theorem and_tr {a b : Bool} (h : a = true) (k : b = true) : (a && b) = true := by rw [h, k]; rfl
set_option maxHeartbeats 0 in
theorem jf : joinedFacts Tryz.pinned.checked.prog 3 Tryz.f3 Rows.sessionTunnelsSpec Rows.sessionTunnelsRow = true := by
  unfold joinedFacts
  repeat' (with_reducible refine and_tr ?_ ?_)
  all_goals (as_aux_lemma => kernel_rfl)
set_option maxHeartbeats 0 in
theorem row_holds : Rows.SessionTunnelsSaid :=
  OpenClaim.holds_of_wide 3 Tryz.f3 rfl rfl rfl rfl rfl rfl rfl ⟨rfl, rfl, rfl, rfl, rfl⟩ rfl rfl rfl rfl rfl (by as_aux_lemma => kernel_rfl) Tryz.func3 jf
    (of_decide_eq_true (by as_aux_lemma => kernel_rfl)) (by unfold Func.isWrapper; first | (rw [if_pos (by decide +kernel)]; kernel_rfl) | (rw [if_neg (by decide +kernel)]; exact ⟨rfl, rfl⟩))
    (fun os started H enc _ => lifted os started H enc)
end Go.Proofs.YtjjjhkdpnpjnhaaGreatDoor
