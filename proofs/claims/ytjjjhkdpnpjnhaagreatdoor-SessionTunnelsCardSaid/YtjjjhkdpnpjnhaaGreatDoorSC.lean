/-
  A step of the proof of this seat's statement. No condition.
-/
import Derived.Test.YtjjjhkdpnpjnhaaGreatDoorSB
import Derived.Test.YtjjjhkdpnpjnhaaGreatDoorTA
import Derived.Test.YtjjjhkdpnpjnhaaGreatDoorTB
import Derived.Test.YtjjjhkdpnpjnhaaGreatDoorTC
import Derived.Test.YtjjjhkdpnpjnhaaGreatDoorTD
import Derived.Test.YtjjjhkdpnpjnhaaGreatDoorTE
import Derived.Test.YtjjjhkdpnpjnhaaGreatDoorTF
import Derived.Test.YtjjjhkdpnpjnhaaGreatDoorTG
import Derived.Test.YtjjjhkdpnpjnhaaGreatDoorTH
import Derived.Test.YtjjjhkdpnpjnhaaGreatDoorTI
import Derived.Test.YtjjjhkdpnpjnhaaGreatDoorTJ
import Derived.Test.YtjjjhkdpnpjnhaaGreatDoorTK
namespace Go.Proofs.YtjjjhkdpnpjnhaaGreatDoor
open Go Go.Rk
set_option maxRecDepth 1000000
set_option linter.unusedVariables false
set_option linter.unusedSimpArgs false
set_option linter.constructorNameAsVariable false
set_option linter.unusedSectionVars false
/-! the law -/
variable [MaxL]
/-- texts lie there -/
def Txt (c : List AV) (o l : Nat) : Prop := ∀ i, i < l → ∃ y, c[o + i * 1]? = some (.str y)
theorem suml1 (c1 : List AV) (t1 f1 : Nat) (c2 : List AV) (t2 f2 : Nat) (hb1 : ∀ n, belowVs n c1 = true) (hb2 : ∀ n, belowVs n c2 = true) (w : AV) (hw : belowV 11 w = true) (o l k : Nat) (hl : l < 9223372036854775808) (ht : Txt c1 o l) : ∀ (m i : Nat) (n : Int), l = i + m → ∃ n', TripL P 115 (lp cF3 0) (E1 (uS o l k) w n i) (HA c1 t1 f1 c2 t2 f2) d0 (.exit 0 (E1 (uS o l k) w n' l) (HA c1 t1 f1 c2 t2 f2) d0)
  | 0, i, n, h => by
    have h : i = l := by omega
    subst h
    exact ⟨n, TripL.stop rfl (sum1e c1 t1 f1 c2 t2 f2 w o i k n hw hb1 hb2)⟩
  | m + 1, i, n, h => by
    obtain ⟨y, hy⟩ := ht i (by omega)
    obtain ⟨n', ih⟩ := suml1 c1 t1 f1 c2 t2 f2 hb1 hb2 w hw o l k hl ht m (i + 1) (wrapF .i64 (Int.add n (Int.ofNat y.length))) (by omega)
    exact ⟨n', TripL.next (sum1 c1 t1 f1 c2 t2 f2 w o l k i n y hw hb1 hb2 (by omega) hl hy) ih⟩
theorem suml2 (c1 : List AV) (t1 f1 : Nat) (c2 : List AV) (t2 f2 : Nat) (hb1 : ∀ n, belowVs n c1 = true) (hb2 : ∀ n, belowVs n c2 = true) (w : AV) (hw : belowV 11 w = true) (o l k : Nat) (hl : l < 9223372036854775808) (ht : Txt c2 o l) : ∀ (m i : Nat) (n : Int), l = i + m → ∃ n', TripL P 115 (lp cF3 1) (E2 w (vS o l k) n i) (HA c1 t1 f1 c2 t2 f2) d0 (.exit 2 (E2 w (vS o l k) n' l) (HA c1 t1 f1 c2 t2 f2) d0)
  | 0, i, n, h => by
    have h : i = l := by omega
    subst h
    exact ⟨n, TripL.stop rfl (sum2e c1 t1 f1 c2 t2 f2 w o i k n hw hb1 hb2)⟩
  | m + 1, i, n, h => by
    obtain ⟨y, hy⟩ := ht i (by omega)
    obtain ⟨n', ih⟩ := suml2 c1 t1 f1 c2 t2 f2 hb1 hb2 w hw o l k hl ht m (i + 1) (wrapF .i64 (Int.add n (Int.ofNat y.length))) (by omega)
    exact ⟨n', TripL.next (sum2 c1 t1 f1 c2 t2 f2 w o l k i n y hw hb1 hb2 (by omega) hl hy) ih⟩
theorem suml3 (c1 : List AV) (t1 f1 : Nat) (c2 : List AV) (t2 f2 : Nat) (hb1 : ∀ n, belowVs n c1 = true) (hb2 : ∀ n, belowVs n c2 = true) (w : AV) (hw : belowV 11 w = true) (o l k : Nat) (hl : l < 9223372036854775808) (ht : Txt c1 o l) : ∀ (m i : Nat) (n : Int), l = i + m → ∃ n', TripL P 115 (lp cF3 1) (E2 w (uS o l k) n i) (HA c1 t1 f1 c2 t2 f2) d0 (.exit 2 (E2 w (uS o l k) n' l) (HA c1 t1 f1 c2 t2 f2) d0)
  | 0, i, n, h => by
    have h : i = l := by omega
    subst h
    exact ⟨n, TripL.stop rfl (sum3e c1 t1 f1 c2 t2 f2 w o i k n hw hb1 hb2)⟩
  | m + 1, i, n, h => by
    obtain ⟨y, hy⟩ := ht i (by omega)
    obtain ⟨n', ih⟩ := suml3 c1 t1 f1 c2 t2 f2 hb1 hb2 w hw o l k hl ht m (i + 1) (wrapF .i64 (Int.add n (Int.ofNat y.length))) (by omega)
    exact ⟨n', TripL.next (sum3 c1 t1 f1 c2 t2 f2 w o l k i n y hw hb1 hb2 (by omega) hl hy) ih⟩
theorem mainSS (c1 : List AV) (t1 f1 : Nat) (c2 : List AV) (t2 f2 : Nat) (hb1 : ∀ n, belowVs n c1 = true) (hb2 : ∀ n, belowVs n c2 = true) (o1 l1 k1 o2 l2 k2 : Nat) (hU : Txt c1 o1 l1) (hV : Txt c2 o2 l2) (K : Nat) (hK1 : l1 ≤ K) (hK2 : l2 ≤ K) (hK : (K = l1 ∨ K = l2) ∧ K ≤ 60) : ∀ (m i j : Nat) (sd : Bool), K = i + m → j ≤ i → ∃ j' sd', TripL P 115 (lp cF3 2) (EM (uS o1 l1 k1) (vS o2 l2 k2) i) (HT c1 t1 f1 c2 t2 f2 j sd) d0 (.exit 4 (EM (uS o1 l1 k1) (vS o2 l2 k2) K) (HT c1 t1 f1 c2 t2 f2 j' sd') d0)
  | 0, i, j, sd, h, hj => by
    have h : i = K := by omega
    subst h
    exact ⟨j, sd, TripL.stop rfl (bx_SS c1 t1 f1 c2 t2 f2 o1 l1 k1 o2 l2 k2 i j sd hb1 hb2 (by omega) (by omega))⟩
  | m + 1, i, j, sd, h, hj => by
    by_cases h1 : i < l1
    · obtain ⟨y, hy⟩ := hU i h1
      cases y with
      | nil =>
        by_cases h2 : i < l2
        · obtain ⟨z, hz⟩ := hV i h2
          cases z with
          | nil =>
            cases sd with
            | false =>
              obtain ⟨j', sd', ih⟩ := mainSS c1 t1 f1 c2 t2 f2 hb1 hb2 o1 l1 k1 o2 l2 k2 hU hV K hK1 hK2 hK m (i + 1) j false (by omega) (by omega)
              exact ⟨j', sd', TripL.next (bSS_eef c1 t1 f1 c2 t2 f2 o1 l1 k1 o2 l2 k2 i j hb1 hb2 (by omega) h1 hy h2 hz) ih⟩
            | true =>
              obtain ⟨j', sd', ih⟩ := mainSS c1 t1 f1 c2 t2 f2 hb1 hb2 o1 l1 k1 o2 l2 k2 hU hV K hK1 hK2 hK m (i + 1) j true (by omega) (by omega)
              exact ⟨j', sd', TripL.next (bSS_eet c1 t1 f1 c2 t2 f2 o1 l1 k1 o2 l2 k2 i j hb1 hb2 (by omega) h1 hy h2 hz) ih⟩
          | cons b t =>
            cases sd with
            | false =>
              obtain ⟨j', sd', ih⟩ := mainSS c1 t1 f1 c2 t2 f2 hb1 hb2 o1 l1 k1 o2 l2 k2 hU hV K hK1 hK2 hK m (i + 1) j true (by omega) (by omega)
              exact ⟨j', sd', TripL.next (bSS_enf c1 t1 f1 c2 t2 f2 o1 l1 k1 o2 l2 k2 i j b t hb1 hb2 (by omega) h1 hy h2 hz) ih⟩
            | true =>
              obtain ⟨j', sd', ih⟩ := mainSS c1 t1 f1 c2 t2 f2 hb1 hb2 o1 l1 k1 o2 l2 k2 hU hV K hK1 hK2 hK m (i + 1) j true (by omega) (by omega)
              exact ⟨j', sd', TripL.next (bSS_ent c1 t1 f1 c2 t2 f2 o1 l1 k1 o2 l2 k2 i j b t hb1 hb2 (by omega) h1 hy h2 hz) ih⟩
        ·
          obtain ⟨j', sd', ih⟩ := mainSS c1 t1 f1 c2 t2 f2 hb1 hb2 o1 l1 k1 o2 l2 k2 hU hV K hK1 hK2 hK m (i + 1) j sd (by omega) (by omega)
          exact ⟨j', sd', TripL.next (bSS_eo c1 t1 f1 c2 t2 f2 o1 l1 k1 o2 l2 k2 i j sd hb1 hb2 (by omega) h1 hy h2) ih⟩
      | cons a s =>
        by_cases h2 : i < l2
        · obtain ⟨z, hz⟩ := hV i h2
          cases z with
          | nil =>
            cases sd with
            | false =>
              obtain ⟨j', sd', ih⟩ := mainSS c1 t1 f1 c2 t2 f2 hb1 hb2 o1 l1 k1 o2 l2 k2 hU hV K hK1 hK2 hK m (i + 1) (j + 1) false (by omega) (by omega)
              exact ⟨j', sd', TripL.next (bSS_nef c1 t1 f1 c2 t2 f2 o1 l1 k1 o2 l2 k2 i j a s hb1 hb2 (by omega) (by omega) h1 hy h2 hz) ih⟩
            | true =>
              obtain ⟨j', sd', ih⟩ := mainSS c1 t1 f1 c2 t2 f2 hb1 hb2 o1 l1 k1 o2 l2 k2 hU hV K hK1 hK2 hK m (i + 1) (j + 1) true (by omega) (by omega)
              exact ⟨j', sd', TripL.next (bSS_net c1 t1 f1 c2 t2 f2 o1 l1 k1 o2 l2 k2 i j a s hb1 hb2 (by omega) (by omega) h1 hy h2 hz) ih⟩
          | cons b t =>
            cases sd with
            | false =>
              obtain ⟨j', sd', ih⟩ := mainSS c1 t1 f1 c2 t2 f2 hb1 hb2 o1 l1 k1 o2 l2 k2 hU hV K hK1 hK2 hK m (i + 1) (j + 1) true (by omega) (by omega)
              exact ⟨j', sd', TripL.next (bSS_nnf c1 t1 f1 c2 t2 f2 o1 l1 k1 o2 l2 k2 i j a s b t hb1 hb2 (by omega) (by omega) h1 hy h2 hz) ih⟩
            | true =>
              obtain ⟨j', sd', ih⟩ := mainSS c1 t1 f1 c2 t2 f2 hb1 hb2 o1 l1 k1 o2 l2 k2 hU hV K hK1 hK2 hK m (i + 1) (j + 1) true (by omega) (by omega)
              exact ⟨j', sd', TripL.next (bSS_nnt c1 t1 f1 c2 t2 f2 o1 l1 k1 o2 l2 k2 i j a s b t hb1 hb2 (by omega) (by omega) h1 hy h2 hz) ih⟩
        ·
          obtain ⟨j', sd', ih⟩ := mainSS c1 t1 f1 c2 t2 f2 hb1 hb2 o1 l1 k1 o2 l2 k2 hU hV K hK1 hK2 hK m (i + 1) (j + 1) sd (by omega) (by omega)
          exact ⟨j', sd', TripL.next (bSS_no c1 t1 f1 c2 t2 f2 o1 l1 k1 o2 l2 k2 i j sd a s hb1 hb2 (by omega) (by omega) h1 hy h2) ih⟩
    ·
      have h2 : i < l2 := by omega
      obtain ⟨z, hz⟩ := hV i h2
      cases z with
      | nil =>
        cases sd with
        | false =>
          obtain ⟨j', sd', ih⟩ := mainSS c1 t1 f1 c2 t2 f2 hb1 hb2 o1 l1 k1 o2 l2 k2 hU hV K hK1 hK2 hK m (i + 1) j false (by omega) (by omega)
          exact ⟨j', sd', TripL.next (bSS_oef c1 t1 f1 c2 t2 f2 o1 l1 k1 o2 l2 k2 i j hb1 hb2 (by omega) h1 h2 hz) ih⟩
        | true =>
          obtain ⟨j', sd', ih⟩ := mainSS c1 t1 f1 c2 t2 f2 hb1 hb2 o1 l1 k1 o2 l2 k2 hU hV K hK1 hK2 hK m (i + 1) j true (by omega) (by omega)
          exact ⟨j', sd', TripL.next (bSS_oet c1 t1 f1 c2 t2 f2 o1 l1 k1 o2 l2 k2 i j hb1 hb2 (by omega) h1 h2 hz) ih⟩
      | cons b t =>
        cases sd with
        | false =>
          obtain ⟨j', sd', ih⟩ := mainSS c1 t1 f1 c2 t2 f2 hb1 hb2 o1 l1 k1 o2 l2 k2 hU hV K hK1 hK2 hK m (i + 1) j true (by omega) (by omega)
          exact ⟨j', sd', TripL.next (bSS_onf c1 t1 f1 c2 t2 f2 o1 l1 k1 o2 l2 k2 i j b t hb1 hb2 (by omega) h1 h2 hz) ih⟩
        | true =>
          obtain ⟨j', sd', ih⟩ := mainSS c1 t1 f1 c2 t2 f2 hb1 hb2 o1 l1 k1 o2 l2 k2 hU hV K hK1 hK2 hK m (i + 1) j true (by omega) (by omega)
          exact ⟨j', sd', TripL.next (bSS_ont c1 t1 f1 c2 t2 f2 o1 l1 k1 o2 l2 k2 i j b t hb1 hb2 (by omega) h1 h2 hz) ih⟩
theorem mainST (c1 : List AV) (t1 f1 : Nat) (c2 : List AV) (t2 f2 : Nat) (hb1 : ∀ n, belowVs n c1 = true) (hb2 : ∀ n, belowVs n c2 = true) (o1 l1 k1 o2 l2 k2 : Nat) (hU : Txt c1 o1 l1) (hV : Txt c1 o2 l2) (K : Nat) (hK1 : l1 ≤ K) (hK2 : l2 ≤ K) (hK : (K = l1 ∨ K = l2) ∧ K ≤ 60) : ∀ (m i j : Nat) (sd : Bool), K = i + m → j ≤ i → ∃ j' sd', TripL P 115 (lp cF3 2) (EM (uS o1 l1 k1) (uS o2 l2 k2) i) (HT c1 t1 f1 c2 t2 f2 j sd) d0 (.exit 4 (EM (uS o1 l1 k1) (uS o2 l2 k2) K) (HT c1 t1 f1 c2 t2 f2 j' sd') d0)
  | 0, i, j, sd, h, hj => by
    have h : i = K := by omega
    subst h
    exact ⟨j, sd, TripL.stop rfl (bx_ST c1 t1 f1 c2 t2 f2 o1 l1 k1 o2 l2 k2 i j sd hb1 hb2 (by omega) (by omega))⟩
  | m + 1, i, j, sd, h, hj => by
    by_cases h1 : i < l1
    · obtain ⟨y, hy⟩ := hU i h1
      cases y with
      | nil =>
        by_cases h2 : i < l2
        · obtain ⟨z, hz⟩ := hV i h2
          cases z with
          | nil =>
            cases sd with
            | false =>
              obtain ⟨j', sd', ih⟩ := mainST c1 t1 f1 c2 t2 f2 hb1 hb2 o1 l1 k1 o2 l2 k2 hU hV K hK1 hK2 hK m (i + 1) j false (by omega) (by omega)
              exact ⟨j', sd', TripL.next (bST_eef c1 t1 f1 c2 t2 f2 o1 l1 k1 o2 l2 k2 i j hb1 hb2 (by omega) h1 hy h2 hz) ih⟩
            | true =>
              obtain ⟨j', sd', ih⟩ := mainST c1 t1 f1 c2 t2 f2 hb1 hb2 o1 l1 k1 o2 l2 k2 hU hV K hK1 hK2 hK m (i + 1) j true (by omega) (by omega)
              exact ⟨j', sd', TripL.next (bST_eet c1 t1 f1 c2 t2 f2 o1 l1 k1 o2 l2 k2 i j hb1 hb2 (by omega) h1 hy h2 hz) ih⟩
          | cons b t =>
            cases sd with
            | false =>
              obtain ⟨j', sd', ih⟩ := mainST c1 t1 f1 c2 t2 f2 hb1 hb2 o1 l1 k1 o2 l2 k2 hU hV K hK1 hK2 hK m (i + 1) j true (by omega) (by omega)
              exact ⟨j', sd', TripL.next (bST_enf c1 t1 f1 c2 t2 f2 o1 l1 k1 o2 l2 k2 i j b t hb1 hb2 (by omega) h1 hy h2 hz) ih⟩
            | true =>
              obtain ⟨j', sd', ih⟩ := mainST c1 t1 f1 c2 t2 f2 hb1 hb2 o1 l1 k1 o2 l2 k2 hU hV K hK1 hK2 hK m (i + 1) j true (by omega) (by omega)
              exact ⟨j', sd', TripL.next (bST_ent c1 t1 f1 c2 t2 f2 o1 l1 k1 o2 l2 k2 i j b t hb1 hb2 (by omega) h1 hy h2 hz) ih⟩
        ·
          obtain ⟨j', sd', ih⟩ := mainST c1 t1 f1 c2 t2 f2 hb1 hb2 o1 l1 k1 o2 l2 k2 hU hV K hK1 hK2 hK m (i + 1) j sd (by omega) (by omega)
          exact ⟨j', sd', TripL.next (bST_eo c1 t1 f1 c2 t2 f2 o1 l1 k1 o2 l2 k2 i j sd hb1 hb2 (by omega) h1 hy h2) ih⟩
      | cons a s =>
        by_cases h2 : i < l2
        · obtain ⟨z, hz⟩ := hV i h2
          cases z with
          | nil =>
            cases sd with
            | false =>
              obtain ⟨j', sd', ih⟩ := mainST c1 t1 f1 c2 t2 f2 hb1 hb2 o1 l1 k1 o2 l2 k2 hU hV K hK1 hK2 hK m (i + 1) (j + 1) false (by omega) (by omega)
              exact ⟨j', sd', TripL.next (bST_nef c1 t1 f1 c2 t2 f2 o1 l1 k1 o2 l2 k2 i j a s hb1 hb2 (by omega) (by omega) h1 hy h2 hz) ih⟩
            | true =>
              obtain ⟨j', sd', ih⟩ := mainST c1 t1 f1 c2 t2 f2 hb1 hb2 o1 l1 k1 o2 l2 k2 hU hV K hK1 hK2 hK m (i + 1) (j + 1) true (by omega) (by omega)
              exact ⟨j', sd', TripL.next (bST_net c1 t1 f1 c2 t2 f2 o1 l1 k1 o2 l2 k2 i j a s hb1 hb2 (by omega) (by omega) h1 hy h2 hz) ih⟩
          | cons b t =>
            cases sd with
            | false =>
              obtain ⟨j', sd', ih⟩ := mainST c1 t1 f1 c2 t2 f2 hb1 hb2 o1 l1 k1 o2 l2 k2 hU hV K hK1 hK2 hK m (i + 1) (j + 1) true (by omega) (by omega)
              exact ⟨j', sd', TripL.next (bST_nnf c1 t1 f1 c2 t2 f2 o1 l1 k1 o2 l2 k2 i j a s b t hb1 hb2 (by omega) (by omega) h1 hy h2 hz) ih⟩
            | true =>
              obtain ⟨j', sd', ih⟩ := mainST c1 t1 f1 c2 t2 f2 hb1 hb2 o1 l1 k1 o2 l2 k2 hU hV K hK1 hK2 hK m (i + 1) (j + 1) true (by omega) (by omega)
              exact ⟨j', sd', TripL.next (bST_nnt c1 t1 f1 c2 t2 f2 o1 l1 k1 o2 l2 k2 i j a s b t hb1 hb2 (by omega) (by omega) h1 hy h2 hz) ih⟩
        ·
          obtain ⟨j', sd', ih⟩ := mainST c1 t1 f1 c2 t2 f2 hb1 hb2 o1 l1 k1 o2 l2 k2 hU hV K hK1 hK2 hK m (i + 1) (j + 1) sd (by omega) (by omega)
          exact ⟨j', sd', TripL.next (bST_no c1 t1 f1 c2 t2 f2 o1 l1 k1 o2 l2 k2 i j sd a s hb1 hb2 (by omega) (by omega) h1 hy h2) ih⟩
    ·
      have h2 : i < l2 := by omega
      obtain ⟨z, hz⟩ := hV i h2
      cases z with
      | nil =>
        cases sd with
        | false =>
          obtain ⟨j', sd', ih⟩ := mainST c1 t1 f1 c2 t2 f2 hb1 hb2 o1 l1 k1 o2 l2 k2 hU hV K hK1 hK2 hK m (i + 1) j false (by omega) (by omega)
          exact ⟨j', sd', TripL.next (bST_oef c1 t1 f1 c2 t2 f2 o1 l1 k1 o2 l2 k2 i j hb1 hb2 (by omega) h1 h2 hz) ih⟩
        | true =>
          obtain ⟨j', sd', ih⟩ := mainST c1 t1 f1 c2 t2 f2 hb1 hb2 o1 l1 k1 o2 l2 k2 hU hV K hK1 hK2 hK m (i + 1) j true (by omega) (by omega)
          exact ⟨j', sd', TripL.next (bST_oet c1 t1 f1 c2 t2 f2 o1 l1 k1 o2 l2 k2 i j hb1 hb2 (by omega) h1 h2 hz) ih⟩
      | cons b t =>
        cases sd with
        | false =>
          obtain ⟨j', sd', ih⟩ := mainST c1 t1 f1 c2 t2 f2 hb1 hb2 o1 l1 k1 o2 l2 k2 hU hV K hK1 hK2 hK m (i + 1) j true (by omega) (by omega)
          exact ⟨j', sd', TripL.next (bST_onf c1 t1 f1 c2 t2 f2 o1 l1 k1 o2 l2 k2 i j b t hb1 hb2 (by omega) h1 h2 hz) ih⟩
        | true =>
          obtain ⟨j', sd', ih⟩ := mainST c1 t1 f1 c2 t2 f2 hb1 hb2 o1 l1 k1 o2 l2 k2 hU hV K hK1 hK2 hK m (i + 1) j true (by omega) (by omega)
          exact ⟨j', sd', TripL.next (bST_ont c1 t1 f1 c2 t2 f2 o1 l1 k1 o2 l2 k2 i j b t hb1 hb2 (by omega) h1 h2 hz) ih⟩
theorem mainNS (c1 : List AV) (t1 f1 : Nat) (c2 : List AV) (t2 f2 : Nat) (hb1 : ∀ n, belowVs n c1 = true) (hb2 : ∀ n, belowVs n c2 = true) (o1 l1 k1 o2 l2 k2 : Nat) (hV : Txt c2 o2 l2) (K : Nat) (hK1 : 0 ≤ K) (hK2 : l2 ≤ K) (hK : (K = 0 ∨ K = l2) ∧ K ≤ 60) : ∀ (m i j : Nat) (sd : Bool), K = i + m → j ≤ i → ∃ j' sd', TripL P 115 (lp cF3 2) (EM (.slice0) (vS o2 l2 k2) i) (HT c1 t1 f1 c2 t2 f2 j sd) d0 (.exit 4 (EM (.slice0) (vS o2 l2 k2) K) (HT c1 t1 f1 c2 t2 f2 j' sd') d0)
  | 0, i, j, sd, h, hj => by
    have h : i = K := by omega
    subst h
    exact ⟨j, sd, TripL.stop rfl (bx_NS c1 t1 f1 c2 t2 f2 o1 l1 k1 o2 l2 k2 i j sd hb1 hb2 (by omega) (by omega))⟩
  | m + 1, i, j, sd, h, hj => by
    have h1 : ¬ i < 0 := by omega
    have h2 : i < l2 := by omega
    obtain ⟨z, hz⟩ := hV i h2
    cases z with
    | nil =>
      cases sd with
      | false =>
        obtain ⟨j', sd', ih⟩ := mainNS c1 t1 f1 c2 t2 f2 hb1 hb2 o1 l1 k1 o2 l2 k2 hV K hK1 hK2 hK m (i + 1) j false (by omega) (by omega)
        exact ⟨j', sd', TripL.next (bNS_oef c1 t1 f1 c2 t2 f2 o1 l1 k1 o2 l2 k2 i j hb1 hb2 (by omega) h1 h2 hz) ih⟩
      | true =>
        obtain ⟨j', sd', ih⟩ := mainNS c1 t1 f1 c2 t2 f2 hb1 hb2 o1 l1 k1 o2 l2 k2 hV K hK1 hK2 hK m (i + 1) j true (by omega) (by omega)
        exact ⟨j', sd', TripL.next (bNS_oet c1 t1 f1 c2 t2 f2 o1 l1 k1 o2 l2 k2 i j hb1 hb2 (by omega) h1 h2 hz) ih⟩
    | cons b t =>
      cases sd with
      | false =>
        obtain ⟨j', sd', ih⟩ := mainNS c1 t1 f1 c2 t2 f2 hb1 hb2 o1 l1 k1 o2 l2 k2 hV K hK1 hK2 hK m (i + 1) j true (by omega) (by omega)
        exact ⟨j', sd', TripL.next (bNS_onf c1 t1 f1 c2 t2 f2 o1 l1 k1 o2 l2 k2 i j b t hb1 hb2 (by omega) h1 h2 hz) ih⟩
      | true =>
        obtain ⟨j', sd', ih⟩ := mainNS c1 t1 f1 c2 t2 f2 hb1 hb2 o1 l1 k1 o2 l2 k2 hV K hK1 hK2 hK m (i + 1) j true (by omega) (by omega)
        exact ⟨j', sd', TripL.next (bNS_ont c1 t1 f1 c2 t2 f2 o1 l1 k1 o2 l2 k2 i j b t hb1 hb2 (by omega) h1 h2 hz) ih⟩
theorem mainSN (c1 : List AV) (t1 f1 : Nat) (c2 : List AV) (t2 f2 : Nat) (hb1 : ∀ n, belowVs n c1 = true) (hb2 : ∀ n, belowVs n c2 = true) (o1 l1 k1 o2 l2 k2 : Nat) (hU : Txt c1 o1 l1) (K : Nat) (hK1 : l1 ≤ K) (hK2 : 0 ≤ K) (hK : (K = l1 ∨ K = 0) ∧ K ≤ 60) : ∀ (m i j : Nat) (sd : Bool), K = i + m → j ≤ i → ∃ j' sd', TripL P 115 (lp cF3 2) (EM (uS o1 l1 k1) (.slice0) i) (HT c1 t1 f1 c2 t2 f2 j sd) d0 (.exit 4 (EM (uS o1 l1 k1) (.slice0) K) (HT c1 t1 f1 c2 t2 f2 j' sd') d0)
  | 0, i, j, sd, h, hj => by
    have h : i = K := by omega
    subst h
    exact ⟨j, sd, TripL.stop rfl (bx_SN c1 t1 f1 c2 t2 f2 o1 l1 k1 o2 l2 k2 i j sd hb1 hb2 (by omega) (by omega))⟩
  | m + 1, i, j, sd, h, hj => by
    have h1 : i < l1 := by omega
    obtain ⟨y, hy⟩ := hU i h1
    cases y with
    | nil =>
      have h2 : ¬ i < 0 := by omega
      obtain ⟨j', sd', ih⟩ := mainSN c1 t1 f1 c2 t2 f2 hb1 hb2 o1 l1 k1 o2 l2 k2 hU K hK1 hK2 hK m (i + 1) j sd (by omega) (by omega)
      exact ⟨j', sd', TripL.next (bSN_eo c1 t1 f1 c2 t2 f2 o1 l1 k1 o2 l2 k2 i j sd hb1 hb2 (by omega) h1 hy h2) ih⟩
    | cons a s =>
      have h2 : ¬ i < 0 := by omega
      obtain ⟨j', sd', ih⟩ := mainSN c1 t1 f1 c2 t2 f2 hb1 hb2 o1 l1 k1 o2 l2 k2 hU K hK1 hK2 hK m (i + 1) (j + 1) sd (by omega) (by omega)
      exact ⟨j', sd', TripL.next (bSN_no c1 t1 f1 c2 t2 f2 o1 l1 k1 o2 l2 k2 i j sd a s hb1 hb2 (by omega) (by omega) h1 hy h2) ih⟩
theorem leave_T (H : Heap) : leaveX F.call (cfunc P cF3).res (.ret (envOf [(4, .bool true)]) H d0) = .ret (.bool true) H none := by kernel_rfl
theorem sq0 : B0 = .seq (cL B0) B1 := by kernel_rfl
theorem sq1 : B1 = .seq (cL B1) B2 := by kernel_rfl
theorem sq2 : B2 = .seq (cL B2) B3 := by kernel_rfl
theorem sq3 : B3 = .seq (cL B3) B4 := by kernel_rfl
theorem sq4 : B4 = .seq (cL B4) B5 := by kernel_rfl
theorem sq5 : B5 = .seq (cL B5) B6 := by kernel_rfl
theorem sq6 : B6 = .seq (cL B6) B7 := by kernel_rfl
theorem sq7 : B7 = .seq (cL B7) B8 := by kernel_rfl
theorem sq8 : B8 = .seq (cL B8) B9 := by kernel_rfl
theorem sq9 : B9 = .seq (cL B9) B10 := by kernel_rfl
theorem sq10 : B10 = .seq (cL B10) B11 := by kernel_rfl
theorem belowS {n b g o l k es : Nat} {ex : Bool} (h : b < n) : belowV n (.slice b g o l k es ex) = true := Nat.ble_eq_true_of_le h
/-- behind the sums -/
theorem tail_T (c1 : List AV) (t1 f1 : Nat) (c2 : List AV) (t2 f2 : Nat) (hb1 : ∀ n, belowVs n c1 = true) (hb2 : ∀ n, belowVs n c2 = true) (u v : AV) (hu : belowV 11 u = true) (hv : belowV 11 v = true) (hu2 : ∀ n, 11 ≤ n → belowV n u = true) (hv2 : ∀ n, 11 ≤ n → belowV n v = true) (K j : Nat) (sd : Bool) (hT : Trip P 115 (.loop (lp cF3 2)) (EM u v 0) (HT c1 t1 f1 c2 t2 f2 0 false) d0 (.exit 4 (EM u v K) (HT c1 t1 f1 c2 t2 f2 j sd) d0)) :
    Trip P 115 B5 (envOf [(0, u), (1, v)]) (HA c1 t1 f1 c2 t2 f2) d0 (.ret (envOf [(4, .bool true)]) (HT c1 t1 f1 c2 t2 f2 j sd) d0) := by
  rw [sq5]; refine Trip.seq (p5 c1 t1 f1 c2 t2 f2 u v hu hv hu2 hv2 hb1 hb2) ?_
  rw [sq6]; refine Trip.seq (p6 c1 t1 f1 c2 t2 f2 u v hu hv hu2 hv2 hb1 hb2) ?_
  rw [sq7]; refine Trip.seq (p7 c1 t1 f1 c2 t2 f2 u v hu hv hu2 hv2 hb1 hb2) ?_
  rw [sq8]; refine Trip.seq (p8 c1 t1 f1 c2 t2 f2 u v hu hv hu2 hv2 hb1 hb2) ?_
  rw [sq9]; refine Trip.seq (p9 c1 t1 f1 c2 t2 f2 u v hu hv hu2 hv2 hb1 hb2) ?_
  rw [sq10]; refine Trip.seq (p10 c1 t1 f1 c2 t2 f2 u v K j sd hb1 hb2 hu2 hv2 hT) ?_
  exact p11 c1 t1 f1 c2 t2 f2 u v j sd hb1 hb2
theorem head_T (c1 : List AV) (t1 f1 : Nat) (c2 : List AV) (t2 f2 : Nat) (hb1 : ∀ n, belowVs n c1 = true) (hb2 : ∀ n, belowVs n c2 = true) (u v : AV) (hu2 : ∀ n, 11 ≤ n → belowV n u = true) (hv2 : ∀ n, 11 ≤ n → belowV n v = true) (n1 n2 : Int) (T2 : Trip P 115 (cL B2) (envOf [(0, u), (1, v), (5, i64 0)]) (HA c1 t1 f1 c2 t2 f2) d0 (.nrm (envOf [(0, u), (1, v), (5, .int .i64 n1)]) (HA c1 t1 f1 c2 t2 f2) d0))
    (T3 : Trip P 115 (cL B3) (envOf [(0, u), (1, v), (5, .int .i64 n1)]) (HA c1 t1 f1 c2 t2 f2) d0 (.nrm (envOf [(0, u), (1, v), (5, .int .i64 n2)]) (HA c1 t1 f1 c2 t2 f2) d0)) {H : Heap}
    (T4 : Trip P 115 B4 (envOf [(0, u), (1, v), (5, .int .i64 n2)]) (HA c1 t1 f1 c2 t2 f2) d0 (.ret (envOf [(4, .bool true)]) H d0)) : CallT P 3 [u, v] (HA c1 t1 f1 c2 t2 f2) (.ret (.bool true) H none) := by
  have hB : Trip P 115 B0 (mkEnv 0 [u, v] .e) (HA c1 t1 f1 c2 t2 f2) d0 (.ret (envOf [(4, .bool true)]) H d0) := by
    rw [sq0]; refine Trip.seq (p0 c1 t1 f1 c2 t2 f2 u v hb1 hb2 hu2 hv2) ?_
    rw [sq1]; refine Trip.seq (p1 c1 t1 f1 c2 t2 f2 u v hb1 hb2 hu2 hv2) ?_
    rw [sq2]; refine Trip.seq T2 ?_
    rw [sq3]; exact Trip.seq T3 T4
  rw [← leave_T]
  exact callT_of hF dF3 (c := bodyOf cF3) (by kernel_rfl) (by kernel_rfl) (by kernel_rfl) (by kernel_rfl) hB
theorem lawSS (c1 : List AV) (t1 f1 : Nat) (c2 : List AV) (t2 f2 : Nat) (hb1 : ∀ n, belowVs n c1 = true) (hb2 : ∀ n, belowVs n c2 = true) (o1 l1 k1 o2 l2 k2 : Nat) (hl1 : l1 < 9223372036854775808) (hU : Txt c1 o1 l1) (hl2 : l2 < 9223372036854775808) (hV : Txt c2 o2 l2) : ∃ H, CallT P 3 [uS o1 l1 k1, vS o2 l2 k2] (HA c1 t1 f1 c2 t2 f2) (.ret (.bool true) H none) := by
  have hu : ∀ n, 11 ≤ n → belowV n (uS o1 l1 k1) = true := fun n hn => belowS (by omega)
  have hv : ∀ n, 11 ≤ n → belowV n (vS o2 l2 k2) = true := fun n hn => belowS (by omega)
  obtain ⟨n1, s1⟩ := suml1 c1 t1 f1 c2 t2 f2 hb1 hb2 (vS o2 l2 k2) (hv 11 (Nat.le_refl _)) o1 l1 k1 hl1 hU l1 0 0 (by omega)
  have T2 := p2S c1 t1 f1 c2 t2 f2 (vS o2 l2 k2) o1 l1 k1 0 n1 hb1 hb2 hv s1.trip
  obtain ⟨n2, s2⟩ := suml2 c1 t1 f1 c2 t2 f2 hb1 hb2 (uS o1 l1 k1) (hu 11 (Nat.le_refl _)) o2 l2 k2 hl2 hV l2 0 n1 (by omega)
  have T3 := p3S c1 t1 f1 c2 t2 f2 (uS o1 l1 k1) o2 l2 k2 n1 n2 hb1 hb2 hu s2.trip
  by_cases h1 : 60 < l1
  ·
    exact ⟨_, head_T c1 t1 f1 c2 t2 f2 hb1 hb2 _ _ hu hv _ _ T2 T3 (by rw [sq4]; exact Trip.stop rfl (p4SS_w1 c1 t1 f1 c2 t2 f2 o1 l1 k1 o2 l2 k2 n2 hb1 hb2 h1))⟩
  by_cases h2 : 60 < l2
  ·
    exact ⟨_, head_T c1 t1 f1 c2 t2 f2 hb1 hb2 _ _ hu hv _ _ T2 T3 (by rw [sq4]; exact Trip.stop rfl (p4SS_w2 c1 t1 f1 c2 t2 f2 o1 l1 k1 o2 l2 k2 n2 hb1 hb2 h1 h2))⟩
  cases h3 : ltI (Int.ofNat 8192) n2 with
  | true =>
    exact ⟨_, head_T c1 t1 f1 c2 t2 f2 hb1 hb2 _ _ hu hv _ _ T2 T3 (by rw [sq4]; exact Trip.stop rfl (p4SS_w3 c1 t1 f1 c2 t2 f2 o1 l1 k1 o2 l2 k2 n2 hb1 hb2 h1 h2 h3))⟩
  | false =>
    obtain ⟨j', sd', hm⟩ := mainSS c1 t1 f1 c2 t2 f2 hb1 hb2 o1 l1 k1 o2 l2 k2 hU hV (max l1 l2) (by omega) (by omega) (by omega) (max l1 l2) 0 0 false (by omega) (by omega)
    exact ⟨_, head_T c1 t1 f1 c2 t2 f2 hb1 hb2 _ _ hu hv _ _ T2 T3 (by rw [sq4]; exact Trip.seq (p4SS_ok c1 t1 f1 c2 t2 f2 o1 l1 k1 o2 l2 k2 n2 hb1 hb2 h1 h2 h3) (tail_T c1 t1 f1 c2 t2 f2 hb1 hb2 _ _ (hu 11 (Nat.le_refl _)) (hv 11 (Nat.le_refl _)) hu hv _ j' sd' hm.trip))⟩
theorem lawST (c1 : List AV) (t1 f1 : Nat) (c2 : List AV) (t2 f2 : Nat) (hb1 : ∀ n, belowVs n c1 = true) (hb2 : ∀ n, belowVs n c2 = true) (o1 l1 k1 o2 l2 k2 : Nat) (hl1 : l1 < 9223372036854775808) (hU : Txt c1 o1 l1) (hl2 : l2 < 9223372036854775808) (hV : Txt c1 o2 l2) : ∃ H, CallT P 3 [uS o1 l1 k1, uS o2 l2 k2] (HA c1 t1 f1 c2 t2 f2) (.ret (.bool true) H none) := by
  have hu : ∀ n, 11 ≤ n → belowV n (uS o1 l1 k1) = true := fun n hn => belowS (by omega)
  have hv : ∀ n, 11 ≤ n → belowV n (uS o2 l2 k2) = true := fun n hn => belowS (by omega)
  obtain ⟨n1, s1⟩ := suml1 c1 t1 f1 c2 t2 f2 hb1 hb2 (uS o2 l2 k2) (hv 11 (Nat.le_refl _)) o1 l1 k1 hl1 hU l1 0 0 (by omega)
  have T2 := p2S c1 t1 f1 c2 t2 f2 (uS o2 l2 k2) o1 l1 k1 0 n1 hb1 hb2 hv s1.trip
  obtain ⟨n2, s2⟩ := suml3 c1 t1 f1 c2 t2 f2 hb1 hb2 (uS o1 l1 k1) (hu 11 (Nat.le_refl _)) o2 l2 k2 hl2 hV l2 0 n1 (by omega)
  have T3 := p3T c1 t1 f1 c2 t2 f2 (uS o1 l1 k1) o2 l2 k2 n1 n2 hb1 hb2 hu s2.trip
  by_cases h1 : 60 < l1
  ·
    exact ⟨_, head_T c1 t1 f1 c2 t2 f2 hb1 hb2 _ _ hu hv _ _ T2 T3 (by rw [sq4]; exact Trip.stop rfl (p4ST_w1 c1 t1 f1 c2 t2 f2 o1 l1 k1 o2 l2 k2 n2 hb1 hb2 h1))⟩
  by_cases h2 : 60 < l2
  ·
    exact ⟨_, head_T c1 t1 f1 c2 t2 f2 hb1 hb2 _ _ hu hv _ _ T2 T3 (by rw [sq4]; exact Trip.stop rfl (p4ST_w2 c1 t1 f1 c2 t2 f2 o1 l1 k1 o2 l2 k2 n2 hb1 hb2 h1 h2))⟩
  cases h3 : ltI (Int.ofNat 8192) n2 with
  | true =>
    exact ⟨_, head_T c1 t1 f1 c2 t2 f2 hb1 hb2 _ _ hu hv _ _ T2 T3 (by rw [sq4]; exact Trip.stop rfl (p4ST_w3 c1 t1 f1 c2 t2 f2 o1 l1 k1 o2 l2 k2 n2 hb1 hb2 h1 h2 h3))⟩
  | false =>
    obtain ⟨j', sd', hm⟩ := mainST c1 t1 f1 c2 t2 f2 hb1 hb2 o1 l1 k1 o2 l2 k2 hU hV (max l1 l2) (by omega) (by omega) (by omega) (max l1 l2) 0 0 false (by omega) (by omega)
    exact ⟨_, head_T c1 t1 f1 c2 t2 f2 hb1 hb2 _ _ hu hv _ _ T2 T3 (by rw [sq4]; exact Trip.seq (p4ST_ok c1 t1 f1 c2 t2 f2 o1 l1 k1 o2 l2 k2 n2 hb1 hb2 h1 h2 h3) (tail_T c1 t1 f1 c2 t2 f2 hb1 hb2 _ _ (hu 11 (Nat.le_refl _)) (hv 11 (Nat.le_refl _)) hu hv _ j' sd' hm.trip))⟩
theorem lawNS (c1 : List AV) (t1 f1 : Nat) (c2 : List AV) (t2 f2 : Nat) (hb1 : ∀ n, belowVs n c1 = true) (hb2 : ∀ n, belowVs n c2 = true) (o1 l1 k1 o2 l2 k2 : Nat) (hl2 : l2 < 9223372036854775808) (hV : Txt c2 o2 l2) : ∃ H, CallT P 3 [.slice0, vS o2 l2 k2] (HA c1 t1 f1 c2 t2 f2) (.ret (.bool true) H none) := by
  have hu : ∀ n, 11 ≤ n → belowV n (.slice0) = true := fun n hn => rfl
  have hv : ∀ n, 11 ≤ n → belowV n (vS o2 l2 k2) = true := fun n hn => belowS (by omega)
  have T2 := p2N c1 t1 f1 c2 t2 f2 (vS o2 l2 k2) 0 hb1 hb2 hv
  obtain ⟨n2, s2⟩ := suml2 c1 t1 f1 c2 t2 f2 hb1 hb2 (.slice0) (hu 11 (Nat.le_refl _)) o2 l2 k2 hl2 hV l2 0 0 (by omega)
  have T3 := p3S c1 t1 f1 c2 t2 f2 (.slice0) o2 l2 k2 0 n2 hb1 hb2 hu s2.trip
  have h1 : ¬ 60 < 0 := by omega
  by_cases h2 : 60 < l2
  ·
    exact ⟨_, head_T c1 t1 f1 c2 t2 f2 hb1 hb2 _ _ hu hv _ _ T2 T3 (by rw [sq4]; exact Trip.stop rfl (p4NS_w2 c1 t1 f1 c2 t2 f2 o1 l1 k1 o2 l2 k2 n2 hb1 hb2 h1 h2))⟩
  cases h3 : ltI (Int.ofNat 8192) n2 with
  | true =>
    exact ⟨_, head_T c1 t1 f1 c2 t2 f2 hb1 hb2 _ _ hu hv _ _ T2 T3 (by rw [sq4]; exact Trip.stop rfl (p4NS_w3 c1 t1 f1 c2 t2 f2 o1 l1 k1 o2 l2 k2 n2 hb1 hb2 h1 h2 h3))⟩
  | false =>
    obtain ⟨j', sd', hm⟩ := mainNS c1 t1 f1 c2 t2 f2 hb1 hb2 o1 l1 k1 o2 l2 k2 hV (l2) (by omega) (by omega) (by omega) (l2) 0 0 false (by omega) (by omega)
    exact ⟨_, head_T c1 t1 f1 c2 t2 f2 hb1 hb2 _ _ hu hv _ _ T2 T3 (by rw [sq4]; exact Trip.seq (p4NS_ok c1 t1 f1 c2 t2 f2 o1 l1 k1 o2 l2 k2 n2 hb1 hb2 h1 h2 h3) (tail_T c1 t1 f1 c2 t2 f2 hb1 hb2 _ _ (hu 11 (Nat.le_refl _)) (hv 11 (Nat.le_refl _)) hu hv _ j' sd' hm.trip))⟩
theorem lawSN (c1 : List AV) (t1 f1 : Nat) (c2 : List AV) (t2 f2 : Nat) (hb1 : ∀ n, belowVs n c1 = true) (hb2 : ∀ n, belowVs n c2 = true) (o1 l1 k1 o2 l2 k2 : Nat) (hl1 : l1 < 9223372036854775808) (hU : Txt c1 o1 l1) : ∃ H, CallT P 3 [uS o1 l1 k1, .slice0] (HA c1 t1 f1 c2 t2 f2) (.ret (.bool true) H none) := by
  have hu : ∀ n, 11 ≤ n → belowV n (uS o1 l1 k1) = true := fun n hn => belowS (by omega)
  have hv : ∀ n, 11 ≤ n → belowV n (.slice0) = true := fun n hn => rfl
  obtain ⟨n1, s1⟩ := suml1 c1 t1 f1 c2 t2 f2 hb1 hb2 (.slice0) (hv 11 (Nat.le_refl _)) o1 l1 k1 hl1 hU l1 0 0 (by omega)
  have T2 := p2S c1 t1 f1 c2 t2 f2 (.slice0) o1 l1 k1 0 n1 hb1 hb2 hv s1.trip
  have T3 := p3N c1 t1 f1 c2 t2 f2 (uS o1 l1 k1) n1 hb1 hb2 hu
  by_cases h1 : 60 < l1
  ·
    exact ⟨_, head_T c1 t1 f1 c2 t2 f2 hb1 hb2 _ _ hu hv _ _ T2 T3 (by rw [sq4]; exact Trip.stop rfl (p4SN_w1 c1 t1 f1 c2 t2 f2 o1 l1 k1 o2 l2 k2 n1 hb1 hb2 h1))⟩
  have h2 : ¬ 60 < 0 := by omega
  cases h3 : ltI (Int.ofNat 8192) n1 with
  | true =>
    exact ⟨_, head_T c1 t1 f1 c2 t2 f2 hb1 hb2 _ _ hu hv _ _ T2 T3 (by rw [sq4]; exact Trip.stop rfl (p4SN_w3 c1 t1 f1 c2 t2 f2 o1 l1 k1 o2 l2 k2 n1 hb1 hb2 h1 h2 h3))⟩
  | false =>
    obtain ⟨j', sd', hm⟩ := mainSN c1 t1 f1 c2 t2 f2 hb1 hb2 o1 l1 k1 o2 l2 k2 hU (l1) (by omega) (by omega) (by omega) (l1) 0 0 false (by omega) (by omega)
    exact ⟨_, head_T c1 t1 f1 c2 t2 f2 hb1 hb2 _ _ hu hv _ _ T2 T3 (by rw [sq4]; exact Trip.seq (p4SN_ok c1 t1 f1 c2 t2 f2 o1 l1 k1 o2 l2 k2 n1 hb1 hb2 h1 h2 h3) (tail_T c1 t1 f1 c2 t2 f2 hb1 hb2 _ _ (hu 11 (Nat.le_refl _)) (hv 11 (Nat.le_refl _)) hu hv _ j' sd' hm.trip))⟩
theorem lawNN (c1 : List AV) (t1 f1 : Nat) (c2 : List AV) (t2 f2 : Nat) (hb1 : ∀ n, belowVs n c1 = true) (hb2 : ∀ n, belowVs n c2 = true) (o1 l1 k1 o2 l2 k2 : Nat) : ∃ H, CallT P 3 [.slice0, .slice0] (HA c1 t1 f1 c2 t2 f2) (.ret (.bool true) H none) := by
  have hu : ∀ n, 11 ≤ n → belowV n (.slice0) = true := fun n hn => rfl
  have hv : ∀ n, 11 ≤ n → belowV n (.slice0) = true := fun n hn => rfl
  have T2 := p2N c1 t1 f1 c2 t2 f2 (.slice0) 0 hb1 hb2 hv
  have T3 := p3N c1 t1 f1 c2 t2 f2 (.slice0) 0 hb1 hb2 hu
  have h1 : ¬ 60 < 0 := by omega
  have h2 : ¬ 60 < 0 := by omega
  cases h3 : ltI (Int.ofNat 8192) 0 with
  | true =>
    exact ⟨_, head_T c1 t1 f1 c2 t2 f2 hb1 hb2 _ _ hu hv _ _ T2 T3 (by rw [sq4]; exact Trip.stop rfl (p4NN_w3 c1 t1 f1 c2 t2 f2 o1 l1 k1 o2 l2 k2 0 hb1 hb2 h1 h2 h3))⟩
  | false =>
    have hm : TripL P 115 (lp cF3 2) (EM .slice0 .slice0 0) (HT c1 t1 f1 c2 t2 f2 0 false) d0 (.exit 4 (EM .slice0 .slice0 0) (HT c1 t1 f1 c2 t2 f2 0 false) d0) := TripL.stop rfl (bx_NN c1 t1 f1 c2 t2 f2 o1 l1 k1 o2 l2 k2 0 0 false hb1 hb2 (by omega) (by omega))
    exact ⟨_, head_T c1 t1 f1 c2 t2 f2 hb1 hb2 _ _ hu hv _ _ T2 T3 (by rw [sq4]; exact Trip.seq (p4NN_ok c1 t1 f1 c2 t2 f2 o1 l1 k1 o2 l2 k2 0 hb1 hb2 h1 h2 h3) (tail_T c1 t1 f1 c2 t2 f2 hb1 hb2 _ _ (hu 11 (Nat.le_refl _)) (hv 11 (Nat.le_refl _)) hu hv 0 0 false hm.trip))⟩
end Go.Proofs.YtjjjhkdpnpjnhaaGreatDoor
