/-
  Every operation of the evaluator is right: what it answers the machine does. No condition.
-/
import Derived.Test.YtjjjhkdpnpjnhaaGreatDoorA
import Derived.Lib.Builder
import Derived.Lib.UnsafeStr
import Derived.Laws.StructEq
import Derived.Lib.Bytealg
import Derived.Lib.IndexEntry
namespace Go.Rk
open Go
set_option linter.unusedVariables false
set_option linter.unusedSimpArgs false
set_option linter.constructorNameAsVariable false
section
variable {P : Program} {σ : Sg} {h : Heap} {w : World}

/-- what is appended or copied, in the model -/
structure Src (P : Program) (σ : Sg) (w : World) (size n : Nat) (new : List AV) (cx : Value) : Prop where
  len : (Builtin.lenOf cx).run P w = .ok n w
  cells : ∀ m, m ≤ n → ∃ cn : List Value, (∀ W : World, W.heap = w.heap → (Builtin.firstCells size m cx).run P W = .ok cn.toArray W) ∧ VRs σ (new.take (m * size)) cn
  count : new.length = n * size
theorem loadCells_zero {a : Addr} : (loadCells a 0).run P w = .ok #[] w := by simp [loadCells, loadCellsFrom]
theorem srcOf_ok (hr : HR P σ h.t.get w) {size : Nat} {v : AV} {cx : Value} (hx : VR σ v cx) (f : Nat → List AV → OR) : srcOf h size v f = .fail ∨ ∃ n new, srcOf h size v f = f n new ∧ Src P σ w size n new cx := by
  cases v <;> try exact .inl rfl
  · rename_i s
    simp only [VR] at hx; subst hx
    show (bif Nat.beq size 1 then f s.length (s.map u8) else .fail) = _ ∨ _
    rcases cond_fail (b := Nat.beq size 1) (x := f s.length (s.map u8)) with h0 | ⟨h1, h0⟩
    · exact .inl h0
    have := Nat.eq_of_beq_eq_true h1; subst this
    refine .inr ⟨_, _, h0, by simp [Builtin.lenOf, size_mk], fun m hm => ⟨(s.take m).map fun b => Value.int .u8 b.toNat, fun W _ => ?_, ?_⟩, by simp⟩
    · simp [Builtin.firstCells, extract_mk]
    · rw [Nat.mul_one, ← List.map_take]
      exact VRs.of (by simp) fun i v hi => by
        rw [List.getElem?_map] at hi ⊢
        cases hb : (s.take m)[i]? with
        | none => rw [hb] at hi; simp at hi
        | some b => rw [hb] at hi; simp at hi; subst hi; exact ⟨_, rfl, by simp only [u8, VR]; rfl⟩
  · simp only [VR] at hx; subst hx
    exact .inr ⟨0, [], rfl, by simp [Builtin.lenOf], fun m hm => ⟨[], fun W _ => by simp [Builtin.firstCells], by simp [VRs]⟩, by simp⟩
  · rename_i b g off n cap es ex
    show (bif Nat.beq n 0 then f 0 [] else _) = _ ∨ _
    have hx' := hx
    simp only [VR] at hx'
    obtain ⟨L, a, cc, hL, rfl, hlc, hcc, _, hor⟩ := hx'
    cases h0 : Nat.beq n 0 with
    | true =>
      have := Nat.eq_of_beq_eq_true h0; subst this
      refine .inr ⟨0, [], rfl, by simp [Builtin.lenOf], fun m hm => ⟨[], fun W _ => ?_, by simp [VRs]⟩, by simp⟩
      have h9 : m = 0 := Nat.le_zero.1 hm
      subst h9
      simp [Builtin.firstCells, loadCells_zero]
    | false =>
      have hn0 : n ≠ 0 := fun e => by subst e; simp at h0
      show h.onCells b g _ = _ ∨ _
      rcases onCellsH_cases (h := h) b g (fun cs _ _ _ => bif Nat.ble (off + n * size) cs.length then f n (takeN cs off (n * size)) else .fail) with h1 | ⟨cs, ty, fz, s, hb, h1⟩
      · exact .inl h1
      rcases cond_fail (b := Nat.ble (off + n * size) cs.length) (x := f n (takeN cs off (n * size))) with h2 | ⟨hle, h2⟩
      · exact .inl (h1.trans h2)
      have hle := ble_iff.1 hle
      have e0 : srcOf h size (.slice b g off n cap es ex) f = h.onCells b g (fun cs _ _ _ => bif Nat.ble (off + n * size) cs.length then f n (takeN cs off (n * size)) else .fail) := by
        show (bif Nat.beq n 0 then f 0 [] else _) = _
        rw [h0]; rfl
      refine .inr ⟨n, takeN cs off (n * size), e0.trans (h1.trans h2), by simp [Builtin.lenOf], fun m hm => ?_, by simp [takeN]; omega⟩
      have hms : m * size ≤ n * size := Nat.mul_le_mul_right _ hm
      obtain ⟨a', cc', l, he, hrun, hl⟩ := load_slice hr hx hb hn0 (n := m * size) (by omega)
      cases he
      refine ⟨l, fun W hW => by simpa [Builtin.firstCells] using hrun W hW, ?_⟩
      have : (takeN cs off (n * size)).take (m * size) = takeN cs off (m * size) := by
        unfold takeN; rw [List.take_take]; congr 1; omega
      rw [this]; exact hl

theorem growBy_le (need : Nat) : ∀ (r c : Nat), c < need → Builtin.growBy need r c ≤ need + (need + 768) / 4
  | 0, c, hc => by simp [Builtin.growBy]; omega
  | r + 1, c, hc => by
    rw [Builtin.growBy, if_neg (by omega)]
    by_cases h2 : c + (c + 768) / 4 < need
    · exact growBy_le need r _ h2
    · cases r with
      | zero => simp [Builtin.growBy]; omega
      | succ r => rw [Builtin.growBy, if_pos (by omega)]; omega
theorem next_le {need cap : Nat} (hc : cap < need) : Builtin.nextslicecap need cap ≤ 2 * need + 256 := by
  unfold Builtin.nextslicecap
  split
  · omega
  · split
    · omega
    · have := growBy_le need 4 cap hc; omega
theorem zeroCells_size (z : Array Value) (n : Nat) : (Builtin.zeroCells z n).size = n * z.size := by simp [Builtin.zeroCells]

/-- the model's append, where there is room -/
theorem append_room {sType xType : TypeId} {ty : TypeId} {el : TypeId} {i : TypeInfo} {d : TypeDesc} {cx : Value} {base : Option Addr} {sLen sCap n : Nat} {new : List AV} {W : World} {cn : List Value}
    (hs : P.underlying sType = some (.slice el)) (hd : P.underlying xType = some d) (hn : ∀ k, d ≠ .int k) (hi : P.info? el = some i) (hsrc : Src P σ w i.size n new cx)
    (hcn : (Builtin.firstCells i.size n cx).run P w = .ok cn.toArray w) (hle : sLen + n ≤ sCap)
    (hst : (match base with | some a => storeCells (a.add (sLen * i.size)) cn | none => pure ()).run P w = .ok () W) :
    (Builtin.append_ #[sType, xType] ty #[.slice base sLen sCap, cx]).run P w = .ok (.slice base (sLen + n) sCap) W := by
  simp only [Builtin.append_, List.getElem?_toArray, List.getElem?_cons_zero, List.getElem?_cons_succ, Sem.run_bind, run_und hs, run_und hd, run_size hi, Result.andThen_ok]
  cases d <;> first
    | exact absurd rfl (hn _)
    | (simp only [Sem.run_bind, Sem.run_pure, Result.andThen_ok, hsrc.len, if_pos hle, Bool.false_eq_true, if_false, Bool.not_false, if_true, hcn]
       cases base with
       | none => simp only [Sem.run_pure, Result.ok.injEq, true_and] at hst; subst hst; simp only [Sem.run_pure, Result.andThen_ok]
       | some a => simp only at hst; simp only [Sem.run_bind, hst, Sem.run_pure, Result.andThen_ok])
/-- the model's append, where there is none -/
theorem append_grow {sType xType : TypeId} {ty : TypeId} {el : TypeId} {i : TypeInfo} {d : TypeDesc} {cx z : Value} {base : Option Addr} {sLen sCap n : Nat} {new : List AV} {cn old : List Value}
    (hs : P.underlying sType = some (.slice el)) (hd : P.underlying xType = some d) (hn : ∀ k, d ≠ .int k) (hi : P.info? el = some i) (hz : i.zero = some z) (hsrc : Src P σ w i.size n new cx)
    (hroom : roomy (sLen + n) i.bytes = true) (hlt : sCap < sLen + n)
    (hcn : ∀ W : World, W.heap = w.heap → (Builtin.firstCells i.size n cx).run P W = .ok cn.toArray W) (hold : ∀ W : World, W.heap = w.heap → (Builtin.firstCells i.size sLen (.slice base sLen sCap)).run P W = .ok old.toArray W) :
    ∃ C, sLen + n ≤ C ∧ (Builtin.append_ #[sType, xType] ty #[.slice base sLen sCap, cx]).run P w =
      .ok (.slice (some ⟨w.heap.size, 0, none⟩) (sLen + n) C) { w with heap := w.heap.push (.cells (old.toArray ++ cn.toArray ++ Builtin.zeroCells z.cells (C - (sLen + n))) el (0, 0)), drawn := w.drawn + 1 } := by
  refine ⟨_, cut_ge (sLen + n) sCap el (w.tape w.drawn (.appendCap (sLen + n) sCap el)), ?_⟩
  have hroom := ble_iff.1 hroom
  have hnx := next_le hlt
  have hpos : 0 < sLen + n := by omega
  have hb : i.bytes + 1 ≤ 274877906944 := by
    have : 1 * (i.bytes + 1) ≤ (sLen + n) * (i.bytes + 1) := Nat.mul_le_mul_right _ hpos
    omega
  have hmul : (sLen + n) * i.bytes ≤ 274877906944 := by
    have : (sLen + n) * i.bytes ≤ (sLen + n) * (i.bytes + 1) := Nat.mul_le_mul_left _ (by omega)
    omega
  have hsmall : ¬ (Builtin.nextslicecap (sLen + n) sCap * i.bytes > 2 ^ 48) := by
    have h1 : Builtin.nextslicecap (sLen + n) sCap * i.bytes ≤ (2 * (sLen + n) + 256) * i.bytes := Nat.mul_le_mul_right _ hnx
    have h2 : (2 * (sLen + n) + 256) * i.bytes = 2 * ((sLen + n) * i.bytes) + 256 * i.bytes := by rw [Nat.add_mul, Nat.mul_assoc]
    omega
  have hint : ¬ ((sLen + n : Nat) : Int) > IntKind.i64.max := by
    have : sLen + n ≤ (sLen + n) * (i.bytes + 1) := Nat.le_mul_of_pos_right _ (by omega)
    simp only [IntKind.max, IntKind.signed, IntKind.bits, if_true]; rw [p63]; omega
  have hgt : ¬ (sLen + n ≤ sCap) := by omega
  have hq : (Question.appendCap (sLen + n) sCap el).forced = false := rfl
  have hcn' := hcn { w with drawn := w.drawn + 1 } rfl
  have hold' := hold { w with drawn := w.drawn + 1 } rfl
  have hint' : ¬ (((sLen : Int) + (n : Int)) > IntKind.i64.max) := by simpa using hint
  have hsmall' : ¬ (281474976710656 < Builtin.nextslicecap (sLen + n) sCap * i.bytes) := by simpa using hsmall
  simp only [Builtin.append_, List.getElem?_toArray, List.getElem?_cons_zero, List.getElem?_cons_succ, Sem.run_bind, run_und hs, run_und hd, run_size hi, Result.andThen_ok]
  cases d <;> first
    | exact absurd rfl (hn _)
    | (simp only [Sem.run_bind, Sem.run_pure, Result.andThen_ok, hsrc.len, if_neg hgt, Bool.false_eq_true, if_false, not_false_eq_true, false_or, run_inf hi]
       rw [if_neg (fun x => hint x.1)]
       simp only [Sem.run_bind, Sem.run_pure, Result.andThen_ok, run_inf hi, if_neg hsmall, run_choose, hq, Bool.false_eq_true, if_false, run_askRoom, hold', hcn', Bool.not_false, if_true, run_zero hi hz, newRow, run_newObj])
end
end Go.Rk

namespace Go.Rk
open Go
set_option linter.unusedVariables false
set_option linter.unusedSimpArgs false
set_option linter.constructorNameAsVariable false
section
variable {P : Program} {σ : Sg} {h : Heap} {w : World}

theorem Src.all {size n : Nat} {new : List AV} {cx : Value} (hs : Src P σ w size n new cx) : ∃ cn : List Value, (∀ W : World, W.heap = w.heap → (Builtin.firstCells size n cx).run P W = .ok cn.toArray W) ∧ VRs σ new cn := by
  obtain ⟨cn, h1, h2⟩ := hs.cells n (Nat.le_refl _)
  rw [← hs.count, List.take_length] at h2
  exact ⟨cn, h1, h2⟩

theorem cell?_heap {w W : World} (h : W.heap = w.heap) (a : Addr) : W.cell? a = w.cell? a := by simp [World.cell?, h]
/-- loading cells hangs on the memory alone -/
theorem run_loadCells_heap {W : World} (hW : W.heap = w.heap) {a : Addr} {n : Nat} {l : List Value} (hl : l.length = n) (hc : ∀ j v, l[j]? = some v → w.cell? (a.add j) = some v) : (loadCells a n).run P W = .ok l.toArray W := by
  subst hl
  exact run_loadCells_list W a l fun j v hj => by rw [cell?_heap hW]; exact hc j v hj

/-- the cells of a known slice, in every world with this memory -/
theorem slice_cells (hr : HR P σ h.t.get w) {b g off len cap es ty fz size : Nat} {s : Bool} {L : Loc} {a : Addr} {cc : Nat} {cs : List AV} (hb : h.t.get b = some (.cells cs ty g fz s)) (hL : σ b g = some L) (hlc : len ≤ cap) (hcc : cap ≤ cc)
    (hor : cc = 0 ∨ (L.sh ≤ off ∧ a = ⟨L.blk, off - L.sh, none⟩ ∧ off - L.sh + cc * es ≤ L.sz)) (hn : off + len * size ≤ cs.length) :
    ∃ l : List Value, VRs σ (takeN cs off (len * size)) l ∧ ∀ W : World, W.heap = w.heap → (Builtin.firstCells size len (.slice (some a) len cc)).run P W = .ok l.toArray W := by
  by_cases h0 : len = 0
  · subst h0
    exact ⟨[], by simp [takeN, VRs], fun W _ => by simp [Builtin.firstCells, loadCells_zero]⟩
  · obtain ⟨L', c, lo, hi, hL', hblk, hsz, hl, hrel, _⟩ := cells_of hr hb
    rw [hL] at hL'; cases hL'
    rcases hor with h1 | ⟨hsh, rfl, _⟩
    · omega
    obtain ⟨h3, h4⟩ := cells_take hsz hl hrel hsh hn
    refine ⟨_, h3, fun W hW => ?_⟩
    have hblk' : W.heap[L.blk]? = some (.cells c ty (lo, hi)) := by rw [hW]; exact hblk
    simpa [Builtin.firstCells] using run_loadCells_at (P := P) hblk' h4

theorem onZ_cases {t : TypeId} {k : AV → Ko} {e : T} : (onZ P t k).run e h = .fail ∨ ∃ z, zero P t = some z ∧ (onZ P t k).run e h = (k z).run e h := by
  unfold onZ
  cases hz : zero P t with
  | none => exact .inl rfl
  | some z => exact .inr ⟨z, rfl, rfl⟩
theorem inf_cases {t : TypeId} {k : TypeInfo → Ko} {e : T} : (inf P t k).run e h = .fail ∨ ∃ i, P.info? t = some i ∧ (inf P t k).run e h = (k i).run e h := by
  unfold inf
  cases hz : P.info? t with
  | none => exact .inl rfl
  | some z => exact .inr ⟨z, rfl, rfl⟩
theorem onCellsK_ok {v : AV} {c : Value} {e : T} (hv : VR σ v c) (f : List AV → Ko) : (v.onCellsK f).run e h = .fail ∨ ∃ cs, (v.onCellsK f).run e h = (f cs).run e h ∧ VRs σ cs c.cells.toList := by
  have : (v.onCellsK f).run e h = v.onCells fun cs => (f cs).run e h := by cases v <;> rfl
  rw [this]
  exact onCells_ok hv _

theorem appendTo_ok (hr : HR P σ h.t.get w) (hf : ∀ k, σ h.next k = none) {sType xType ty el : TypeId} {i : TypeInfo} {d : TypeDesc} {s : AV} {cs cx z : Value} {n : Nat} {new : List AV}
    (hs : P.underlying sType = some (.slice el)) (hd : P.underlying xType = some d) (hn : ∀ k, d ≠ .int k) (hi : P.info? el = some i) (hz : i.zero = some z) (hzs : z.cells.size = i.size) (hsv : VR σ s cs) (hsrc : Src P σ w i.size n new cx) :
    OSd P σ h w (do pure (Next.value (← Builtin.append_ #[sType, xType] ty #[cs, cx]))) (appendTo h el i.size i.bytes s n new) := by
  obtain ⟨cn, hcn, hnew⟩ := hsrc.all
  cases s <;> try trivial
  · -- nil
    simp only [VR] at hsv; subst hsv
    show OSd P σ h w _ (bif Nat.beq n 0 then OR.val .slice0 h else bif roomy n i.bytes then OR.val (.slice h.next 0 0 n n i.size false) (h.new (.cells new el 0 0 false)) else .fail)
    cases h0 : Nat.beq n 0 with
    | true =>
      have := Nat.eq_of_beq_eq_true h0; subst this
      exact osd_v (append_room hs hd hn hi hsrc (hcn w rfl) (by omega) (by simp)) (by simp only [VR]) (Aft.refl hr)
    | false =>
      have hn0 : n ≠ 0 := fun e => by subst e; simp at h0
      show OSd P σ h w _ (bif roomy n i.bytes then _ else _)
      rcases cond_fail (b := roomy n i.bytes) (x := OR.val (.slice h.next 0 0 n n i.size false) (h.new (.cells new el 0 0 false))) with h1 | ⟨hroom, h1⟩
      · rw [h1]; trivial
      rw [h1]
      obtain ⟨C, hC, hrun⟩ := append_grow (ty := ty) (base := none) (sLen := 0) (sCap := 0) (old := []) hs hd hn hi hz hsrc (by simpa using hroom) (by omega) hcn (fun W _ => by simp [Builtin.firstCells])
      let cells : Array Value := ([] : List Value).toArray ++ cn.toArray ++ Builtin.zeroCells z.cells (C - (0 + n))
      have hl := hnew.len
      have hsz : cells.size = cn.length + (C - n) * i.size := by simp [cells, zeroCells_size, hzs]
      have hcnt := hsrc.count
      have hCn : n ≤ C := by omega
      have e1 : n * i.size + (C - n) * i.size = C * i.size := by rw [← Nat.add_mul]; congr 1; omega
      refine osd_v hrun ?_ (Aft.mkNew (sz := cells.size) hr hf rfl (ob_room (P := P) (s := false) ?_ (by rw [hsz]; omega) fz_false) rfl ⟨rfl, rfl, rfl⟩)
      · simp only [VR]
        refine ⟨_, _, C, Sg.set_same _ _ _ _, by simp, Nat.le_refl _, hCn, (fun e => by cases e), .inr ⟨Nat.le_refl _, rfl, ?_⟩⟩
        show 0 - 0 + C * i.size ≤ cells.size
        rw [hsz]; omega
      · have : cells.toList.take new.length = cn := by
          simp only [cells, Array.toList_append]
          rw [List.take_append_of_le_length (by simp; omega)]
          simp [hl]
        rw [this]
        exact hnew.mono (Sg.le_set (hf 0))
  · rename_i b g off len cap es ex
    have hsv' := hsv
    simp only [VR] at hsv
    obtain ⟨L, a, cc, hL, rfl, hlc, hcc, hex, hor⟩ := hsv
    show OSd P σ h w _ (bif Nat.ble (len + n) cap then
      (bif Nat.beq n 0 then OR.val (.slice b g off len cap es ex) h else storeAt h b g (off + len * i.size) new (.slice b g off (len + n) cap es ex))
    else bif roomy (len + n) i.bytes && Nat.beq es i.size then
      h.onCells b g fun cs ty' fz s =>
        bif ex then (bif Nat.ble (off + len * i.size) cs.length then OR.val (.slice h.next 0 0 (len + n) (len + n) i.size false) (h.new (.cells (takeN cs off (len * i.size) ++ new) el 0 0 false)) else .fail)
        else bif Nat.beq (off + len * i.size) cs.length && Nat.beq el ty' && Nat.ble fz cs.length && flat new then OR.val (.slice b (Nat.succ g) off (len + n) (len + n) i.size false) (h.put b (.cells (cs ++ new) el (Nat.succ g) fz s))
        else .fail
    else .fail)
    cases hle : Nat.ble (len + n) cap with
    | true =>
      have hle := ble_iff.1 hle
      show OSd P σ h w _ (bif Nat.beq n 0 then _ else _)
      cases h0 : Nat.beq n 0 with
      | true =>
        have := Nat.eq_of_beq_eq_true h0; subst this
        have hnil : cn = [] := by
          have := hnew.len; have h2 := hsrc.count
          simp at h2; subst h2; simpa using this.symm
        subst hnil
        exact osd_v (c := .slice (some a) len cc) (append_room hs hd hn hi hsrc (hcn w rfl) (by omega) (by simp [storeCells])) hsv' (Aft.refl hr)
      | false =>
        have hn0 : n ≠ 0 := fun e => by subst e; simp at h0
        show OSd P σ h w _ (storeAt h b g (off + len * i.size) new (.slice b g off (len + n) cap es ex))
        rcases storeAt_cases (h := h) b g (off + len * i.size) new (.slice b g off (len + n) cap es ex) with h1 | ⟨cs, ty', fz, s, hb, hle2, hfz, hfl, h1⟩
        · rw [h1]; trivial
        rw [h1]
        rcases hor with h2 | ⟨hsh, rfl, hbd⟩
        · omega
        obtain ⟨w', hrun, haft⟩ := store_ok hr hb hL (by omega : L.sh ≤ off + len * i.size) hnew hfl hle2 hfz
        refine osd_v (c := .slice (some ⟨L.blk, off - L.sh, none⟩) (len + n) cc) (append_room hs hd hn hi hsrc (hcn w rfl) (by omega) ?_) ?_ haft
        · simp only [add_blk]
          rw [show off - L.sh + len * i.size = off + len * i.size - L.sh by omega]
          exact hrun
        · simp only [VR]
          exact ⟨L, _, cc, hL, rfl, by omega, hcc, hex, .inr ⟨hsh, rfl, hbd⟩⟩
    | false =>
      have hgt : ¬ len + n ≤ cap := fun e => by rw [ble_iff.2 e] at hle; cases hle
      show OSd P σ h w _ (bif roomy (len + n) i.bytes && Nat.beq es i.size then _ else _)
      rcases cond_fail (b := roomy (len + n) i.bytes && Nat.beq es i.size) (x := h.onCells b g fun cs ty' fz s =>
        bif ex then (bif Nat.ble (off + len * i.size) cs.length then OR.val (.slice h.next 0 0 (len + n) (len + n) i.size false) (h.new (.cells (takeN cs off (len * i.size) ++ new) el 0 0 false)) else .fail)
        else bif Nat.beq (off + len * i.size) cs.length && Nat.beq el ty' && Nat.ble fz cs.length && flat new then OR.val (.slice b (Nat.succ g) off (len + n) (len + n) i.size false) (h.put b (.cells (cs ++ new) el (Nat.succ g) fz s))
        else .fail) with h1 | ⟨hroom, h1⟩
      · rw [h1]; trivial
      rw [h1]
      rw [Bool.and_eq_true] at hroom
      obtain ⟨hroom, hes⟩ := hroom
      have hes := Nat.eq_of_beq_eq_true hes; subst hes
      rcases onCellsH_cases (h := h) b g (fun cs ty' fz s =>
        bif ex then (bif Nat.ble (off + len * i.size) cs.length then OR.val (.slice h.next 0 0 (len + n) (len + n) i.size false) (h.new (.cells (takeN cs off (len * i.size) ++ new) el 0 0 false)) else .fail)
        else bif Nat.beq (off + len * i.size) cs.length && Nat.beq el ty' && Nat.ble fz cs.length && flat new then OR.val (.slice b (Nat.succ g) off (len + n) (len + n) i.size false) (h.put b (.cells (cs ++ new) el (Nat.succ g) fz s))
        else .fail) with h2 | ⟨cs, ty', fz, s, hb, h2⟩
      · rw [h2]; trivial
      rw [h2]
      have hl := hnew.len
      have hcnt := hsrc.count
      -- the new row, wherever it is made
      have grow : cc < len + n → off + len * i.size ≤ cs.length → ∃ C old, len + n ≤ C ∧ VRs σ (takeN cs off (len * i.size)) old ∧
          (Builtin.append_ #[sType, xType] ty #[.slice (some a) len cc, cx]).run P w = .ok (.slice (some ⟨w.heap.size, 0, none⟩) (len + n) C)
            { w with heap := w.heap.push (.cells (old.toArray ++ cn.toArray ++ Builtin.zeroCells z.cells (C - (len + n))) el (0, 0)), drawn := w.drawn + 1 } := by
        intro hlt hin
        obtain ⟨old, hold, hrunold⟩ := slice_cells (size := i.size) hr hb hL hlc hcc hor hin
        obtain ⟨C, hC, hrun⟩ := append_grow (ty := ty) (base := some a) (sLen := len) (sCap := cc) (old := old) hs hd hn hi hz hsrc hroom hlt hcn hrunold
        exact ⟨C, old, hC, hold, hrun⟩
      cases ex with
      | true =>
        have hcap := hex rfl
        show OSd P σ h w _ (bif Nat.ble (off + len * i.size) cs.length then _ else _)
        rcases cond_fail (b := Nat.ble (off + len * i.size) cs.length) (x := OR.val (.slice h.next 0 0 (len + n) (len + n) i.size false) (h.new (.cells (takeN cs off (len * i.size) ++ new) el 0 0 false))) with h3 | ⟨hin, h3⟩
        · rw [h3]; trivial
        rw [h3]
        obtain ⟨C, old, hC, hold, hrun⟩ := grow (by omega) (ble_iff.1 hin)
        have hol := hold.len
        have htl : (takeN cs off (len * i.size)).length = len * i.size := by have := ble_iff.1 hin; simp [takeN]; omega
        let cells : Array Value := old.toArray ++ cn.toArray ++ Builtin.zeroCells z.cells (C - (len + n))
        have hsz : cells.size = old.length + cn.length + (C - (len + n)) * i.size := by simp [cells, zeroCells_size, hzs]; omega
        have e1 : len * i.size + n * i.size + (C - (len + n)) * i.size = C * i.size := by rw [← Nat.add_mul, ← Nat.add_mul]; congr 1; omega
        refine osd_v hrun ?_ (Aft.mkNew (sz := cells.size) hr hf rfl (ob_room (P := P) (s := false) ?_ (by rw [hsz]; simp; omega) fz_false) rfl ⟨rfl, rfl, rfl⟩)
        · simp only [VR]
          refine ⟨_, _, C, Sg.set_same _ _ _ _, rfl, Nat.le_refl _, hC, (fun e => by cases e), .inr ⟨Nat.le_refl _, rfl, ?_⟩⟩
          show 0 - 0 + C * i.size ≤ cells.size
          rw [hsz]; omega
        · have : cells.toList.take (takeN cs off (len * i.size) ++ new).length = old ++ cn := by
            simp only [cells, Array.toList_append]
            rw [List.take_append_of_le_length (by simp; omega)]
            apply List.take_of_length_le
            simp; omega
          rw [this]
          exact (hold.append hnew).mono (Sg.le_set (hf 0))
      | false =>
        show OSd P σ h w _ (bif Nat.beq (off + len * i.size) cs.length && Nat.beq el ty' && Nat.ble fz cs.length && flat new then _ else _)
        rcases cond_fail (b := Nat.beq (off + len * i.size) cs.length && Nat.beq el ty' && Nat.ble fz cs.length && flat new) (x := OR.val (.slice b (Nat.succ g) off (len + n) (len + n) i.size false) (h.put b (.cells (cs ++ new) el (Nat.succ g) fz s))) with h3 | ⟨hc, h3⟩
        · rw [h3]; trivial
        rw [h3]
        simp only [Bool.and_eq_true] at hc
        obtain ⟨⟨⟨htop, hty⟩, hfzl⟩, hflat⟩ := hc
        have htop := Nat.eq_of_beq_eq_true htop
        have hty := Nat.eq_of_beq_eq_true hty
        subst hty
        have hfzl := ble_iff.1 hfzl
        obtain ⟨L', c, lo, hi', hL', hblk, hsz, hlen, hrel, hzz⟩ := cells_of hr hb
        rw [hL] at hL'; cases hL'
        by_cases hin : len + n ≤ cc
        · -- in place
          rcases hor with h4 | ⟨hsh, rfl, hbd⟩
          · omega
          have e0 : (len + n) * i.size ≤ cc * i.size := Nat.mul_le_mul_right _ hin
          have e1 : (len + n) * i.size = len * i.size + n * i.size := Nat.add_mul _ _ _
          have hfree : ∀ j, j < cn.length → ¬ (lo ≤ off - L.sh + len * i.size + 0 + j ∧ off - L.sh + len * i.size + 0 + j < hi') := by
            intro j hj
            cases s with
            | true => have := (hzz.1 rfl).2; omega
            | false => rcases hzz.2 rfl with h5 | ⟨h5, h6⟩ <;> omega
          have hrun := run_storeCells_at (P := P) cn 0 w L.blk (off - L.sh + len * i.size) c el lo hi' hblk (by omega) hfree (flat_one hflat hnew)
          refine osd_v (c := .slice (some ⟨L.blk, off - L.sh, none⟩) (len + n) cc) (w' := wset w L.blk (.cells (setA c (off - L.sh + len * i.size + 0) cn) el (lo, hi'))) (append_room hs hd hn hi hsrc (hcn w rfl) hin (by simp only [add_blk]; exact hrun)) ?_
            (Aft.mkGen (M := L) (obj := .cells (setA c (off - L.sh + len * i.size + 0) cn) el (lo, hi')) hr hb hL rfl ?_ (.inl ⟨rfl, rfl⟩) ⟨rfl, rfl, rfl⟩ (ro_le hfzl))
          · simp only [VR]
            exact ⟨L, _, cc, Sg.set_same _ _ _ _, rfl, Nat.le_refl _, hin, (fun e => by cases e), .inr ⟨hsh, rfl, hbd⟩⟩
          · have hle' : σ.le (σ.set b (g + 1) L) := Sg.le_set (hr.top b _ _ hb (by simp [genOf]))
            refine ⟨_, lo, hi', rfl, by rw [setA_size]; exact hsz, by simp; omega, fun k v hk hks => ?_, hzz⟩
            rw [setA_get _ _ _ _ (by omega)]
            by_cases hkl : k < cs.length
            · rw [List.getElem?_append_left hkl] at hk
              obtain ⟨x, hx, hv⟩ := hrel k v hk hks
              exact ⟨x, by rw [if_neg (by omega)]; exact hx, hv.mono hle'⟩
            · rw [List.getElem?_append_right (by omega)] at hk
              obtain ⟨x, hx, hv⟩ := hnew.get hk
              obtain ⟨hxl, _⟩ := List.getElem?_eq_some_iff.1 hx
              refine ⟨x, ?_, hv.mono hle'⟩
              have h7 : off - L.sh + len * i.size + 0 ≤ k - L.sh ∧ k - L.sh < off - L.sh + len * i.size + 0 + cn.length := by
                clear grow hx hk hv hrel
                constructor <;> omega
              rw [if_pos h7, show k - L.sh - (off - L.sh + len * i.size + 0) = k - cs.length by clear grow hx hk hv hrel h7; omega]
              exact hx
        · -- a new block
          obtain ⟨C, old, hC, hold, hrun⟩ := grow (by omega) (by omega)
          have hol := hold.len
          have htl : (takeN cs off (len * i.size)).length = len * i.size := by simp [takeN]; omega
          let cells : Array Value := old.toArray ++ cn.toArray ++ Builtin.zeroCells z.cells (C - (len + n))
          have hsz' : cells.size = old.length + cn.length + (C - (len + n)) * i.size := by simp [cells, zeroCells_size, hzs]; omega
          have e1 : len * i.size + n * i.size + (C - (len + n)) * i.size = C * i.size := by rw [← Nat.add_mul, ← Nat.add_mul]; congr 1; omega
          refine osd_v hrun ?_ (Aft.mkGen (M := ⟨w.heap.size, off, cells.size⟩) (obj := .cells cells el (0, 0)) hr hb hL rfl ?_ (.inr ⟨rfl, rfl⟩) ⟨rfl, rfl, rfl⟩ (ro_le hfzl))
          · simp only [VR]
            refine ⟨_, _, C, Sg.set_same _ _ _ _, rfl, Nat.le_refl _, hC, (fun e => by cases e), .inr ⟨Nat.le_refl _, by simp, ?_⟩⟩
            show off - off + C * i.size ≤ cells.size
            rw [hsz']; omega
          · have hle' : σ.le (σ.set b (g + 1) ⟨w.heap.size, off, cells.size⟩) := Sg.le_set (hr.top b _ _ hb (by simp [genOf]))
            refine ⟨cells, 0, 0, rfl, rfl, by show (cs ++ new).length ≤ off + cells.size; rw [hsz']; simp; omega, fun k v hk hks => ?_, ?_⟩
            · have hks : off ≤ k := hks
              have hcell : ∀ (j : Nat) (x : Value), (old ++ cn)[j]? = some x → cells[j]? = some x := by
                intro j x hj
                obtain ⟨hjl, _⟩ := List.getElem?_eq_some_iff.1 hj
                have : cells.toList[j]? = some x := by
                  simp only [cells, Array.toList_append]
                  rw [List.getElem?_append_left (by simpa using hjl)]
                  simpa using hj
                simpa using this
              by_cases hkl : k < cs.length
              · rw [List.getElem?_append_left hkl] at hk
                have : (takeN cs off (len * i.size))[k - off]? = some v := by
                  unfold takeN
                  rw [List.getElem?_take_of_lt (by omega), List.getElem?_drop, show off + (k - off) = k by omega]
                  exact hk
                obtain ⟨x, hx, hv⟩ := hold.get this
                obtain ⟨hxl, _⟩ := List.getElem?_eq_some_iff.1 hx
                exact ⟨x, hcell _ _ (by rw [List.getElem?_append_left hxl]; exact hx), hv.mono hle'⟩
              · rw [List.getElem?_append_right (by omega)] at hk
                obtain ⟨x, hx, hv⟩ := hnew.get hk
                refine ⟨x, hcell _ _ ?_, hv.mono hle'⟩
                show (old ++ cn)[k - off]? = some x
                rw [List.getElem?_append_right (by omega), show k - off - old.length = k - cs.length by omega]
                exact hx
            · unfold FZ at hzz ⊢
              exact ⟨fun e => ⟨(hzz.1 e).1, .inl rfl⟩, fun _ => Or.inl rfl⟩
end
end Go.Rk

namespace Go.Rk
open Go
set_option linter.unusedVariables false
set_option linter.unusedSimpArgs false
set_option linter.constructorNameAsVariable false
section
variable {P : Program} {σ : Sg} {h : Heap} {w : World}

/-! copy -/
theorem min_eq (a b : Nat) : (bif Nat.blt a b then a else b) = Nat.min a b := by
  cases e : Nat.blt a b with
  | true => have := blt_iff.1 e; simp [Nat.min_def]; omega
  | false => have : ¬ a < b := fun x => by rw [blt_iff.2 x] at e; cases e
             simp [Nat.min_def]; omega
theorem copyTo_ok (hr : HR P σ h.t.get w) {dType xType ty el : TypeId} {i : TypeInfo} {d : AV} {cd cx : Value} {n : Nat} {new : List AV}
    (hs : P.underlying dType = some (.slice el)) (hi : P.info? el = some i) (hd : VR σ d cd) (hsrc : Src P σ w i.size n new cx) :
    OSd P σ h w (do pure (Next.value (← Builtin.copy_ #[dType, xType] ty #[cd, cx]))) (copyTo h i.size d n new) := by
  cases d <;> try trivial
  · simp only [VR] at hd; subst hd
    obtain ⟨cn, hcn, hv⟩ := hsrc.cells 0 (Nat.zero_le _)
    refine osd_v (c := .int .i64 0) ?_ (by simp only [VR]) (Aft.refl hr)
    have : Nat.min n 0 = 0 := by simp
    simp [Builtin.copy_, run_und hs, hsrc.len, run_size hi, hcn w rfl, goInt]
  · rename_i b g off dl cap es ex
    simp only [VR] at hd
    obtain ⟨L, a, cc, hL, rfl, hlc, hcc, hex, hor⟩ := hd
    show OSd P σ h w _ (bif Nat.beq (bif Nat.blt n dl then n else dl) 0 then OR.val (.int .i64 0) h else
      storeAt h b g off (new.take ((bif Nat.blt n dl then n else dl) * i.size)) (.int .i64 (Int.ofNat (bif Nat.blt n dl then n else dl))))
    rw [min_eq]
    obtain ⟨cn, hcn, hv⟩ := hsrc.cells (Nat.min n dl) (Nat.min_le_left _ _)
    cases h0 : Nat.beq (Nat.min n dl) 0 with
    | true =>
      have hm := Nat.eq_of_beq_eq_true h0
      rw [hm] at hcn hv
      have hnil : cn = [] := by have := hv.len; simpa using this.symm
      subst hnil
      refine osd_v (c := .int .i64 0) ?_ (by simp only [cond_true, VR]) (Aft.refl hr)
      simp [Builtin.copy_, run_und hs, hsrc.len, run_size hi, hm, hcn w rfl, goInt, storeCells]
    | false =>
      have hm : Nat.min n dl ≠ 0 := fun e => by rw [e] at h0; simp at h0
      have hml : Nat.min n dl ≤ dl := Nat.min_le_right _ _
      show OSd P σ h w _ (storeAt h b g off (new.take (Nat.min n dl * i.size)) (.int .i64 (Int.ofNat (Nat.min n dl))))
      rcases storeAt_cases (h := h) b g off (new.take (Nat.min n dl * i.size)) (.int .i64 (Int.ofNat (Nat.min n dl))) with h1 | ⟨cs, ty', fz, s, hb, hle, hfz, hfl, h1⟩
      · rw [h1]; trivial
      rw [h1]
      rcases hor with h2 | ⟨hsh, rfl, hbd⟩
      · omega
      obtain ⟨w', hrun, haft⟩ := store_ok hr hb hL hsh hv hfl hle hfz
      refine osd_v (c := .int .i64 (Nat.min n dl)) (w' := w') ?_ (by simp only [VR]; rfl) haft
      simp [Builtin.copy_, run_und hs, hsrc.len, run_size hi, hcn w rfl, goInt, hrun]
theorem oCopy_ok (hr : HR P σ h.t.get w) {dType xType ty el : TypeId} {i : TypeInfo} {e : T} {d x : Ev} {cd cx : Value}
    (hs : P.underlying dType = some (.slice el)) (hi : P.info? el = some i) (hd : VR σ (d.ev e) cd) (hx : VR σ (x.ev e) cx) :
    OSd P σ h w (do pure (Next.value (← Builtin.copy_ #[dType, xType] ty #[cd, cx]))) ((oCopy i.size d x).run e h) := by
  show OSd P σ h w _ (srcOf h i.size (x.ev e) _)
  rcases srcOf_ok hr hx (fun n new => copyTo h i.size (d.ev e) n new) with h0 | ⟨n, new, h0, hsrc⟩
  · rw [h0]; trivial
  rw [h0]
  exact copyTo_ok hr hs hi hd hsrc
theorem oAppend_ok (hr : HR P σ h.t.get w) (hf : ∀ k, σ h.next k = none) {sType xType ty el : TypeId} {i : TypeInfo} {d : TypeDesc} {e : T} {s x : Ev} {cs cx z : Value}
    (hs : P.underlying sType = some (.slice el)) (hd : P.underlying xType = some d) (hn : ∀ k, d ≠ .int k) (hi : P.info? el = some i) (hz : i.zero = some z) (hzs : z.cells.size = i.size) (hsv : VR σ (s.ev e) cs) (hx : VR σ (x.ev e) cx) :
    OSd P σ h w (do pure (Next.value (← Builtin.append_ #[sType, xType] ty #[cs, cx]))) ((oAppend el i.size i.bytes s x).run e h) := by
  show OSd P σ h w _ (bif Nat.beq i.size 0 then .fail else srcOf h i.size (x.ev e) fun n new => appendTo h el i.size i.bytes (s.ev e) n new)
  rcases cond_fail' (b := Nat.beq i.size 0) (x := srcOf h i.size (x.ev e) fun n new => appendTo h el i.size i.bytes (s.ev e) n new) with h0 | ⟨_, h0⟩
  · rw [h0]; trivial
  rw [h0]
  rcases srcOf_ok hr hx (fun n new => appendTo h el i.size i.bytes (s.ev e) n new) with h0 | ⟨n, new, h0, hsrc⟩
  · rw [h0]; trivial
  rw [h0]
  exact appendTo_ok hr hf hs hd hn hi hz hzs hsv hsrc

/-! zero cells, many times -/
theorem rep_length : ∀ (n : Nat) (z : List AV), (rep n z).length = n * z.length
  | 0, z => by simp [rep]
  | n + 1, z => by simp [rep, rep_length n z, Nat.add_mul]; omega
theorem rep_get : ∀ (n : Nat) (z : List AV) (i : Nat), i < n * z.length → (rep n z)[i]? = z[i % z.length]?
  | 0, z, i, h => by simp at h
  | n + 1, z, i, h => by
    rw [rep]
    by_cases hi : i < z.length
    · rw [List.getElem?_append_left hi, Nat.mod_eq_of_lt hi]
    · rw [List.getElem?_append_right (by omega), rep_get n z _ (by rw [Nat.add_mul, Nat.one_mul] at h; omega)]
      rw [(Nat.mod_eq_sub_mod (by omega) : i % z.length = (i - z.length) % z.length)]
theorem rep_ok {n size : Nat} {z : List AV} {cz : Array Value} (hz : VRs σ z cz.toList) (hs : z.length = size) :
    VRs σ (rep n z) (((Array.range (n * size)).map fun i => cz[i % cz.size]!)).toList := by
  have hl : cz.size = size := by have := hz.len; simp at this; omega
  refine VRs.of (by simp [rep_length, hs]) fun i v hi => ?_
  obtain ⟨hlt, _⟩ := List.getElem?_eq_some_iff.1 hi
  rw [rep_length, hs] at hlt
  rw [rep_get n z i (by rw [hs]; exact hlt), hs] at hi
  obtain ⟨c, hc, hv⟩ := hz.get hi
  refine ⟨c, ?_, hv⟩
  have hc' : cz[i % size]? = some c := by simpa using hc
  simp only [Array.getElem?_toList, Array.getElem?_map, Array.getElem?_range, if_pos hlt, Option.map_some, hl]
  rw [getElem!_def, hc']

theorem oMakeSlice_ok (hr : HR P σ h.t.get w) (hf : ∀ k, σ h.next k = none) {t el : TypeId} {i : TypeInfo} {z : AV} {e : T} {x y : Ev} {cx cy : Value} (ht : P.underlying t = some (.slice el)) (hi : P.info? el = some i) (hz : zero P el = some z)
    (hx : VR σ (x.ev e) cx) (hy : VR σ (y.ev e) cy) : OSd P σ h w (do pure (Next.value (← Instr.makeSlice t cx cy))) ((oMakeSlice el i.size i.bytes z x y).run e h) := by
  obtain ⟨i', cz, hi', hcz, hvz⟩ := zero_ok (σ := σ) hz
  rw [hi] at hi'; cases hi'
  show OSd P σ h w _ (z.onCells _)
  rcases onCells_ok hvz (fun z => (x.ev e).onInt fun _ l => onNat l fun l => (y.ev e).onInt fun _ c => onNat c fun c =>
    bif Nat.ble l c && Nat.ble (c * (i.bytes + 1)) 1099511627776 && Nat.beq z.length i.size && Nat.blt 0 i.size then OR.val (.slice h.next 0 0 l c i.size true) (h.new (.cells (rep c z) el 0 0 false)) else .fail) with h0 | ⟨zs, h0, hzs⟩
  · rw [h0]; trivial
  rw [h0]
  rcases onInt_cases (x.ev e) (fun _ l => onNat l fun l => (y.ev e).onInt fun _ c => onNat c fun c =>
    bif Nat.ble l c && Nat.ble (c * (i.bytes + 1)) 1099511627776 && Nat.beq zs.length i.size && Nat.blt 0 i.size then OR.val (.slice h.next 0 0 l c i.size true) (h.new (.cells (rep c zs) el 0 0 false)) else .fail) with h1 | ⟨k, l, hl, h1⟩
  · rw [h1]; trivial
  rw [h1]; rw [hl] at hx; simp only [VR] at hx; subst hx
  rcases onNat_cases l (fun l => (y.ev e).onInt fun _ c => onNat c fun c =>
    bif Nat.ble l c && Nat.ble (c * (i.bytes + 1)) 1099511627776 && Nat.beq zs.length i.size && Nat.blt 0 i.size then OR.val (.slice h.next 0 0 l c i.size true) (h.new (.cells (rep c zs) el 0 0 false)) else .fail) with h2 | ⟨l, rfl, h2⟩
  · rw [h2]; trivial
  rw [h2]
  rcases onInt_cases (y.ev e) (fun _ c => onNat c fun c =>
    bif Nat.ble l c && Nat.ble (c * (i.bytes + 1)) 1099511627776 && Nat.beq zs.length i.size && Nat.blt 0 i.size then OR.val (.slice h.next 0 0 l c i.size true) (h.new (.cells (rep c zs) el 0 0 false)) else .fail) with h3 | ⟨k', c, hc, h3⟩
  · rw [h3]; trivial
  rw [h3]; rw [hc] at hy; simp only [VR] at hy; subst hy
  rcases onNat_cases c (fun c => bif Nat.ble l c && Nat.ble (c * (i.bytes + 1)) 1099511627776 && Nat.beq zs.length i.size && Nat.blt 0 i.size then OR.val (.slice h.next 0 0 l c i.size true) (h.new (.cells (rep c zs) el 0 0 false)) else .fail) with h4 | ⟨c, rfl, h4⟩
  · rw [h4]; trivial
  rw [h4]
  rcases cond_fail (b := Nat.ble l c && Nat.ble (c * (i.bytes + 1)) 1099511627776 && Nat.beq zs.length i.size && Nat.blt 0 i.size) (x := OR.val (.slice h.next 0 0 l c i.size true) (h.new (.cells (rep c zs) el 0 0 false))) with h5 | ⟨hb, h5⟩
  · rw [h5]; trivial
  rw [h5]
  simp only [Bool.and_eq_true] at hb
  obtain ⟨⟨⟨hlc, hbig⟩, hsz⟩, hpos⟩ := hb
  have hlc := ble_iff.1 hlc
  have hbig := ble_iff.1 hbig
  have hsz := Nat.eq_of_beq_eq_true hsz
  have hpos := blt_iff.1 hpos
  have hcb : c ≤ 1099511627776 := by
    have : c * 1 ≤ c * (i.bytes + 1) := Nat.mul_le_mul_left _ (by omega)
    omega
  have hbc : i.bytes * c ≤ 1099511627776 := by
    have : i.bytes * c ≤ (i.bytes + 1) * c := Nat.mul_le_mul_right _ (by omega)
    rw [Nat.mul_comm (i.bytes + 1) c] at this; omega
  have wr : ∀ n : Nat, n ≤ 1099511627776 → IntKind.i64.wrap (n : Int) = n := by
    intro n hn
    exact wrap_in (n := Int.ofNat n) (ble_iff.2 (by show n ≤ 9223372036854775807; omega))
  have hlarge : ∀ n : Nat, i.bytes * n ≤ 1099511627776 → (decide ((n : Int) < 0) || decide ((i.bytes : Int) * (n : Int) > 2 ^ 48)) = false := by
    intro n hn
    rw [Bool.or_eq_false_iff]
    refine ⟨by simp, ?_⟩
    rw [decide_eq_false_iff_not]
    have : (i.bytes : Int) * (n : Int) = ((i.bytes * n : Nat) : Int) := by simp
    rw [this]; omega
  let cells : Array Value := (Array.range (c * i.size)).map fun k => cz.cells[k % cz.cells.size]!
  have hcs : cells.size = c * i.size := by simp [cells]
  refine osd_v (c := .slice (some ⟨w.heap.size, 0, none⟩) l c) (w' := wnew w (.cells cells el (0, 0))) ?_ ?_ (Aft.mkNew (sz := cells.size) hr hf rfl (ob_new ((rep_ok (n := c) hzs hsz).mono (Sg.le_set (hf 0)))) rfl ⟨rfl, rfl, rfl⟩)
  · simp only [Instr.makeSlice, Sem.run_bind, run_und ht, Result.andThen_ok, asInt, asIntOf, Sem.run_pure, run_inf hi, wr l (by omega), wr c hcb, hlarge c hbc]
    have e1 : ¬ ((l : Int) < 0) := by omega
    have e2 : ¬ ((l : Int) > c) := by omega
    simp only [decide_eq_false e1, decide_eq_false e2, Bool.or_false, Bool.false_eq_true, if_false, Sem.run_bind, run_askRoom, Result.andThen_ok, run_size hi, Int.toNat_natCast]
    by_cases hc0 : c = 0
    · subst hc0
      have hl0 : l = 0 := by omega
      subst hl0
      simp only [Nat.zero_mul, if_true, Sem.run_pure, Result.andThen_ok, newRow, run_newObj, wnew, cells]
      simp [show Array.range 0 = (#[] : Array Nat) from rfl]
    · have hne : ¬ c * i.size = 0 := by
        intro e0
        rcases Nat.mul_eq_zero.1 e0 with e0 | e0 <;> omega
      simp [hne, run_zero hi hcz, newRow, wnew, cells]
  · simp only [VR]
    exact ⟨_, _, c, Sg.set_same _ _ _ _, rfl, hlc, Nat.le_refl _, fun _ => rfl, .inr ⟨Nat.le_refl _, rfl, by show 0 - 0 + c * i.size ≤ cells.size; rw [hcs]; omega⟩⟩

/-! structs and arrays are built -/
theorem fold_set : ∀ (l : List Value) (cs : Array Value) (off j : Nat), (l.zipIdx j).foldl (fun cs (x : Value × Nat) => cs.setIfInBounds (off + x.2) x.1) cs = setA cs (off + j) l
  | [], cs, off, j => rfl
  | v :: l, cs, off, j => by
    simp only [List.zipIdx_cons, List.foldl_cons]
    rw [fold_set l _ off (j + 1), setA]; rfl
theorem setN_ok {cs vs : List AV} {c : Array Value} {l : List Value} {off : Nat} (hc : VRs σ cs c.toList) (hv : VRs σ vs l) (hle : off + vs.length ≤ cs.length) : VRs σ (setN cs off vs) (setA c off l).toList := by
  have h1 := hc.len
  have h2 := hv.len
  simp at h1
  refine VRs.of (by simp [setN_length _ _ _ hle, setA_size, h1]) fun i v hi => ?_
  rw [setN_get _ _ _ _ hle] at hi
  have hg := setA_get l c off i (by omega)
  rw [Array.getElem?_toList, hg]
  by_cases hh : off ≤ i ∧ i < off + vs.length
  · rw [if_pos hh] at hi
    rw [if_pos (by omega)]
    exact hv.get hi
  · rw [if_neg hh] at hi
    rw [if_neg (by omega)]
    simpa using hc.get hi
theorem fill_ok {e : T} {place : Nat → Option (Nat × Nat)} {ρ : Operand → Value} {f : Nat × Operand → Nat × Nat × Ev} :
    ∀ {ps : List (Nat × Operand)} {cells : List AV} {c : Array Value} (k : List AV → OR), (∀ p ∈ ps, ((f p).2.2.ev e = .undef) ∨ (place p.1 = some ((f p).1, (f p).2.1) ∧ VR σ ((f p).2.2.ev e) (ρ p.2))) → VRs σ cells c.toList →
    fill e (ps.map f) cells k = .fail ∨ ∃ cs' c', fill e (ps.map f) cells k = k cs' ∧ Instr.fill place c (ps.map fun p => (p.1, ρ p.2)) = some c' ∧ VRs σ cs' c'.toList ∧ cs'.length = cells.length
  | [], cells, c, k, _, hc => .inr ⟨cells, c, rfl, rfl, hc, rfl⟩
  | p :: ps, cells, c, k, hp, hc => by
    simp only [List.map_cons, fill]
    rcases hp p (by simp) with h0 | ⟨hpl, hv⟩
    · rw [h0]; exact .inl rfl
    rcases onCells_ok hv (fun vs => bif Nat.beq vs.length (f p).2.1 && Nat.ble ((f p).1 + (f p).2.1) cells.length then fill e (ps.map f) (setN cells (f p).1 vs) k else .fail) with h1 | ⟨vs, h1, hvs⟩
    · exact .inl h1
    rw [h1]
    rcases cond_fail (b := Nat.beq vs.length (f p).2.1 && Nat.ble ((f p).1 + (f p).2.1) cells.length) (x := fill e (ps.map f) (setN cells (f p).1 vs) k) with h2 | ⟨hb, h2⟩
    · exact .inl h2
    rw [h2]
    rw [Bool.and_eq_true] at hb
    have hb1 := Nat.eq_of_beq_eq_true hb.1
    have hb2 := ble_iff.1 hb.2
    have hcl := hc.len
    have hvl := hvs.len
    simp at hcl hvl
    have hset := setN_ok hc hvs (by omega : (f p).1 + vs.length ≤ cells.length)
    rcases fill_ok (place := place) (ρ := ρ) k (fun q hq => hp q (List.mem_cons_of_mem _ hq)) hset with h3 | ⟨cs', c', h3, h4, h5, h6⟩
    · exact .inl h3
    refine .inr ⟨cs', c', h3, ?_, h5, by rw [h6, setN_length _ _ _ (by omega)]⟩
    simp only [Instr.fill, hpl]
    have hno : ¬ ((decide ((ρ p.2).cells.size ≠ (f p).2.1) || decide ((f p).1 + (ρ p.2).cells.size > c.size)) = true) := by
      rw [Bool.or_eq_true, decide_eq_true_iff, decide_eq_true_iff]; omega
    rw [if_neg hno]
    have : (ρ p.2).cells.zipIdx.foldl (fun cs (x : Value × Nat) => cs.setIfInBounds ((f p).1 + x.2) x.1) c = setA c (f p).1 (ρ p.2).cells.toList := by
      rw [← Array.foldl_toList, Array.toList_zipIdx]
      exact fold_set _ _ _ 0
    rw [this]
    exact h4
end
end Go.Rk

namespace Go.Rk
open Go
set_option linter.unusedVariables false
set_option linter.unusedSimpArgs false
set_option linter.constructorNameAsVariable false
section
variable {P : Program} {σ : Sg} {h : Heap} {w : World}

/-! structs and arrays are built -/
theorem run_mapM_list {α β : Type} (g : α → Sem β) (f : α → β) : ∀ (l : List α), (∀ a ∈ l, (g a).run P w = .ok (f a) w) → (l.mapM g).run P w = .ok (l.map f) w
  | [], _ => by simp
  | a :: l, h => by
    have h1 := h a List.mem_cons_self
    have h2 := run_mapM_list g f l fun b hb => h b (List.mem_cons_of_mem _ hb)
    simp [List.mapM_cons, h1, h2]
theorem run_mapM_arr {α β : Type} (g : α → Sem β) (f : α → β) (l : Array α) (hl : ∀ a ∈ l.toList, (g a).run P w = .ok (f a) w) : (l.mapM g).run P w = .ok (l.map f) w := by
  rw [Array.mapM_eq_mapM_toList]
  simp [run_mapM_list g f l.toList hl]
  rw [← Array.toList_map, Array.toArray_toList]
theorem oBuildS_ok (hr : HR P σ h.t.get w) {e : T} {t : TypeId} {fs : Array Field} {z : AV} {ps : Array (Nat × Operand)} {ρ : Operand → Value} {g : Operand → Ev}
    (ht : P.underlying t = some (.struct fs)) (hh : fs.toList.all (fun f => hasI P f.type) = true) (hz : zero P t = some z) (hp : ∀ p ∈ ps.toList, VR σ ((g p.2).ev e) (ρ p.2)) :
    OSd P σ h w (do pure (Next.value (← Instr.build t (ps.map fun (i, x) => (i, ρ x)))))
      ((oBuild z (ps.toList.map fun (i, x) => match fs[i]? with | some f => (f.offset, szO P f.type, g x) | none => (0, 1000000, ⟨fun _ => .undef⟩))).run e h) := by
  obtain ⟨i, cz, hi, hiz, hvz⟩ := zero_ok (σ := σ) hz
  show OSd P σ h w _ (z.onAgg fun z => fill e _ z fun cs => .val (.agg cs) h)
  rcases onAgg_cases z (fun z => fill e (ps.toList.map fun (i, x) => match fs[i]? with | some f => (f.offset, szO P f.type, g x) | none => (0, 1000000, ⟨fun _ => .undef⟩)) z fun cs => .val (.agg cs) h) with h0 | ⟨zs, rfl, h0⟩
  · rw [h0]; trivial
  rw [h0]
  simp only [VR] at hvz
  obtain ⟨a, rfl, ha⟩ := hvz
  rcases fill_ok (σ := σ) (e := e) (place := fun i => (fs.map fun f => (f.offset, szO P f.type))[i]?) (ρ := ρ)
    (f := fun (p : Nat × Operand) => match fs[p.1]? with | some f => (f.offset, szO P f.type, g p.2) | none => (0, 1000000, ⟨fun _ => .undef⟩)) (ps := ps.toList) (cells := zs) (c := a) (fun cs => .val (.agg cs) h)
    (fun p hp' => by
      cases hf : fs[p.1]? with
      | none => exact .inl rfl
      | some f => exact .inr ⟨by simp [hf], hp p hp'⟩) ha with h1 | ⟨cs', c', h1, h2, h3, h4⟩
  · exact (congrArg (OSd P σ h w _) h1).mpr trivial
  refine (congrArg (OSd P σ h w _) h1).mpr (osd_v (c := .agg c') ?_ (by simp only [VR]; exact ⟨_, rfl, h3⟩) (Aft.refl hr))
  have hm : (fs.mapM fun (f : Field) => (do pure (f.offset, ← sizeOf f.type) : Sem (Nat × Nat))).run P w = .ok (fs.map fun f => (f.offset, szO P f.type)) w := by
    refine run_mapM_arr _ _ _ fun f hf => ?_
    have := List.all_eq_true.1 hh f hf
    unfold hasI at this
    obtain ⟨j, hj⟩ := Option.isSome_iff_exists.1 this
    simp [run_size hj, szO_eq hj]
  have hf2 : Instr.fill ((fs.map fun f => (f.offset, szO P f.type))[·]?) a (ps.map fun (i, x) => (i, ρ x)).toList = some c' := by
    rw [← h2]; simp
  simp only [Instr.build, Sem.run_bind, run_zero hi hiz, Result.andThen_ok, run_und ht, hm, Value.cells, hf2, Sem.run_pure]
theorem oBuildA_ok (hr : HR P σ h.t.get w) {e : T} {t el : TypeId} {n : Nat} {i : TypeInfo} {z : AV} {ps : Array (Nat × Operand)} {ρ : Operand → Value} {g : Operand → Ev}
    (ht : P.underlying t = some (.array n el)) (hi : P.info? el = some i) (hz : zero P t = some z) (hp : ∀ p ∈ ps.toList, VR σ ((g p.2).ev e) (ρ p.2)) :
    OSd P σ h w (do pure (Next.value (← Instr.build t (ps.map fun (i, x) => (i, ρ x)))))
      ((oBuild z (ps.toList.map fun (k, x) => (k * i.size, i.size, g x))).run e h) := by
  obtain ⟨j, cz, hj, hjz, hvz⟩ := zero_ok (σ := σ) hz
  show OSd P σ h w _ (z.onAgg fun z => fill e _ z fun cs => .val (.agg cs) h)
  rcases onAgg_cases z (fun z => fill e (ps.toList.map fun (k, x) => (k * i.size, i.size, g x)) z fun cs => .val (.agg cs) h) with h0 | ⟨zs, rfl, h0⟩
  · rw [h0]; trivial
  rw [h0]
  simp only [VR] at hvz
  obtain ⟨a, rfl, ha⟩ := hvz
  rcases fill_ok (σ := σ) (e := e) (place := fun k => some (k * i.size, i.size)) (ρ := ρ)
    (f := fun (p : Nat × Operand) => (p.1 * i.size, i.size, g p.2)) (ps := ps.toList) (cells := zs) (c := a) (fun cs => .val (.agg cs) h)
    (fun p hp' => .inr ⟨rfl, hp p hp'⟩) ha with h1 | ⟨cs', c', h1, h2, h3, h4⟩
  · exact (congrArg (OSd P σ h w _) h1).mpr trivial
  refine (congrArg (OSd P σ h w _) h1).mpr (osd_v (c := .agg c') ?_ (by simp only [VR]; exact ⟨_, rfl, h3⟩) (Aft.refl hr))
  have hf2 : Instr.fill (fun k => some (k * i.size, i.size)) a (ps.map fun (i, x) => (i, ρ x)).toList = some c' := by
    rw [← h2]; simp
  simp only [Instr.build, Sem.run_bind, run_zero hj hjz, Result.andThen_ok, run_und ht, run_size hi, Value.cells, hf2, Sem.run_pure]
theorem oBuildSlice_ok (hr : HR P σ h.t.get w) (hf : ∀ k, σ h.next k = none) {e : T} {t el : TypeId} {n : Nat} {i : TypeInfo} {z : AV} {ps : Array (Nat × Operand)} {ρ : Operand → Value} {g : Operand → Ev}
    (ht : P.underlying t = some (.slice el)) (hi : P.info? el = some i) (hz : zero P el = some z) (hp : ∀ p ∈ ps.toList, VR σ ((g p.2).ev e) (ρ p.2)) :
    OSd P σ h w (do pure (Next.value (← Instr.buildSlice t n (ps.map fun (i, x) => (i, ρ x)))))
      ((oBuildSlice el i.size z n (ps.toList.map fun (k, x) => (k * i.size, i.size, g x))).run e h) := by
  obtain ⟨j, cz, hj, hjz, hvz⟩ := zero_ok (σ := σ) hz
  rw [hi] at hj; cases hj
  let F : List AV → OR := fun cs => .val (.slice h.next 0 0 n n i.size true) (h.new (.cells cs el 0 0 false))
  let L := ps.toList.map fun (k, x) => (k * i.size, i.size, g x)
  show OSd P σ h w _ (z.onCells fun z => bif Nat.beq z.length i.size && Nat.ble (n * i.size) 16777216 then fill e L (rep n z) F else .fail)
  rcases onCells_ok hvz (fun z => bif Nat.beq z.length i.size && Nat.ble (n * i.size) 16777216 then fill e L (rep n z) F else .fail) with h0 | ⟨zs, h0, hzs⟩
  · rw [h0]; trivial
  rw [h0]
  rcases cond_fail (b := Nat.beq zs.length i.size && Nat.ble (n * i.size) 16777216) (x := fill e L (rep n zs) F) with h5 | ⟨hb, h5⟩
  · rw [h5]; trivial
  rw [h5]
  simp only [Bool.and_eq_true] at hb
  have hsz := Nat.eq_of_beq_eq_true hb.1
  have hle := ble_iff.1 hb.2
  have hrep := rep_ok (n := n) hzs hsz
  rcases fill_ok (σ := σ) (e := e) (place := fun k => some (k * i.size, i.size)) (ρ := ρ)
    (f := fun (p : Nat × Operand) => (p.1 * i.size, i.size, g p.2)) (ps := ps.toList) (cells := rep n zs) (c := (Array.range (n * i.size)).map fun k => cz.cells[k % cz.cells.size]!) F
    (fun p hp' => .inr ⟨rfl, hp p hp'⟩) hrep with h1 | ⟨cs', c', h1, h2, h3, h4⟩
  · exact (congrArg (OSd P σ h w _) h1).mpr trivial
  have hc's : c'.size = n * i.size := by
    have e1 := h3.len
    have e2 := hrep.len
    simp at e1 e2
    omega
  refine (congrArg (OSd P σ h w _) h1).mpr (osd_v (σ' := σ.set h.next 0 ⟨w.heap.size, 0, c'.size⟩) (c := .slice (some ⟨w.heap.size, 0, none⟩) n n) (w' := wnew w (.cells c' el (0, 0))) ?_ ?_
    (Aft.mkNew (sz := c'.size) hr hf rfl (ob_new (h3.mono (Sg.le_set (hf 0)))) rfl ⟨rfl, rfl, rfl⟩))
  · have hbig : ¬ n * i.size > 2 ^ 24 := by omega
    have hf2 : Instr.fill (fun k => some (k * i.size, i.size)) ((Array.range (n * i.size)).map fun k => cz.cells[k % cz.cells.size]!) (ps.map fun (i, x) => (i, ρ x)).toList = some c' := by
      rw [← h2]; simp
    by_cases h0 : n * i.size = 0
    · have : (Array.range (n * i.size)).map (fun k => (#[] : Array Value)[k % (#[] : Array Value).size]!) = (Array.range (n * i.size)).map fun k => cz.cells[k % cz.cells.size]! := by
        rw [h0, show Array.range 0 = (#[] : Array Nat) from rfl]; simp
      simp only [Instr.buildSlice, Sem.run_bind, run_und ht, Result.andThen_ok, run_size hi, if_neg hbig, if_pos h0, Sem.run_pure, this, hf2, newRow, run_newObj, wnew]
    · simp only [Instr.buildSlice, Sem.run_bind, run_und ht, Result.andThen_ok, run_size hi, if_neg hbig, if_neg h0, run_zero hi hjz, Sem.run_pure, hf2, newRow, run_newObj, wnew]
  · simp only [VR]
    exact ⟨_, _, n, Sg.set_same _ _ _ _, rfl, Nat.le_refl _, Nat.le_refl _, fun _ => rfl, .inr ⟨Nat.le_refl _, rfl, by show 0 - 0 + n * i.size ≤ c'.size; omega⟩⟩

/-! how long -/
theorem oLenS_ok (hr : HR P σ h.t.get w) {e : T} {t ty : TypeId} {x : Ev} {c : Value} {ts : List TypeId} {xs : List Value} (ht : P.underlying t = some .string) (hx : VR σ (x.ev e) c) :
    OSd P σ h w (do pure (Next.value (← Builtin.len_ ⟨t :: ts⟩ ty ⟨c :: xs⟩))) ((oLenS x).run e h) := by
  show OSd P σ h w _ ((x.ev e).onStr fun s => .val (.int .i64 (Int.ofNat s.length)) h)
  rcases onStr_cases (x.ev e) (fun s => .val (.int .i64 (Int.ofNat s.length)) h) with h0 | ⟨s, hs, h0⟩
  · rw [h0]; trivial
  rw [h0]; rw [hs] at hx; simp only [VR] at hx; subst hx
  refine osd_v (c := .int .i64 s.length) ?_ (by simp [VR]) (Aft.refl hr)
  simp [Builtin.len_, run_und ht, goInt, size_mk]
theorem oLenL_ok (hr : HR P σ h.t.get w) {e : T} {t ty el : TypeId} {x : Ev} {c : Value} {ts : List TypeId} {xs : List Value} (ht : P.underlying t = some (.slice el)) (hx : VR σ (x.ev e) c) :
    OSd P σ h w (do pure (Next.value (← Builtin.len_ ⟨t :: ts⟩ ty ⟨c :: xs⟩))) ((oLenL x).run e h) := by
  show OSd P σ h w _ (lenL (x.ev e) fun n => .val (.int .i64 (Int.ofNat n)) h)
  cases hv : x.ev e <;> rw [hv] at hx <;> try trivial
  · simp only [VR] at hx; subst hx
    refine osd_v (c := .int .i64 0) ?_ (by simp [VR]) (Aft.refl hr)
    simp [Builtin.len_, run_und ht, goInt]
  · rename_i b g off n cap es ex
    simp only [VR] at hx
    obtain ⟨L, a, cc, _, rfl, _⟩ := hx
    refine osd_v (c := .int .i64 n) ?_ (by simp [VR]) (Aft.refl hr)
    simp [Builtin.len_, run_und ht, goInt]
theorem oLenA_ok (hr : HR P σ h.t.get w) {e : T} {t ty el : TypeId} {n : Nat} {c : Value} {ts : List TypeId} {xs : List Value} (ht : P.underlying t = some (.array n el)) :
    OSd P σ h w (do pure (Next.value (← Builtin.len_ ⟨t :: ts⟩ ty ⟨c :: xs⟩))) ((oConst (.int .i64 (Int.ofNat n))).run e h) := by
  show OSd P σ h w _ (.val (.int .i64 (Int.ofNat n)) h)
  refine osd_v (c := .int .i64 n) ?_ (by simp [VR]) (Aft.refl hr)
  simp [Builtin.len_, run_und ht, goInt]
theorem oLenPA_ok (hr : HR P σ h.t.get w) {e : T} {t ty el p : TypeId} {n : Nat} {c : Value} {ts : List TypeId} {xs : List Value} (ht : P.underlying t = some (.pointer p)) (hp : P.underlying p = some (.array n el)) :
    OSd P σ h w (do pure (Next.value (← Builtin.len_ ⟨t :: ts⟩ ty ⟨c :: xs⟩))) ((oConst (.int .i64 (Int.ofNat n))).run e h) := by
  show OSd P σ h w _ (.val (.int .i64 (Int.ofNat n)) h)
  refine osd_v (c := .int .i64 n) ?_ (by simp [VR]) (Aft.refl hr)
  simp [Builtin.len_, run_und ht, run_und hp, goInt]
theorem MR.len : ∀ {l : List (AV × AV × Nat)} {m : List MapEntry}, MR σ l m → l.length = m.length
  | [], _, h => by simp only [MR] at h; subst h; rfl
  | (k, v, b) :: r, _, h => by
    obtain ⟨e, l', rfl, _, _, _, h5⟩ := h
    simp [MR.len h5]
theorem onMapO_cases (o : Option AObj) (f : List (AV × AV × Nat) → Nat → OR) : onMapO o f = .fail ∨ ∃ es c, o = some (.map es c) ∧ onMapO o f = f es c := by
  cases o with
  | none => exact .inl rfl
  | some o => cases o <;> first | exact .inl rfl | exact .inr ⟨_, _, rfl, rfl⟩
theorem map_of (hr : HR P σ h.t.get w) {r : Nat} {es : List (AV × AV × Nat)} {c : Nat} {L : Loc} (hm : h.t.get r = some (.map es c)) (hL : σ r 0 = some L) :
    ∃ ents, w.heap[L.blk]? = some (.map ents c) ∧ MR σ es ents.toList := by
  obtain ⟨L', hL', ents, h1, h2⟩ := hr.obj r _ hm
  simp only [genOf] at hL'
  rw [hL] at hL'; cases hL'
  exact ⟨ents, h1, h2⟩
theorem run_getObj_at {r : Nat} {o : Obj} (hb : w.heap[r]? = some o) (ho : ∀ c t f, o ≠ .cells c t f) : (getObj r).run P w = .ok o w := by
  show (Sem.getObj r .pure).run P w = _
  rw [Sem.run, hb]
  cases o <;> first | exact absurd rfl (ho _ _ _) | rfl
theorem oLenM_ok (hr : HR P σ h.t.get w) {e : T} {t ty k el : TypeId} {x : Ev} {c : Value} {ts : List TypeId} {xs : List Value} (ht : P.underlying t = some (.map k el)) (hx : VR σ (x.ev e) c) :
    OSd P σ h w (do pure (Next.value (← Builtin.len_ ⟨t :: ts⟩ ty ⟨c :: xs⟩))) ((oLenM x).run e h) := by
  cases hv : x.ev e <;> rw [hv] at hx <;> simp only [oLenM, hv] <;> try trivial
  · simp only [VR] at hx; subst hx
    refine osd_v (c := .int .i64 0) ?_ (by simp [VR]) (Aft.refl hr)
    simp [Builtin.len_, run_und ht, goInt]
  · rename_i r
    simp only [VR] at hx
    obtain ⟨L, hL, rfl⟩ := hx
    rcases onMapO_cases (h.t.get r) (fun es _ => .val (.int .i64 (Int.ofNat es.length)) h) with h0 | ⟨es, cl, hm, h0⟩
    · rw [h0]; trivial
    rw [h0]
    obtain ⟨ents, hb, hmr⟩ := map_of hr hm hL
    refine osd_v (c := .int .i64 ents.size) ?_ ?_ (Aft.refl hr)
    · simp [Builtin.len_, run_und ht, goInt, run_getObj_at hb (by intro _ _ _ h; cases h)]
    · have := hmr.len
      simp at this
      simp [VR, this]
theorem oCapL_ok (hr : HR P σ h.t.get w) {e : T} {t ty el : TypeId} {x : Ev} {c : Value} {ts : List TypeId} {xs : List Value} (ht : P.underlying t = some (.slice el)) (hx : VR σ (x.ev e) c) :
    OSd P σ h w (do pure (Next.value (← Builtin.cap_ ⟨t :: ts⟩ ty ⟨c :: xs⟩))) ((oCapL x).run e h) := by
  cases hv : x.ev e <;> rw [hv] at hx <;> simp only [oCapL, hv] <;> try trivial
  · simp only [VR] at hx; subst hx
    refine osd_v (c := .int .i64 0) ?_ (by simp [VR]) (Aft.refl hr)
    simp [Builtin.cap_, run_und ht, goInt]
  · rename_i b g off n cap es ex
    cases ex
    · trivial
    simp only [VR] at hx
    obtain ⟨L, a, cc, _, rfl, _, _, hex, _⟩ := hx
    have := hex trivial
    subst this
    refine osd_v (c := .int .i64 cc) ?_ (by simp [VR]) (Aft.refl hr)
    simp [Builtin.cap_, run_und ht, goInt]
end
end Go.Rk

namespace Go.Rk
open Go
set_option linter.unusedVariables false
set_option linter.unusedSimpArgs false
set_option linter.constructorNameAsVariable false
section
variable {P : Program} {σ : Sg} {h : Heap} {w : World}

/-! least and greatest -/
theorem foldMn_ok {mx : Bool} {k : IntKind} : ∀ (l : List AV) (m : List Value) (a : Int), VRs σ l m → foldMn k h mx a l = .fail ∨
    ∃ b, foldMn k h mx a l = .val (.int k b) h ∧ (m.foldlM (if mx then Builtin.max2 else Builtin.min2) (.int k a)).run P w = .ok (.int k b) w
  | [], m, a, hm => by simp only [VRs] at hm; subst hm; exact .inr ⟨a, rfl, rfl⟩
  | v :: r, m, a, hm => by
    simp only [VRs] at hm
    obtain ⟨c, l', rfl, hv, hr⟩ := hm
    rw [foldMn]
    rcases onInt_cases v (fun _ b => foldMn k h mx (bif (bif mx then ltI a b else ltI b a) then b else a) r) with h0 | ⟨k', n, rfl, h0⟩
    · exact .inl h0
    rw [h0]
    simp only [VR] at hv; subst hv
    rcases foldMn_ok r l' (bif (bif mx then ltI a n else ltI n a) then n else a) hr with h1 | ⟨b, h1, h2⟩
    · exact .inl h1
    refine .inr ⟨b, h1, ?_⟩
    rw [List.foldlM_cons]
    cases mx with
    | true =>
      have e : (bif ltI a n then n else a) = (if n > a then n else a) := by rw [ltI_eq]; by_cases hh : a < n <;> simp [hh]
      simp only [cond_true, e] at h2
      simpa [Builtin.max2] using h2
    | false =>
      have e : (bif ltI n a then n else a) = (if n < a then n else a) := by rw [ltI_eq]; by_cases hh : n < a <;> simp [hh]
      simp only [cond_false, e] at h2
      simpa [Builtin.min2] using h2
theorem oMn_ok (hr : HR P σ h.t.get w) {e : T} {mx : Bool} {xs : List Ev} {ca : Array Value} {ts : Array TypeId} {ty : TypeId} (hx : VRs σ (evs e xs) ca.toList) :
    OSd P σ h w (do pure (Next.value (← (if mx then Builtin.max_ else Builtin.min_) ts ty ca))) ((oMn mx xs).run e h) := by
  show OSd P σ h w _ (match evs e xs with
    | v :: r => v.onInt fun k a => foldMn k h mx a r
    | [] => .fail)
  cases hl : evs e xs with
  | nil => trivial
  | cons v r =>
    rw [hl] at hx
    simp only [VRs] at hx
    obtain ⟨c, l', hca, hv, hx⟩ := hx
    show OSd P σ h w _ (v.onInt fun k a => foldMn k h mx a r)
    rcases onInt_cases v (fun k a => foldMn k h mx a r) with h0 | ⟨k, n, rfl, h0⟩
    · rw [h0]; trivial
    rw [h0]
    simp only [VR] at hv; subst hv
    rcases foldMn_ok (P := P) (h := h) (w := w) (mx := mx) (k := k) r l' n hx with h1 | ⟨b, h1, h2⟩
    · rw [h1]; trivial
    rw [h1]
    refine osd_v (c := .int k b) ?_ (by simp [VR]) (Aft.refl hr)
    cases mx with
    | true => simp only [if_true] at h2 ⊢; simp [Builtin.max_, hca, h2]
    | false => simp only [Bool.false_eq_true, if_false] at h2 ⊢; simp [Builtin.min_, hca, h2]
theorem oSliceData_ok (hr : HR P σ h.t.get w) {e : T} {x : Ev} {c : Value} {ts : Array TypeId} {ty : TypeId} (hx : VR σ (x.ev e) c) :
    OSd P σ h w (do pure (Next.value (← Builtin.unsafeSliceData_ ts ty #[c]))) ((oSliceData x).run e h) := by
  cases hv : x.ev e <;> rw [hv] at hx <;> simp only [oSliceData, hv] <;> try trivial
  · simp only [VR] at hx; subst hx
    exact osd_v (c := .pointer none) (Lib.run_unsafeSliceData_nil w ts ty 0 0) (by simp [VR]) (Aft.refl hr)
  · rename_i b g off n cap es ex
    simp only [VR] at hx
    obtain ⟨L, a, cc, hL, rfl, h1, h2, hex, hor⟩ := hx
    rcases cond_fail' (b := Nat.beq cap 0) (x := .val (.ptr b g off) h) with h0 | ⟨hb, h0⟩
    · rw [h0]; trivial
    rw [h0]
    have hc0 : cap ≠ 0 := fun e => by rw [e] at hb; simp at hb
    rcases hor with h3 | ⟨hsh, rfl, _⟩
    · omega
    exact osd_v (c := .pointer (some ⟨L.blk, off - L.sh, none⟩)) (Lib.run_unsafeSliceData_row w ts ty _ _ _ (by omega)) (by simp only [VR]; exact ⟨L, hL, hsh, rfl⟩) (Aft.refl hr)

/-! text over bytes in memory -/
theorem lies_bytes {e : TypeId} (hc : P.cellsOf e = 1) (count off n : Nat) (hn : off + n ≤ count) : liesAt P P.depth e count off e n = true := by
  have hd : P.depth = (2 * (P.types.size + Made.depth) + 1) + 1 := rfl
  rw [hd]
  simp only [liesAt, Bool.or_eq_true]
  left
  rw [hd]
  simp [rowAt, hc, hn, sameLayout, Nat.mod_one]
theorem lies_head {e : TypeId} (hc : P.cellsOf e ≠ 0) (count : Nat) (hn : 1 ≤ count) : liesAt P P.depth e count 0 e 1 = true := by
  have hd : P.depth = (2 * (P.types.size + Made.depth) + 1) + 1 := rfl
  rw [hd]
  simp only [liesAt, Bool.or_eq_true]
  left
  rw [hd]
  simp [rowAt, hc, hn, sameLayout]
theorem cellsOf_eq {t : TypeId} : P.cellsOf t = szO P t := rfl
theorem wfreeze {b off n : Nat} {c : Array Value} {ty lo hi : Nat} (hb : w.heap[b]? = some (.cells c ty (lo, hi))) (hn : n ≠ 0) :
    w.freeze ⟨b, off, none⟩ n = wset w b (.cells c ty (if lo == hi then (off, off + n) else (min lo off, max hi (off + n)))) := by
  unfold World.freeze wset
  rw [if_neg hn]
  congr 1
  apply Array.ext_getElem?
  intro i
  rw [Array.getElem?_modify]
  by_cases hi : b = i
  · subst hi
    have := (Array.getElem?_eq_some_iff.1 hb).1
    rw [if_pos rfl, hb]; simp [this]
  · rw [if_neg hi, Array.getElem?_setIfInBounds_ne hi]
theorem fz_frozen {fz lo hi sh sz off n : Nat} (hz : FZ false fz lo hi sh sz) (hn : n ≠ 0) (hs : sh ≤ off) (hle : fz ≤ sh + sz) :
    FZ false (bif Nat.ble (off + n) fz then fz else off + n) (if lo == hi then (off - sh, off - sh + n) else (min lo (off - sh), max hi (off - sh + n))).1
      (if lo == hi then (off - sh, off - sh + n) else (min lo (off - sh), max hi (off - sh + n))).2 sh sz := by
  have h1 := hz.2 rfl
  unfold FZ
  refine ⟨fun e => (by cases e), fun _ => .inr (.inl ?_)⟩
  have hfz : off + n ≤ (bif Nat.ble (off + n) fz then fz else off + n) ∧ fz ≤ (bif Nat.ble (off + n) fz then fz else off + n) := by
    cases e : Nat.ble (off + n) fz with
    | true => have := ble_iff.1 e; exact ⟨this, Nat.le_refl _⟩
    | false =>
      have : ¬ off + n ≤ fz := fun x => by rw [ble_iff.2 x] at e; cases e
      simp; omega
  generalize (bif Nat.ble (off + n) fz then fz else off + n) = F at hfz ⊢
  by_cases hlh : lo = hi
  · subst hlh
    simp
    omega
  · have : (lo == hi) = false := by simpa using hlh
    rw [this]
    simp only [Bool.false_eq_true, if_false]
    rcases h1 with h1 | ⟨h1, h2⟩ | h1
    · exact absurd h1 hlh
    · omega
    · omega
theorem fz_marked {lo hi sh sz : Nat} {s : Bool} (hz : FZ s 0 lo hi sh sz) :
    FZ true 0 (if lo == hi then (sz, sz + 1) else (min lo sz, max hi (sz + 1))).1 (if lo == hi then (sz, sz + 1) else (min lo sz, max hi (sz + 1))).2 sh sz := by
  unfold FZ
  refine ⟨fun _ => ⟨rfl, .inr ?_⟩, fun e => (by cases e)⟩
  by_cases hlh : lo = hi
  · subst hlh; simp
  · have e : (lo == hi) = false := by simpa using hlh
    rw [e]
    simp only [Bool.false_eq_true, if_false]
    cases s with
    | true => have := (hz.1 rfl).2; omega
    | false =>
      rcases hz.2 rfl with h1 | ⟨h1, h2⟩ | h1
      · exact absurd h1 hlh
      · omega
      · omega
end
end Go.Rk

namespace Go.Rk
open Go
set_option linter.unusedVariables false
set_option linter.unusedSimpArgs false
set_option linter.constructorNameAsVariable false
section
variable {P : Program} {σ : Sg} {h : Heap} {w : World}

theorem isP_cases (v : AV) (k : OR) : isP v k = .fail ∨ (isP v k = k ∧ (v = .nilp ∨ ∃ b g o, v = .ptr b g o)) := by
  cases v <;> first | exact .inl rfl | exact .inr ⟨rfl, .inl rfl⟩ | exact .inr ⟨rfl, .inr ⟨_, _, _, rfl⟩⟩
theorem run_unsafeString_zero {pt ty : TypeId} {ts : List TypeId} {p : Option Addr} {k : IntKind} : (Builtin.unsafeString_ ⟨pt :: ts⟩ ty #[.pointer p, .int k 0]).run P w = .ok (.string .empty) w := by
  have hmax : IntKind.i64.max = 9223372036854775807 := rfl
  cases p with
  | none =>
    have hdef : Builtin.unsafeString_ ⟨pt :: ts⟩ ty #[.pointer none, .int k 0] =
        (do
          let n ← asInt (.int k 0)
          if n < 0 then runtimePanic (.error "unsafe.String: len out of range")
          if n > IntKind.i64.max then unsupported (.unsafePointer "String: a length above the largest int")
          if n = 0 then pure (.string .empty)
          else runtimePanic (.error "unsafe.String: ptr is nil and len is not zero")) := rfl
    rw [hdef]
    simp [asInt, asIntOf, hmax]
  | some a =>
    have hdef : Builtin.unsafeString_ ⟨pt :: ts⟩ ty #[.pointer (some a), .int k 0] =
        (do
          let n ← asInt (.int k 0)
          if n < 0 then runtimePanic (.error "unsafe.String: len out of range")
          if n > IntKind.i64.max then unsupported (.unsafePointer "String: a length above the largest int")
          if n = 0 then pure (.string .empty)
          else if ← variablesAt a (← elemOf pt) n.toNat then do
            let s ← loadBytes a .empty n.toNat
            freeze a n.toNat
            pure (.string s)
          else unsupported (.unsafePointer "String: not so many bytes at ptr")) := rfl
    rw [hdef]
    simp [asInt, asIntOf, hmax]
theorem run_loadBytes : ∀ (l : List Int) (a : Addr) (acc : ByteArray), (∀ j x, l[j]? = some x → w.cell? (a.add j) = some (.int .u8 x)) →
    (loadBytes a acc l.length).run P w = .ok ⟨acc.data ++ (l.map fun n => UInt8.ofNat n.toNat).toArray⟩ w
  | [], a, acc, _ => by simp [loadBytes]
  | x :: l, a, acc, h => by
    have h0 : w.cell? a = some (.int .u8 x) := by
      have := h 0 x rfl
      simpa [Addr.add] using this
    have ih := run_loadBytes l (a.add 1) (acc.push (UInt8.ofNat x.toNat)) (fun j y hy => by
      have := h (j + 1) y (by simpa using hy)
      have e : (a.add 1).add j = a.add (j + 1) := by
        unfold Addr.add
        by_cases hj : j = 0
        · subst hj; simp
        · simp [hj]; omega
      rw [e]; exact this)
    have hx : x.toNat.toUInt8 = UInt8.ofNat x.toNat := rfl
    simp only [List.length_cons, loadBytes, Sem.run_bind, run_load, h0, Result.andThen, hx]
    rw [ih]
    congr 1
    apply ByteArray.ext
    simp [ByteArray.push]
theorem run_unsafeString_at {pt ty e : TypeId} {ts : List TypeId} {k : IntKind} (hp : P.underlying pt = some (.pointer e)) (hc : P.cellsOf e = 1) {a : Addr} {cells : Nat} (hsh : w.shape? a.block = some (e, cells)) (l : List Int) (h0 : l.length ≠ 0) (hn : a.off + l.length ≤ cells) (h63 : l.length ≤ 9223372036854775807)
    (hcell : ∀ j x, l[j]? = some x → w.cell? (a.add j) = some (.int .u8 x)) :
    (Builtin.unsafeString_ ⟨pt :: ts⟩ ty #[.pointer (some a), .int k l.length]).run P w = .ok (.string ⟨(l.map fun n => UInt8.ofNat n.toNat).toArray⟩) (w.freeze a l.length) := by
  have hlb := run_loadBytes (P := P) (w := w) l a .empty hcell
  have hlies := lies_bytes (P := P) hc (cells / P.cellsOf e) a.off l.length (by rw [hc]; simpa using hn)
  have h63' : ¬ (9223372036854775807 : Int) < (l.length : Int) := by omega
  have hdef : Builtin.unsafeString_ ⟨pt :: ts⟩ ty #[.pointer (some a), .int k l.length] =
      (do
        let n ← asInt (.int k l.length)
        if n < 0 then runtimePanic (.error "unsafe.String: len out of range")
        if n > IntKind.i64.max then unsupported (.unsafePointer "String: a length above the largest int")
        if n = 0 then pure (.string .empty)
        else if ← variablesAt a (← elemOf pt) n.toNat then do
          let s ← loadBytes a .empty n.toNat
          freeze a n.toNat
          pure (.string s)
        else unsupported (.unsafePointer "String: not so many bytes at ptr")) := rfl
  rw [hdef]
  have hmax : IntKind.i64.max = 9223372036854775807 := rfl
  have hneg : ¬ (l.length : Int) < 0 := by omega
  have hl0 : l ≠ [] := by intro e; rw [e] at h0; exact h0 rfl
  simp [asInt, asIntOf, hmax, h63', hneg, hl0, variablesAt, hsh, elemOf, run_und hp, hlies, hlb]
theorem oUnsafeString_ok (hr : HR P σ h.t.get w) {e : T} {pt ty u : TypeId} {ts : List TypeId} {p n : Ev} {cp cn : Value} (hpt : P.underlying pt = some (.pointer u)) (hu : Nat.beq (szO P u) 1 = true)
    (hp : VR σ (p.ev e) cp) (hn : VR σ (n.ev e) cn) : OSd P σ h w (do pure (Next.value (← Builtin.unsafeString_ ⟨pt :: ts⟩ ty #[cp, cn]))) ((oUnsafeString u p n).run e h) := by
  let F2 : Nat → Nat → Nat → Nat → List AV → Nat → Nat → Bool → OR := fun n b g off cs ty fz s =>
    bif Nat.ble (off + n) cs.length && !s && Nat.beq ty u && Nat.ble n 9223372036854775807 && Nat.ble fz cs.length then
      bytesOfC (takeN cs off n) fun l => .val (.str l) (h.put b (.cells cs ty g (bif Nat.ble (off + n) fz then fz else off + n) s)) else .fail
  let F1 : Nat → OR := fun n => bif Nat.beq n 0 then isP (p.ev e) (.val (.str []) h) else (p.ev e).onPtr fun b g off => h.onCells b g (F2 n b g off)
  show OSd P σ h w _ ((n.ev e).onInt fun _ n => onNat n F1)
  rcases onInt_cases (n.ev e) (fun _ n => onNat n F1) with h0 | ⟨k, n', hv, h0⟩
  · rw [h0]; trivial
  rw [h0]; rw [hv] at hn; simp only [VR] at hn; subst hn
  rcases onNat_cases n' F1 with h1 | ⟨m, rfl, h1⟩
  · rw [h1]; trivial
  rw [h1]
  show OSd P σ h w _ (bif Nat.beq m 0 then isP (p.ev e) (.val (.str []) h) else (p.ev e).onPtr fun b g off => h.onCells b g (F2 m b g off))
  cases hm : Nat.beq m 0 with
  | true =>
    have hm0 := Nat.eq_of_beq_eq_true hm; subst hm0
    show OSd P σ h w _ (isP (p.ev e) (.val (.str []) h))
    rcases isP_cases (p.ev e) (.val (.str []) h) with h2 | ⟨h2, h3⟩
    · rw [h2]; trivial
    rw [h2]
    have : ∃ q, cp = .pointer q := by
      rcases h3 with h3 | ⟨b, g, o, h3⟩ <;> rw [h3] at hp <;> simp only [VR] at hp
      · exact ⟨_, hp⟩
      · obtain ⟨L, _, _, h4⟩ := hp; exact ⟨_, h4⟩
    obtain ⟨q, rfl⟩ := this
    exact osd_v (c := .string .empty) run_unsafeString_zero (by simp only [VR]; rfl) (Aft.refl hr)
  | false =>
    have hm0 : m ≠ 0 := fun e => by rw [e] at hm; simp at hm
    show OSd P σ h w _ ((p.ev e).onPtr fun b g off => h.onCells b g (F2 m b g off))
    rcases onPtr_cases (p.ev e) (fun b g off => h.onCells b g (F2 m b g off)) with h2 | ⟨b, g, off, hv2, h2⟩
    · rw [h2]; trivial
    rw [h2]; rw [hv2] at hp; simp only [VR] at hp
    obtain ⟨L, hL, hsh, rfl⟩ := hp
    rcases onCellsH_cases (h := h) b g (F2 m b g off) with h3 | ⟨cs, ty', fz, s, hb, h3⟩
    · rw [h3]; trivial
    rw [h3]
    rcases cond_fail (b := Nat.ble (off + m) cs.length && !s && Nat.beq ty' u && Nat.ble m 9223372036854775807 && Nat.ble fz cs.length)
      (x := bytesOfC (takeN cs off m) fun l => .val (.str l) (h.put b (.cells cs ty' g (bif Nat.ble (off + m) fz then fz else off + m) s))) with h4 | ⟨hc, h4⟩
    · exact (congrArg (OSd P σ h w _) h4).mpr trivial
    refine (congrArg (OSd P σ h w _) h4).mpr ?_
    simp only [Bool.and_eq_true, Bool.not_eq_true'] at hc
    obtain ⟨⟨⟨⟨hc1, hs⟩, hty⟩, h63⟩, hfzl⟩ := hc
    have hfzl := ble_iff.1 hfzl
    have hc1 := ble_iff.1 hc1
    have h63 := ble_iff.1 h63
    have hty := Nat.eq_of_beq_eq_true hty
    subst hs; subst hty
    obtain ⟨L', c, lo, hi, hL', hblk, hsz, hlen, hrel, hz⟩ := cells_of hr hb
    rw [hL] at hL'; cases hL'
    rcases bytesOfC_cases (takeN cs off m) (fun l => .val (.str l) (h.put b (.cells cs ty' g (bif Nat.ble (off + m) fz then fz else off + m) false))) with h5 | ⟨ns, hns, h5⟩
    · exact (congrArg (OSd P σ h w _) h5).mpr trivial
    refine (congrArg (OSd P σ h w _) h5).mpr ?_
    have hnl : ns.length = m := by
      have := congrArg List.length hns
      simp [takeN] at this
      omega
    subst hnl
    have hcells : ∀ j x, ns[j]? = some x → w.cell? ((⟨L.blk, off - L.sh, none⟩ : Addr).add j) = some (.int .u8 x) := by
      intro j x hx
      rw [add_at, cell_at hblk]
      have hjl : j < ns.length := (List.getElem?_eq_some_iff.1 hx).1
      have : (takeN cs off ns.length)[j]? = some (.int .u8 x) := by rw [hns, List.getElem?_map, hx]; rfl
      rw [takeN, List.getElem?_take_of_lt hjl, List.getElem?_drop] at this
      obtain ⟨y, hy, hvy⟩ := hrel (off + j) _ this (by omega)
      simp only [VR] at hvy
      subst hvy
      rw [show off - L.sh + j = off + j - L.sh by omega]
      exact hy
    have hcO : P.cellsOf ty' = 1 := by rw [cellsOf_eq]; exact Nat.eq_of_beq_eq_true hu
    refine osd_v (σ' := σ) (c := .string ⟨(ns.map fun n => UInt8.ofNat n.toNat).toArray⟩) (run_unsafeString_at hpt hcO (cells := c.size) (by simp [World.shape?, hblk]) ns hm0 (by show off - L.sh + _ ≤ _; omega) h63 hcells) (by simp only [VR]) ?_
    rw [wfreeze hblk hm0]
    exact Aft.mkPut hr hb hL rfl (obj := _) ⟨c, _, _, rfl, hsz, hlen, hrel, fz_frozen hz hm0 hsh (by omega)⟩ rfl ⟨rfl, rfl, rfl⟩ (ro_le hfzl)

/-! conversions -/
theorem und_ok {t : TypeId} {d : TypeDesc} (h : und P t = d) (hd : d ≠ .invalid) : P.underlying t = some d := und_some h hd
theorem oMark_ok (hr : HR P σ h.t.get w) {e : T} {s d a el : TypeId} {x : Ev} {c : Value} (hs : P.underlying s = some (.slice a)) (hd : P.underlying d = some (.slice el)) (hel : P.underlying el = some (.int .u8)) (hsd : (s == d) = true)
    (hx : VR σ (x.ev e) c) : OSd P σ h w (do pure (Next.value (← convert s d c))) ((oConv .mark x).run e h) := by
  let F2 : Nat → Nat → Nat → Nat → Nat → Nat → Bool → List AV → Nat → Nat → Bool → OR := fun b g off n c es ex cs ty fz _ => bif Nat.beq fz 0 then .val (.slice b g off n c es ex) (h.put b (.cells cs ty g 0 true)) else .fail
  let F1 : Nat → Nat → Nat → Nat → Nat → Nat → Bool → OR := fun b g off n c es ex => bif Nat.beq n 0 then .fail else h.onCells b g (F2 b g off n c es ex)
  show OSd P σ h w _ ((x.ev e).onSlice F1)
  rcases onSlice_cases (x.ev e) F1 with h0 | ⟨b, g, off, len, cap, es, ex, hv, h0⟩
  · rw [h0]; trivial
  rw [h0]; rw [hv] at hx
  rcases cond_fail' (b := Nat.beq len 0) (x := h.onCells b g (F2 b g off len cap es ex)) with h1 | ⟨hn, h1⟩
  · exact (congrArg (OSd P σ h w _) h1).mpr trivial
  refine (congrArg (OSd P σ h w _) h1).mpr ?_
  have hn0 : len ≠ 0 := fun e => by rw [e] at hn; simp at hn
  rcases onCellsH_cases (h := h) b g (F2 b g off len cap es ex) with h3 | ⟨cs, ty', fz, s', hb, h3⟩
  · rw [h3]; trivial
  rw [h3]
  rcases cond_fail (b := Nat.beq fz 0) (x := .val (.slice b g off len cap es ex) (h.put b (.cells cs ty' g 0 true))) with h4 | ⟨hfz, h4⟩
  · exact (congrArg (OSd P σ h w _) h4).mpr trivial
  refine (congrArg (OSd P σ h w _) h4).mpr ?_
  have hfz := Nat.eq_of_beq_eq_true hfz
  subst hfz
  have hx' := hx
  simp only [VR] at hx
  obtain ⟨L, a', cc, hL, rfl, h5, h6, hex, hor⟩ := hx
  rcases hor with h7 | ⟨hsh, rfl, hbd⟩
  · omega
  obtain ⟨L', c, lo, hi, hL', hblk, hsz, hlen, hrel, hz⟩ := cells_of hr hb
  rw [hL] at hL'; cases hL'
  refine osd_v (σ' := σ) (c := .slice (some ⟨L.blk, off - L.sh, none⟩) len cc) (w' := w.freeze ⟨L.blk, c.size, none⟩ 1) ?_ hx' ?_
  · have e1 : (underlying s).run P w = .ok (.slice a) w := run_und hs
    have e2 : (underlying d).run P w = .ok (.slice el) w := run_und hd
    have e3 : (underlying el).run P w = .ok (.int .u8) w := run_und hel
    have e4 : w.shape? L.blk = some (ty', c.size) := by simp [World.shape?, hblk]
    simp only [convert, Sem.run_bind, e1, e2, e3, Result.andThen_ok, hsd, markStringish, run_shape, e4, run_freeze, Sem.run_pure]
  · rw [wfreeze hblk (by omega)]
    refine Aft.mkPut hr hb hL rfl (obj := _) ⟨c, _, _, rfl, hsz, hlen, hrel, ?_⟩ rfl ⟨rfl, rfl, rfl⟩ (ro_le (Nat.zero_le _))
    rw [hsz]
    exact fz_marked hz
theorem OSd.congr {s s' : Sem Next} (he : s.run P w = s'.run P w) {r : OR} (ho : OSd P σ h w s r) : OSd P σ h w s' r := by
  cases r <;> simp only [OSd] at ho ⊢ <;> first | trivial | (rw [← he]; exact ho)
theorem run_v_congr {s s' : Sem Value} (he : s.run P w = s'.run P w) : (do pure (Next.value (← s)) : Sem Next).run P w = (do pure (Next.value (← s')) : Sem Next).run P w := by
  simp only [Sem.run_bind, he]
theorem oConv_ok (hr : HR P σ h.t.get w) (hf : ∀ k, σ h.next k = none) {e : T} {s d : TypeId} {x : Ev} {c : Value} (hx : VR σ (x.ev e) c) : OSd P σ h w (do pure (Next.value (← convert s d c))) ((oConv (convk P s d) x).run e h) := by
  unfold convk
  split
  · rename_i k1 k hs hd
    have hs := und_ok hs (by simp)
    have hd := und_ok hd (by simp)
    show OSd P σ h w _ ((x.ev e).onInt fun _ n => .val (.int k (wrapF k n)) h)
    rcases onInt_cases (x.ev e) (fun _ n => .val (.int k (wrapF k n)) h) with h0 | ⟨k', n, hv, h0⟩
    · rw [h0]; trivial
    rw [h0]; rw [hv] at hx; simp only [VR] at hx; subst hx
    refine osd_v (c := .int k (k.wrap n)) ?_ (by simp only [VR, wrapF_eq]) (Aft.refl hr)
    simp [convert, run_und hs, run_und hd, Conv.intToInt]
  · rename_i hs hd
    have hs := und_ok hs (by simp)
    have hd := und_ok hd (by simp)
    show OSd P σ h w _ ((x.ev e).onStr fun s => .val (.str s) h)
    rcases onStr_cases (x.ev e) (fun s => .val (.str s) h) with h0 | ⟨s', hv, h0⟩
    · rw [h0]; trivial
    rw [h0]; rw [hv] at hx; simp only [VR] at hx; subst hx
    refine osd_v (c := .string ⟨⟨s'⟩⟩) ?_ (by simp only [VR]) (Aft.refl hr)
    simp [convert, run_und hs, run_und hd]
  · rename_i el hs hd
    have hs := und_ok hs (by simp)
    have hd := und_ok hd (by simp)
    split
    · rename_i hel
      have hel := und_ok hel (by simp)
      show OSd P σ h w _ ((x.ev e).onStr fun s => .val (.slice h.next 0 0 s.length s.length 1 false) (h.new (.cells (s.map u8) el 0 0 true)))
      rcases onStr_cases (x.ev e) (fun s => .val (.slice h.next 0 0 s.length s.length 1 false) (h.new (.cells (s.map u8) el 0 0 true))) with h0 | ⟨s', hv, h0⟩
      · rw [h0]; trivial
      rw [h0]; rw [hv] at hx; simp only [VR] at hx; subst hx
      obtain ⟨cc, w', σ', h1, h2, h3⟩ := s2b_ok hr hf (ty := el) s'
      refine osd_v (c := cc) (w' := w') ?_ h2 h3
      simp [convert, run_und hs, run_und hd, run_und hel, h1]
    · rename_i hel
      have hel := und_ok hel (by simp)
      show OSd P σ h w _ ((x.ev e).onStr fun s => .val (.slice h.next 0 0 (runesOf s.length s).length (runesOf s.length s).length 1 false) (h.new (.cells (runesOf s.length s) el 0 0 false)))
      rcases onStr_cases (x.ev e) (fun s => .val (.slice h.next 0 0 (runesOf s.length s).length (runesOf s.length s).length 1 false) (h.new (.cells (runesOf s.length s) el 0 0 false))) with h0 | ⟨s', hv, h0⟩
      · rw [h0]; trivial
      rw [h0]; rw [hv] at hx; simp only [VR] at hx; subst hx
      obtain ⟨cc, w', σ', h1, h2, h3⟩ := s2r_ok hr hf (ty := el) s'
      refine osd_v (c := cc) (w' := w') ?_ h2 h3
      simp [convert, run_und hs, run_und hd, run_und hel, h1]
    · trivial
  · rename_i el hs hd
    have hs := und_ok hs (by simp)
    have hd := und_ok hd (by simp)
    split
    · rename_i hel
      have hel := und_ok hel (by simp)
      have hb := oB2s_ok hr hx
      cases hv : x.ev e <;> (try (show OSd P σ h w _ ((oB2s x).run e h); simp only [oB2s, hv]; trivial))
      · rw [hv] at hx; simp only [VR] at hx; subst hx
        exact OSd.congr (run_v_congr (by simp [convert, run_und hs, run_und hd, run_und hel])) hb
      · rw [hv] at hx; simp only [VR] at hx
        obtain ⟨L, a, cc, _, rfl, _⟩ := hx
        exact OSd.congr (run_v_congr (by simp [convert, run_und hs, run_und hd, run_und hel])) hb
    · rename_i hel
      have hel := und_ok hel (by simp)
      have hb := oR2s_ok hr hx
      cases hv : x.ev e <;> (try (show OSd P σ h w _ ((oR2s x).run e h); simp only [oR2s, hv]; trivial))
      · rw [hv] at hx; simp only [VR] at hx; subst hx
        exact OSd.congr (run_v_congr (by simp [convert, run_und hs, run_und hd, run_und hel])) hb
      · rw [hv] at hx; simp only [VR] at hx
        obtain ⟨L, a, cc, _, rfl, _⟩ := hx
        exact OSd.congr (run_v_congr (by simp [convert, run_und hs, run_und hd, run_und hel])) hb
    · trivial
  · rename_i k1 hs hd
    have hs := und_ok hs (by simp)
    have hd := und_ok hd (by simp)
    show OSd P σ h w _ ((x.ev e).onInt fun _ n => .val (.str (Utf8.encode n).data.toList) h)
    rcases onInt_cases (x.ev e) (fun _ n => .val (.str (Utf8.encode n).data.toList) h) with h0 | ⟨k', n, hv, h0⟩
    · rw [h0]; trivial
    rw [h0]; rw [hv] at hx; simp only [VR] at hx; subst hx
    refine osd_v (c := .string (Utf8.encode n)) ?_ (by simp only [VR]) (Aft.refl hr)
    simp [convert, run_und hs, run_und hd, Conv.intToString]
  · rename_i a el hs hd
    have hs := und_ok hs (by simp)
    have hd := und_ok hd (by simp)
    split
    · rename_i hsd
      split
      · rename_i hel
        exact oMark_ok hr hs hd (und_ok hel (by simp)) hsd hx
      · trivial
    · trivial
  · rename_i t hs hd
    have hs := und_ok hs (by simp)
    have hd := und_ok hd (by simp)
    split
    · rename_i i hi
      split
      · trivial
      rename_i hsz
      let F : Nat → Nat → Nat → List AV → Nat → Nat → Bool → OR := fun b g off cs _ _ _ => bif Nat.blt off cs.length then .val (.ptr b g off) h else .fail
      show OSd P σ h w _ ((x.ev e).onPtr fun b g off => h.onCells b g (F b g off))
      rcases onPtr_cases (x.ev e) (fun b g off => h.onCells b g (F b g off)) with h0 | ⟨b, g, off, hv, h0⟩
      · rw [h0]; trivial
      rw [h0]; rw [hv] at hx
      rcases onCellsH_cases (h := h) b g (F b g off) with h3 | ⟨cs, ty', fz, s', hb, h3⟩
      · rw [h3]; trivial
      rw [h3]
      rcases cond_fail (b := Nat.blt off cs.length) (x := .val (.ptr b g off) h) with h4 | ⟨hlt, h4⟩
      · exact (congrArg (OSd P σ h w _) h4).mpr trivial
      refine (congrArg (OSd P σ h w _) h4).mpr ?_
      have hlt := blt_iff.1 hlt
      have hx' := hx
      simp only [VR] at hx
      obtain ⟨L, hL, hsh, rfl⟩ := hx
      obtain ⟨L', c, lo, hi', hL', hblk, hsz', hlen, hrel, hz⟩ := cells_of hr hb
      rw [hL] at hL'; cases hL'
      refine osd_v (σ' := σ) ?_ hx' (Aft.refl hr)
      exact Lib.run_to_unsafe w ⟨L.blk, off - L.sh, none⟩ hs hd hi hsz (cells := c.size) (e := ty') (by simp [World.shape?, hblk]) (by show off - L.sh < _; omega)
    · trivial
  · rename_i u hs hd
    have hs := und_ok hs (by simp)
    have hd := und_ok hd (by simp)
    split
    · rename_i i hi
      split
      · trivial
      rename_i hsz
      let F : Nat → Nat → Nat → List AV → Nat → Nat → Bool → OR := fun b g off cs ty _ _ => bif Nat.beq ty u && Nat.beq off 0 && Nat.ble i.size cs.length then .val (.ptr b g off) h else .fail
      show OSd P σ h w _ ((x.ev e).onPtr fun b g off => h.onCells b g (F b g off))
      rcases onPtr_cases (x.ev e) (fun b g off => h.onCells b g (F b g off)) with h0 | ⟨b, g, off, hv, h0⟩
      · rw [h0]; trivial
      rw [h0]; rw [hv] at hx
      rcases onCellsH_cases (h := h) b g (F b g off) with h3 | ⟨cs, ty', fz, s', hb, h3⟩
      · rw [h3]; trivial
      rw [h3]
      rcases cond_fail (b := Nat.beq ty' u && Nat.beq off 0 && Nat.ble i.size cs.length) (x := .val (.ptr b g off) h) with h4 | ⟨hc, h4⟩
      · exact (congrArg (OSd P σ h w _) h4).mpr trivial
      refine (congrArg (OSd P σ h w _) h4).mpr ?_
      simp only [Bool.and_eq_true] at hc
      have hty := Nat.eq_of_beq_eq_true hc.1.1
      have hoff := Nat.eq_of_beq_eq_true hc.1.2
      have hle := ble_iff.1 hc.2
      subst hty; subst hoff
      have hx' := hx
      simp only [VR] at hx
      obtain ⟨L, hL, hsh, rfl⟩ := hx
      obtain ⟨L', c, lo, hi', hL', hblk, hsz', hlen, hrel, hz⟩ := cells_of hr hb
      rw [hL] at hL'; cases hL'
      have hcO : P.cellsOf ty' = i.size := by rw [cellsOf_eq, szO_eq hi]
      refine osd_v (σ' := σ) ?_ hx' (Aft.refl hr)
      refine Lib.run_from_unsafe w ⟨L.blk, 0 - L.sh, none⟩ hs hd hi (cells := c.size) (e := ty') (by simp [World.shape?, hblk]) ?_
      show liesAt P P.depth ty' (c.size / P.cellsOf ty') (0 - L.sh) ty' 1 = true
      rw [Nat.zero_sub]
      refine lies_head (by rw [hcO]; exact hsz) _ ?_
      rw [hcO]
      exact (Nat.one_le_div_iff (by omega)).2 (by omega)
    · trivial
  · trivial
end
end Go.Rk

namespace Go.Rk
open Go
set_option linter.unusedVariables false
set_option linter.unusedSimpArgs false
set_option linter.constructorNameAsVariable false
section
variable {P : Program} {σ : Sg} {h : Heap} {w : World}

/-! equality -/
def B3.sem (P : Program) (w : World) (s : Sem Bool) : B3 → Prop
  | .yes => s.run P w = .ok true w
  | .nope => s.run P w = .ok false w
  | .dunno => True
theorem sem_of {s : Sem Bool} {b : Bool} (h : s.run P w = .ok b w) : (B3.of b).sem P w s := by cases b <;> exact h

def partV (o : Nat) (a : Option Nat) (xs : List AV) : AV := match a with
  | none => nth xs o
  | some n => .agg (takeN xs o n)
theorem aeqs_cons (o : Nat) (a : Option Nat) (k : EqT) (r : List (Nat × Option Nat × EqT)) (xs ys : List AV) : aeqs ((o, a, k) :: r) xs ys = (aeq k (partV o a xs) (partV o a ys)).and (aeqs r xs ys) := by
  cases a <;> simp [aeqs, partV]
theorem nth_get : ∀ (l : List AV) (i : Nat), nth l i = .undef ∨ l[i]? = some (nth l i)
  | [], i => by cases i <;> exact .inl rfl
  | a :: l, 0 => .inr rfl
  | a :: l, i + 1 => by simpa [nth] using nth_get l i
theorem aeq_undef_l (k : EqT) (b : AV) : aeq k .undef b = .dunno := by cases k <;> cases b <;> rfl
theorem aeq_undef_r (k : EqT) (a : AV) : aeq k a .undef = .dunno := by cases k <;> cases a <;> rfl
theorem part_ok {t : TypeId} {a : Option Nat} {o : Nat} {xs : List AV} {cs : Array Value} (ha : agg? P t = some a) (hc : VRs σ xs cs.toList) : partV o a xs = .undef ∨ ∃ c, (part t cs o).run P w = .ok c w ∧ VR σ (partV o a xs) c := by
  cases a with
  | none =>
    rcases nth_get xs o with h | h
    · exact .inl h
    · obtain ⟨c, hx, hv⟩ := hc.get h
      exact .inr ⟨c, run_part1 ha (by simpa using hx), hv⟩
  | some n => exact .inr ⟨_, run_partN ha, vr_part hc o n⟩
theorem and_sem {a r : B3} {s : Sem Bool} {f : Sem Bool} (hs : a.sem P w s) (hr : r.sem P w f) : (a.and r).sem P w (do if (!(← s)) = true then pure false else f) := by
  cases a with
  | yes => cases r <;> simp only [B3.and, B3.sem] at hs hr ⊢ <;> simp [hs, hr]
  | nope => simp only [B3.and, B3.sem] at hs ⊢; simp [hs]
  | dunno => trivial
/-- the parts of two values, one by one -/
theorem parts_ok {eq : TypeId → EqT} {E : TypeId → Value → Value → Sem Bool} (hE : ∀ t a b ca cb, VR σ a ca → VR σ b cb → (aeq (eq t) a b).sem P w (E t ca cb)) {xs ys : List AV} {cx cy : Array Value} (hx : VRs σ xs cx.toList) (hy : VRs σ ys cy.toList)
    {o : Nat} {t : TypeId} {a : Option Nat} (ha : agg? P t = some a) :
    (aeq (eq t) (partV o a xs) (partV o a ys)).sem P w (do E t (← part t cx o) (← part t cy o)) := by
  rcases part_ok (w := w) (o := o) ha hx with h1 | ⟨c1, h1, v1⟩
  · rw [h1, aeq_undef_l]; trivial
  rcases part_ok (w := w) (o := o) ha hy with h2 | ⟨c2, h2, v2⟩
  · rw [h2, aeq_undef_r]; trivial
  have := hE t _ _ _ _ v1 v2
  cases e : aeq (eq t) (partV o a xs) (partV o a ys) <;> rw [e] at this <;> simp only [B3.sem] at this ⊢ <;> simp [h1, h2, this]
theorem eqFields_ok {d D : Nat} (hE : ∀ t a b ca cb, VR σ a ca → VR σ b cb → (aeq (eqt P d t) a b).sem P w (Op.equalIn D t ca cb)) {xs ys : List AV} {cx cy : Array Value} (hx : VRs σ xs cx.toList) (hy : VRs σ ys cy.toList) :
    ∀ (fs : List Field) (l : List (Nat × Option Nat × EqT)), eqParts P (eqt P d) ((fs.filter (·.name ≠ "_")).map fun f => (f.offset, f.type)) = some l → (aeqs l xs ys).sem P w (Op.eqFields D cx cy fs)
  | [], l, h => by
    simp only [List.filter_nil, List.map_nil, eqParts, Option.some.injEq] at h
    subst h
    simp [aeqs, B3.sem, Op.eqFields]
  | f :: fs, l, h => by
    unfold Op.eqFields
    by_cases hn : f.name ≠ "_"
    · rw [if_pos hn]
      rw [List.filter_cons_of_pos (by simpa using hn), List.map_cons, eqParts] at h
      split at h
      · rename_i a l' ha hl
        cases h
        rw [aeqs_cons]
        have h1 := parts_ok (w := w) hE hx hy (o := f.offset) ha
        have h2 := eqFields_ok hE hx hy fs l' hl
        have := and_sem h1 h2
        have he : ((do if (!(← (do Op.equalIn D f.type (← part f.type cx f.offset) (← part f.type cy f.offset)))) = true then pure false else Op.eqFields D cx cy fs) : Sem Bool) =
          (do
            let a ← part f.type cx f.offset
            let b ← part f.type cy f.offset
            let r ← Op.equalIn D f.type a b
            if (!r) = true then pure false else Op.eqFields D cx cy fs) := by
          simp only [bind_assoc]
        rw [he] at this
        exact this
      · cases h
    · rw [if_neg hn]
      rw [List.filter_cons_of_neg (by simpa using hn)] at h
      exact eqFields_ok hE hx hy fs l h

def eqArr (D : Nat) (t : TypeId) (n : Nat) (xs ys : Array Value) : List Nat → Sem Bool
  | [] => pure true
  | i :: l => do if (!(← (do Op.equalIn D t (← part t xs (i * n)) (← part t ys (i * n))))) = true then pure false else eqArr D t n xs ys l
theorem run_equalIn_array {D : Nat} {t el : TypeId} {n : Nat} {i : TypeInfo} {xs ys : Array Value} (ht : P.underlying t = some (.array n el)) (hi : P.info? el = some i) :
    (Op.equalIn (D + 1) t (.agg xs) (.agg ys)).run P w = (eqArr D el i.size xs ys (List.range n)).run P w := by
  simp only [Op.equalIn, Sem.run_bind, run_und ht, run_size hi, Result.andThen_ok]
  rw [Std.Legacy.Range.forIn_eq_forIn_range']
  have : List.range' (0 : Nat) (Std.Legacy.Range.size [0:n]) 1 = List.range n := by simp [Std.Legacy.Range.size, List.range_eq_range']
  simp only [this]
  generalize List.range n = fs
  clear this ht hi
  induction fs generalizing w with
  | nil => simp [eqArr]
  | cons f fs ih =>
    simp only [List.forIn_cons, eqArr, Sem.run_bind, Sem.run_ite]
    generalize (part el xs (f * i.size)).run P w = r1
    cases r1 with
    | ok a w1 =>
      simp only [Result.andThen_ok]
      generalize (part el ys (f * i.size)).run P w1 = r2
      cases r2 with
      | ok b w2 =>
        simp only [Result.andThen_ok]
        generalize (Op.equalIn D el a b).run P w2 = r3
        cases r3 with
        | ok r w3 =>
          cases r
          · simp only [Result.andThen_ok, Bool.not_false, if_true, Sem.run_pure]
          · simp only [Result.andThen_ok, Bool.not_true, Bool.false_eq_true, if_false, Sem.run_pure]
            exact ih (w := w3)
        | halt x w3 => simp [Result.andThen]
      | halt x w2 => simp [Result.andThen]
    | halt x w1 => simp [Result.andThen]
theorem eqArr_ok {d D : Nat} (hE : ∀ t a b ca cb, VR σ a ca → VR σ b cb → (aeq (eqt P d t) a b).sem P w (Op.equalIn D t ca cb)) {xs ys : List AV} {cx cy : Array Value} (hx : VRs σ xs cx.toList) (hy : VRs σ ys cy.toList) {el : TypeId} {n : Nat} :
    ∀ (fs : List Nat) (l : List (Nat × Option Nat × EqT)), eqParts P (eqt P d) (fs.map fun k => (k * n, el)) = some l → (aeqs l xs ys).sem P w (eqArr D el n cx cy fs)
  | [], l, h => by
    simp only [List.map_nil, eqParts, Option.some.injEq] at h
    subst h
    simp [aeqs, B3.sem, eqArr]
  | f :: fs, l, h => by
    unfold eqArr
    rw [List.map_cons, eqParts] at h
    split at h
    · rename_i a l' ha hl
      cases h
      rw [aeqs_cons]
      exact and_sem (parts_ok (w := w) hE hx hy (o := f * n) ha) (eqArr_ok hE hx hy fs l' hl)
    · cases h
theorem sem_congr {s s' : Sem Bool} (he : s.run P w = s'.run P w) {b : B3} (h : b.sem P w s) : b.sem P w s' := by
  cases b <;> simp only [B3.sem] at h ⊢ <;> first | trivial | (rw [← he]; exact h)
theorem aeq_no (a b : AV) : aeq .no a b = .dunno := by cases a <;> cases b <;> rfl
theorem beqB_list (a b : List UInt8) : beqB a b = (a == b) := beqB_eq a b
theorem same_ptr {a : Addr} {el : TypeId} {i : TypeInfo} {t : TypeId} {D : Nat} (ht : P.underlying t = some (.pointer el)) (hi : P.info? el = some i) : (Op.equalIn (D + 1) t (.pointer (some a)) (.pointer (some a))).run P w = .ok true w := by
  simp only [Op.equalIn, Sem.run_bind, run_und ht, Result.andThen_ok, run_size hi, Sem.run_ite]
  split
  · simp [sameAddr]
  · simp
theorem aeq_ok : ∀ (d D : Nat) (t : TypeId) (a b : AV) (ca cb : Value), d ≤ D → VR σ a ca → VR σ b cb → (aeq (eqt P d t) a b).sem P w (Op.equalIn D t ca cb)
  | 0, D, t, a, b, ca, cb, _, ha, hb => by unfold eqt; rw [aeq_no]; trivial
  | d + 1, 0, t, a, b, ca, cb, hD, ha, hb => by omega
  | d + 1, D + 1, t, a, b, ca, cb, hD, ha, hb => by
    have ih := fun t a b ca cb => aeq_ok d D t a b ca cb (by omega)
    unfold eqt
    split
    · rename_i k hu
      have hu := und_ok hu (by simp)
      cases a <;> cases b <;> try trivial
      rename_i k1 n1 k2 n2
      simp only [VR] at ha hb; subst ha; subst hb
      simp only [aeq]
      cases hk : keq k1 k2 with
      | false => trivial
      | true =>
        have := keq_eq hk; subst this
        exact sem_of (by rw [run_equalIn_int w D t k1 k n1 n2 hu, eqI_eq])
    · rename_i hu
      have hu := und_ok hu (by simp)
      cases a <;> cases b <;> try trivial
      rename_i b1 b2
      simp only [VR] at ha hb; subst ha; subst hb
      exact sem_of (by rw [run_equalIn_bool' w D t b1 b2 hu]; cases b1 <;> cases b2 <;> rfl)
    · rename_i hu
      have hu := und_ok hu (by simp)
      cases a <;> cases b <;> try trivial
      rename_i b1 b2
      simp only [VR] at ha hb; subst ha; subst hb
      exact sem_of (by rw [run_equalIn_string w D t _ _ hu, beqB_eq]; simp [toL])
    · rename_i el hu
      have hu := und_ok hu (by simp)
      split
      · rename_i hh
        obtain ⟨i, hi⟩ := Option.isSome_iff_exists.1 hh
        cases a <;> cases b <;> try trivial
        · simp only [VR] at ha hb; subst ha; subst hb
          simp [aeq, B3.sem, Op.equalIn, run_und hu]
        · simp only [VR] at ha hb; subst ha
          obtain ⟨L, _, _, rfl⟩ := hb
          simp [aeq, B3.sem, Op.equalIn, run_und hu]
        · simp only [VR] at ha hb; subst hb
          obtain ⟨L, _, _, rfl⟩ := ha
          simp [aeq, B3.sem, Op.equalIn, run_und hu]
        · rename_i b1 g1 o1 b2 g2 o2
          simp only [aeq]
          cases he : Nat.beq b1 b2 && Nat.beq g1 g2 && Nat.beq o1 o2 with
          | false => trivial
          | true =>
            simp only [Bool.and_eq_true] at he
            have e1 := Nat.eq_of_beq_eq_true he.1.1
            have e2 := Nat.eq_of_beq_eq_true he.1.2
            have e3 := Nat.eq_of_beq_eq_true he.2
            subst e1; subst e2; subst e3
            simp only [VR] at ha hb
            obtain ⟨L, hL, _, rfl⟩ := ha
            obtain ⟨M, hM, _, rfl⟩ := hb
            rw [hL] at hM; cases hM
            exact same_ptr hu hi
      · rw [aeq_no]; trivial
    · rename_i el hu
      have hu := und_ok hu (by simp)
      cases a <;> cases b <;> try trivial
      · simp only [VR] at ha hb; subst ha; subst hb
        simp [aeq, B3.sem, Op.equalIn, run_und hu]
      · simp only [VR] at ha hb; subst ha
        obtain ⟨L, x, cc, _, rfl, _⟩ := hb
        simp [aeq, B3.sem, Op.equalIn, run_und hu]
      · simp only [VR] at ha hb; subst hb
        obtain ⟨L, x, cc, _, rfl, _⟩ := ha
        simp [aeq, B3.sem, Op.equalIn, run_und hu]
    · rename_i hu
      have hu := und_ok hu (by simp)
      cases a <;> cases b <;> try trivial
      · simp only [VR] at ha hb; subst ha; subst hb
        simp [aeq, B3.sem, Op.equalIn, run_und hu]
      · simp only [VR] at ha hb; subst ha
        obtain ⟨L, _, rfl⟩ := hb
        simp [aeq, B3.sem, Op.equalIn, run_und hu]
      · simp only [VR] at ha hb; subst hb
        obtain ⟨L, _, rfl⟩ := ha
        simp [aeq, B3.sem, Op.equalIn, run_und hu]
    · rename_i hu
      have hu := und_ok hu (by simp)
      cases a <;> cases b <;> try trivial
      · simp only [VR] at ha hb; subst hb
        obtain ⟨a1, a2, rfl, _⟩ := ha
        simp [aeq, B3.sem, Op.equalIn, run_und hu]
      · simp only [VR] at ha hb; subst ha
        obtain ⟨a1, a2, rfl, _⟩ := hb
        simp [aeq, B3.sem, Op.equalIn, run_und hu]
      · simp only [VR] at ha hb; subst ha; subst hb
        simp [aeq, B3.sem, Op.equalIn, run_und hu]
    · rename_i fs hu
      have hu := und_ok hu (by simp)
      split
      · rw [aeq_no]; trivial
      rename_i hst
      split
      · rename_i l hl
        cases a <;> cases b <;> try trivial
        simp only [VR] at ha hb
        obtain ⟨cx, rfl, hx⟩ := ha
        obtain ⟨cy, rfl, hy⟩ := hb
        have hfo : P.fieldsOf t = fs := by simp [Program.fieldsOf, hu]
        have h1 := eqFields_ok (D := D) ih hx hy fs.toList l hl
        refine sem_congr ?_ h1
        rw [run_equalIn_struct w D t cx cy (by rw [hfo]; exact hu) (by simpa using hst), hfo]
      · rw [aeq_no]; trivial
    · rename_i n el hu
      have hu := und_ok hu (by simp)
      split
      · rename_i i hi
        split
        · rename_i l hl
          cases a <;> cases b <;> try trivial
          simp only [VR] at ha hb
          obtain ⟨cx, rfl, hx⟩ := ha
          obtain ⟨cy, rfl, hy⟩ := hb
          have h1 := eqArr_ok (D := D) ih hx hy (List.range n) l hl
          refine sem_congr ?_ h1
          rw [run_equalIn_array hu hi]
        · rw [aeq_no]; trivial
      · rw [aeq_no]; trivial
    · rw [aeq_no]; trivial
end
end Go.Rk

namespace Go.Rk
open Go
set_option linter.unusedVariables false
set_option linter.unusedSimpArgs false
set_option linter.constructorNameAsVariable false
section
variable {P : Program} {σ : Sg} {h : Heap} {w : World}

theorem guard_plain {op : BinOp} {t : TypeId} {x y : Operand} {ca cb : Value} (h1 : ca ≠ .nilIface) (h2 : ∀ x, ca ≠ .agg x) : (eqGuard op t x y ca cb).run P w = .ok () w := by
  unfold eqGuard
  cases ca <;> first | exact absurd rfl h1 | exact absurd rfl (h2 _) | (cases op <;> simp)
def NotNum (c : Value) : Prop := match c with
  | .int .. => False
  | .float .. => False
  | .complex .. => False
  | .string .. => False
  | _ => True
theorem bin_eql {t : TypeId} {x y : Value} (hx : NotNum x) : binOp .eql t x y = (do pure (.bool (← Op.equal t x y))) := by
  cases x <;> first | exact hx.elim | (cases y <;> rfl)
theorem bin_neq {t : TypeId} {x y : Value} (hx : NotNum x) : binOp .neq t x y = (do pure (.bool (!(← Op.equal t x y)))) := by
  cases x <;> first | exact hx.elim | (cases y <;> rfl)
def isEq (op : BinOp) : Prop := op = .eql ∨ op = .neq
def eqR (op : BinOp) (v : Bool) : Bool := match op with | .eql => v | _ => !v
theorem eq_gen {op : BinOp} (ho : isEq op) {t : TypeId} {x y : Operand} {ca cb : Value} {v : Bool} (hg : (eqGuard op t x y ca cb).run P w = .ok () w) (hn : NotNum ca) (he : (Op.equalIn Op.maxDepth t ca cb).run P w = .ok v w) :
    ((do eqGuard op t x y ca cb; binOp op t ca cb) : Sem Value).run P w = .ok (.bool (eqR op v)) w := by
  rcases ho with rfl | rfl
  · simp only [Sem.run_bind, hg, Result.andThen_ok, bin_eql hn, Op.equal, he, Sem.run_pure, eqR]
  · simp only [Sem.run_bind, hg, Result.andThen_ok, bin_neq hn, Op.equal, he, Sem.run_pure, eqR]
theorem sem_run {b : B3} {s : Sem Bool} {v : Bool} (h : b.sem P w s) (hb : b = B3.of v) : s.run P w = .ok v w := by
  subst hb; cases v <;> exact h
theorem of_ne {v : Bool} : B3.dunno ≠ B3.of v := by cases v <;> simp [B3.of]
theorem eq_agg {op : BinOp} (ho : isEq op) {t : TypeId} (ht : (∃ fs, und P t = .struct fs) ∨ (∃ n e, und P t = .array n e)) (hg : P.eqGuardType P.depth t = false) {ox oy : Operand} {a b : AV} {ca cb : Value} (ha : VR σ a ca) (hb : VR σ b cb) {v : Bool} (he : aeq (eqt P 20 t) a b = B3.of v) :
    ((do eqGuard op t ox oy ca cb; binOp op t ca cb) : Sem Value).run P w = .ok (.bool (eqR op v)) w := by
  have hrun := sem_run (aeq_ok (P := P) (w := w) 20 Op.maxDepth t a b ca cb (by decide) ha hb) he
  have hk : (∃ l, eqt P 20 t = .parts l) ∨ eqt P 20 t = .no := by
    unfold eqt
    rcases ht with ⟨fs, hu⟩ | ⟨n, e, hu⟩
    · rw [hu]; simp only []
      split
      · exact .inr rfl
      · split
        · exact .inl ⟨_, rfl⟩
        · exact .inr rfl
    · rw [hu]; simp only []
      split
      · split
        · exact .inl ⟨_, rfl⟩
        · exact .inr rfl
      · exact .inr rfl
  rcases hk with ⟨l, hk⟩ | hk
  · rw [hk] at he
    cases a <;> cases b <;> try exact absurd he of_ne
    simp only [VR] at ha hb
    obtain ⟨cx, rfl, hx⟩ := ha
    obtain ⟨cy, rfl, hy⟩ := hb
    exact eq_gen ho (run_eqGuard_agg w op t ox oy cx cy hg) trivial hrun
  · rw [hk, aeq_no] at he; exact absurd he of_ne
theorem eq_scalar {op : BinOp} (ho : isEq op) {t : TypeId} (h2 : ∀ fs, und P t = .struct fs → False) (h3 : ∀ n e, und P t = .array n e → False) {ox oy : Operand} {a b : AV} {ca cb : Value} (ha : VR σ a ca) (hb : VR σ b cb) {v : Bool} (he : aeq (eqt P 20 t) a b = B3.of v) :
    ((do eqGuard op t ox oy ca cb; binOp op t ca cb) : Sem Value).run P w = .ok (.bool (eqR op v)) w := by
  have hrun := sem_run (aeq_ok (P := P) (w := w) 20 Op.maxDepth t a b ca cb (by decide) ha hb) he
  have gen : NotNum ca → ca ≠ .nilIface → (∀ x, ca ≠ .agg x) → ((do eqGuard op t ox oy ca cb; binOp op t ca cb) : Sem Value).run P w = .ok (.bool (eqR op v)) w :=
    fun h1 h2 h3 => eq_gen ho (guard_plain h2 h3) h1 hrun
  unfold eqt at he
  split at he
  · cases a <;> cases b <;> try exact absurd he of_ne
    rename_i k1 n1 k2 n2
    simp only [VR] at ha hb; subst ha; subst hb
    simp only [aeq] at he
    cases hk : keq k1 k2 with
    | false => rw [hk] at he; exact absurd he of_ne
    | true =>
      have := keq_eq hk; subst this
      rw [hk] at he
      have hv : v = (n1 == n2) := by
        rw [← eqI_eq]
        revert he
        cases eqI n1 n2 <;> cases v <;> simp [B3.of]
      have hg : (eqGuard op t ox oy (.int k1 n1) (.int k1 n2)).run P w = .ok () w := guard_plain (by intro h; cases h) (by intro x h; cases h)
      rcases ho with rfl | rfl
      · simp only [Sem.run_bind, hg, Result.andThen_ok]
        simp [binOp, Op.intCmp, eqR, hv]
      · simp only [Sem.run_bind, hg, Result.andThen_ok]
        simp [binOp, Op.intCmp, eqR, hv, bne]
  · cases a <;> cases b <;> try exact absurd he of_ne
    simp only [VR] at ha hb; subst ha; subst hb
    exact gen trivial (by intro h; cases h) (by intro x h; cases h)
  · cases a <;> cases b <;> try exact absurd he of_ne
    rename_i b1 b2
    simp only [VR] at ha hb; subst ha; subst hb
    simp only [aeq] at he
    have hv : v = (b1 == b2) := by
      rw [← beqB_eq]
      revert he
      cases beqB b1 b2 <;> cases v <;> simp [B3.of]
    have hg : (eqGuard op t ox oy (.string ⟨⟨b1⟩⟩) (.string ⟨⟨b2⟩⟩)).run P w = .ok () w := guard_plain (by intro h; cases h) (by intro x h; cases h)
    rcases ho with rfl | rfl
    · simp only [Sem.run_bind, hg, Result.andThen_ok]
      simp [binOp, Op.stringOp, eqR, hv, toL]
    · simp only [Sem.run_bind, hg, Result.andThen_ok]
      simp [binOp, Op.stringOp, eqR, hv, toL]
  · split at he
    · cases a <;> cases b <;> try exact absurd he of_ne
      all_goals
        simp only [VR] at ha
        first
          | subst ha
          | obtain ⟨_, _, _, rfl⟩ := ha
        exact gen trivial (by intro h; cases h) (by intro x h; cases h)
    · rw [aeq_no] at he; exact absurd he of_ne
  · cases a <;> cases b <;> try exact absurd he of_ne
    all_goals
      simp only [VR] at ha
      first
        | subst ha
        | obtain ⟨_, _, _, _, rfl, _⟩ := ha
      exact gen trivial (by intro h; cases h) (by intro x h; cases h)
  · cases a <;> cases b <;> try exact absurd he of_ne
    all_goals
      simp only [VR] at ha
      first
        | subst ha
        | obtain ⟨_, _, rfl⟩ := ha
      exact gen trivial (by intro h; cases h) (by intro x h; cases h)
  · cases a <;> cases b <;> try exact absurd he of_ne
    all_goals
      simp only [VR] at ha
      first
        | subst ha
        | obtain ⟨_, _, rfl, _⟩ := ha
      exact gen trivial (by intro h; cases h) (by intro x h; cases h)
  · rename_i fs hu; exact (h2 _ hu).elim
  · rename_i n el hu; exact (h3 _ _ hu).elim
  · rw [aeq_no] at he; exact absurd he of_ne
theorem iface_nn (D : Nat) {t : TypeId} {ms : Array (String × TypeId)} (hu : P.underlying t = some (.interface ms)) : (Op.equalIn (D + 1) t .nilIface .nilIface).run P w = .ok true w := by simp [Op.equalIn, run_und hu]
theorem iface_nv (D : Nat) {t u : TypeId} {c : Value} {ms : Array (String × TypeId)} (hu : P.underlying t = some (.interface ms)) : (Op.equalIn (D + 1) t .nilIface (.iface u c)).run P w = .ok false w := by simp [Op.equalIn, run_und hu]
theorem iface_vn (D : Nat) {t u : TypeId} {c : Value} {ms : Array (String × TypeId)} (hu : P.underlying t = some (.interface ms)) : (Op.equalIn (D + 1) t (.iface u c) .nilIface).run P w = .ok false w := by simp [Op.equalIn, run_und hu]
theorem eq_run {op : BinOp} (ho : isEq op) {t : TypeId} {ox oy : Operand} {a b : AV} {ca cb : Value} (ha : VR σ a ca) (hb : VR σ b cb) {v : Bool} (he : aeq (eqtOf P t ox oy) a b = B3.of v) :
    ((do eqGuard op t ox oy ca cb; binOp op t ca cb) : Sem Value).run P w = .ok (.bool (eqR op v)) w := by
  unfold eqtOf at he
  split at he
  · rename_i ms hu
    have hu := und_ok hu (by simp)
    split at he
    · rename_i hc
      have hiface : ∀ v', v' = v → (Op.equalIn Op.maxDepth t ca cb).run P w = .ok v' w → (∀ x, ca ≠ .agg x) → NotNum ca →
          ((do eqGuard op t ox oy ca cb; binOp op t ca cb) : Sem Value).run P w = .ok (.bool (eqR op v)) w := by
        intro v' hv' hrun hna hnn
        subst hv'
        refine eq_gen ho ?_ hnn hrun
        unfold eqGuard
        rcases ho with rfl | rfl <;> cases ca <;> cases cb <;> first
          | exact absurd rfl (hna _)
          | (simp; done)
          | (simp only [Bool.or_eq_true] at hc
             rcases hc with hc | hc
             · cases ox <;> simp [isC] at hc ⊢
             · cases oy <;> simp [isC] at hc ⊢)
      cases a <;> cases b <;> try exact absurd he of_ne
      · simp only [VR] at ha hb
        obtain ⟨c', rfl, _⟩ := ha
        subst hb
        exact hiface false (by cases v <;> first | rfl | cases he) (iface_vn 9999 hu) (fun _ h => by cases h) trivial
      · simp only [VR] at ha hb
        obtain ⟨c', rfl, _⟩ := hb
        subst ha
        exact hiface false (by cases v <;> first | rfl | cases he) (iface_nv 9999 hu) (fun _ h => by cases h) trivial
      · simp only [VR] at ha hb
        subst ha; subst hb
        exact hiface true (by cases v <;> first | rfl | cases he) (iface_nn 9999 hu) (fun _ h => by cases h) trivial
    · rw [aeq_no] at he; exact absurd he of_ne
  · rename_i fs hu
    split at he
    · rw [aeq_no] at he; exact absurd he of_ne
    rename_i hg
    exact eq_agg ho (.inl ⟨_, hu⟩) (by simpa using hg) ha hb he
  · rename_i n el hu
    split at he
    · rw [aeq_no] at he; exact absurd he of_ne
    rename_i hg
    exact eq_agg ho (.inr ⟨_, _, hu⟩) (by simpa using hg) ha hb he
  · rename_i h1 h2 h3
    exact eq_scalar ho h2 h3 ha hb he
theorem orB3_cases (b : B3) (f : Bool → OR) : orB3 b f = .fail ∨ ∃ v, b = B3.of v ∧ orB3 b f = f v := by
  cases b
  · exact .inr ⟨true, rfl, rfl⟩
  · exact .inr ⟨false, rfl, rfl⟩
  · exact .inl rfl
theorem oBinE_ok (hr : HR P σ h.t.get w) {op : BinOp} (ho : isEq op) {t : TypeId} {ox oy : Operand} {e : T} {x y : Ev} {cx cy : Value} (hx : VR σ (x.ev e) cx) (hy : VR σ (y.ev e) cy) (st : Bool) :
    OSd P σ h w (do pure (Next.value (← (do eqGuard op t ox oy cx cy; binOp op t cx cy)))) ((oBin op st (eqtOf P t ox oy) x y).run e h) := by
  rcases ho with rfl | rfl
  · show OSd P σ h w _ (orB3 (aeq (eqtOf P t ox oy) (x.ev e) (y.ev e)) fun b => .val (.bool b) h)
    rcases orB3_cases (aeq (eqtOf P t ox oy) (x.ev e) (y.ev e)) (fun b => .val (.bool b) h) with h0 | ⟨v, hv, h0⟩
    · rw [h0]; trivial
    rw [h0]
    exact osd_v (eq_run (.inl rfl) hx hy hv) (by simp only [VR, eqR]) (Aft.refl hr)
  · show OSd P σ h w _ (orB3 (aeq (eqtOf P t ox oy) (x.ev e) (y.ev e)) fun b => .val (.bool (!b)) h)
    rcases orB3_cases (aeq (eqtOf P t ox oy) (x.ev e) (y.ev e)) (fun b => .val (.bool (!b)) h) with h0 | ⟨v, hv, h0⟩
    · rw [h0]; trivial
    rw [h0]
    exact osd_v (eq_run (.inr rfl) hx hy hv) (by simp only [VR, eqR]) (Aft.refl hr)
end
end Go.Rk

namespace Go.Rk
open Go
set_option linter.unusedVariables false
set_option linter.unusedSimpArgs false
set_option linter.constructorNameAsVariable false
section
variable {P : Program} {σ : Sg} {h : Heap} {w : World}

/-! maps -/
theorem run_setObj_at {r : Nat} {o n : Obj} (hb : w.heap[r]? = some o) (ho : ∀ c t f, o ≠ .cells c t f) : (setObj r n).run P w = .ok () (wset w r n) := by
  show (Sem.setObj r n (.pure ())).run P w = _
  rw [Sem.run, hb]
  cases o <;> first | exact absurd rfl (ho _ _ _) | rfl
theorem not_cells_map {es : Array MapEntry} {c : Nat} : ∀ x t f, Obj.map es c ≠ .cells x t f := by intro _ _ _ h; cases h
def ScT (d : TypeDesc) : Prop := match d with
  | .int _ => True
  | .string => True
  | .bool => True
  | _ => False
theorem key_und {k : TypeId} (hn : keyT P k ≠ .no) : ∃ d, P.underlying k = some d ∧ ScT d := by
  unfold keyT at hn
  split at hn
  · rename_i h; exact ⟨_, und_ok h (by simp), trivial⟩
  · rename_i h; exact ⟨_, und_ok h (by simp), trivial⟩
  · rename_i h; exact ⟨_, und_ok h (by simp), trivial⟩
  · exact absurd rfl hn
theorem key_same {k : TypeId} {d : TypeDesc} (hd : P.underlying k = some d) {a b : AV} {ca cb : Value} (ha : VR σ a ca) (hb : VR σ b cb) {v : Bool} (he : aeq (keyT P k) a b = B3.of v) :
    Instr.sameNow d ca cb = some v ∧ (v = true → Instr.sameBits 10000 cb ca = true) := by
  unfold keyT at he
  split at he
  · rename_i i hu
    have := und_ok hu (by simp)
    rw [hd] at this; cases this
    cases a <;> cases b <;> try exact absurd he of_ne
    rename_i k1 n1 k2 n2
    simp only [VR] at ha hb; subst ha; subst hb
    simp only [aeq] at he
    cases hk : keq k1 k2 with
    | false => rw [hk] at he; exact absurd he of_ne
    | true =>
      have := keq_eq hk; subst this
      rw [hk] at he
      have hv : v = (n1 == n2) := by
        rw [← eqI_eq]
        revert he
        cases eqI n1 n2 <;> cases v <;> simp [B3.of]
      refine ⟨by simp [Instr.sameNow, hv], fun h => ?_⟩
      rw [h] at hv
      have : n1 = n2 := by simpa using hv.symm
      subst this
      unfold Instr.sameBits
      simp
  · rename_i hu
    have := und_ok hu (by simp)
    rw [hd] at this; cases this
    cases a <;> cases b <;> try exact absurd he of_ne
    rename_i b1 b2
    simp only [VR] at ha hb; subst ha; subst hb
    simp only [aeq] at he
    have hv : v = (b1 == b2) := by
      rw [← beqB_eq]
      revert he
      cases beqB b1 b2 <;> cases v <;> simp [B3.of]
    have e1 : ((⟨⟨b1⟩⟩ : ByteArray) == ⟨⟨b2⟩⟩) = (b1 == b2) := by rw [beq_toListBytes]; simp [toL]
    refine ⟨by simp only [Instr.sameNow, hv, e1], fun h => ?_⟩
    rw [h] at hv
    have : b1 = b2 := by simpa using hv.symm
    subst this
    unfold Instr.sameBits
    simp only [e1]
    simp
  · rename_i hu
    have := und_ok hu (by simp)
    rw [hd] at this; cases this
    cases a <;> cases b <;> try exact absurd he of_ne
    rename_i b1 b2
    simp only [VR] at ha hb; subst ha; subst hb
    simp only [aeq] at he
    have hv : v = (b1 == b2) := by
      revert he
      cases b1 <;> cases b2 <;> cases v <;> simp [B3.of]
    refine ⟨by simp [Instr.sameNow, hv], fun h => ?_⟩
    rw [h] at hv
    have : b1 = b2 := by simpa using hv.symm
    subst this
    unfold Instr.sameBits
    simp
  · rw [aeq_no] at he; exact absurd he of_ne
theorem run_checkKey {k : TypeId} {d : TypeDesc} (hd : P.underlying k = some d) (hs : ScT d) (n : Nat) (e : Bool) (v : Value) : (Instr.checkKey e (n + 1) k v).run P w = .ok () w := by
  unfold Instr.checkKey
  simp only [Sem.run_bind, run_und hd, Result.andThen_ok]
  cases d <;> first | exact hs.elim | rfl
theorem findK_ok {k : TypeId} {d : TypeDesc} (hd : P.underlying k = some d) {key : AV} {ck : Value} (hk : VR σ key ck) (hit : AV → OR) (miss : OR) : ∀ (es : List (AV × AV × Nat)) (ents : List MapEntry) (i : Nat), MR σ es ents →
    findK (keyT P k) key hit miss es = .fail ∨ (∃ v cv j, findK (keyT P k) key hit miss es = hit v ∧ Instr.findNow d ck ents i = some (some (j, cv)) ∧ VR σ v cv) ∨ (findK (keyT P k) key hit miss es = miss ∧ Instr.findNow d ck ents i = some none)
  | [], ents, i, hm => by simp only [MR] at hm; subst hm; exact .inr (.inr ⟨rfl, rfl⟩)
  | (a, v, b) :: r, ents, i, hm => by
    obtain ⟨e, l', rfl, h1, h2, h3, h4⟩ := hm
    rw [findK]
    cases he : aeq (keyT P k) key a with
    | yes =>
      have := (key_same hd hk h1 (v := true) he).1
      exact .inr (.inl ⟨v, e.val, i, rfl, by simp [Instr.findNow, this], h2⟩)
    | nope =>
      have := (key_same hd hk h1 (v := false) he).1
      rcases findK_ok hd hk hit miss r l' (i + 1) h4 with h5 | ⟨v', cv, j, h5, h6, h7⟩ | ⟨h5, h6⟩
      · exact .inl h5
      · exact .inr (.inl ⟨v', cv, j, h5, by simp [Instr.findNow, this, h6], h7⟩)
      · exact .inr (.inr ⟨h5, by simp [Instr.findNow, this, h6]⟩)
    | dunno => exact .inl rfl
theorem updK_ok {k : TypeId} {d : TypeDesc} (hd : P.underlying k = some d) {key v : AV} {ck cv : Value} (hk : VR σ key ck) (hv : VR σ v cv) (clock : Nat) : ∀ (es : List (AV × AV × Nat)) (ents : List MapEntry) (i : Nat) (f : List (AV × AV × Nat) → Nat → OR), MR σ es ents →
    updK (keyT P k) key v clock f es = .fail ∨
    (∃ es' j e x, updK (keyT P k) key v clock f es = f es' clock ∧ Instr.findNow d ck ents i = some (some (i + j, x)) ∧ ents[j]? = some e ∧ Instr.sameBits 10000 e.key ck = true ∧ MR σ es' (ents.set j { e with key := ck, val := cv })) ∨
    (updK (keyT P k) key v clock f es = f (es ++ [(key, v, clock)]) (clock + 1) ∧ Instr.findNow d ck ents i = some none)
  | [], ents, i, f, hm => by simp only [MR] at hm; subst hm; exact .inr (.inr ⟨rfl, rfl⟩)
  | (a, y, b) :: r, ents, i, f, hm => by
    obtain ⟨e, l', rfl, h1, h2, h3, h4⟩ := hm
    rw [updK]
    cases he : aeq (keyT P k) key a with
    | yes =>
      obtain ⟨h5, h6⟩ := key_same hd hk h1 (v := true) he
      exact .inr (.inl ⟨_, 0, e, e.val, rfl, by simp [Instr.findNow, h5], rfl, h6 rfl, by
        simp only [List.set_cons_zero]
        exact ⟨_, _, rfl, hk, hv, h3, h4⟩⟩)
    | nope =>
      have := (key_same hd hk h1 (v := false) he).1
      rcases updK_ok hd hk hv clock r l' (i + 1) (fun l c => f ((a, y, b) :: l) c) h4 with h5 | ⟨es', j, e', x, h5, h6, h7, h8, h9⟩ | ⟨h5, h6⟩
      · exact .inl h5
      · refine .inr (.inl ⟨_, j + 1, e', x, h5, by simp [Instr.findNow, this, h6, Nat.add_assoc, Nat.add_comm 1], h7, h8, ?_⟩)
        simp only [List.set_cons_succ]
        exact ⟨e, _, rfl, h1, h2, h3, h9⟩
      · exact .inr (.inr ⟨h5, by simp [Instr.findNow, this, h6]⟩)
    | dunno => exact .inl rfl
theorem delK_ok {k : TypeId} {d : TypeDesc} (hd : P.underlying k = some d) {key : AV} {ck : Value} (hk : VR σ key ck) : ∀ (es : List (AV × AV × Nat)) (ents : List MapEntry) (i : Nat) (f : List (AV × AV × Nat) → OR), MR σ es ents →
    delK (keyT P k) key f es = .fail ∨
    (∃ es' j x, delK (keyT P k) key f es = f es' ∧ Instr.findNow d ck ents i = some (some (i + j, x)) ∧ MR σ es' (ents.eraseIdx j)) ∨
    (delK (keyT P k) key f es = f es ∧ Instr.findNow d ck ents i = some none)
  | [], ents, i, f, hm => by simp only [MR] at hm; subst hm; exact .inr (.inr ⟨rfl, rfl⟩)
  | (a, y, b) :: r, ents, i, f, hm => by
    obtain ⟨e, l', rfl, h1, h2, h3, h4⟩ := hm
    rw [delK]
    cases he : aeq (keyT P k) key a with
    | yes =>
      obtain ⟨h5, h6⟩ := key_same hd hk h1 (v := true) he
      exact .inr (.inl ⟨_, 0, e.val, rfl, by simp [Instr.findNow, h5], by simpa using h4⟩)
    | nope =>
      have := (key_same hd hk h1 (v := false) he).1
      rcases delK_ok hd hk r l' (i + 1) (fun l => f ((a, y, b) :: l)) h4 with h5 | ⟨es', j, x, h5, h6, h7⟩ | ⟨h5, h6⟩
      · exact .inl h5
      · refine .inr (.inl ⟨_, j + 1, x, h5, by simp [Instr.findNow, this, h6, Nat.add_assoc, Nat.add_comm 1], ?_⟩)
        simp only [List.eraseIdx_cons_succ]
        exact ⟨e, _, rfl, h1, h2, h3, h7⟩
      · exact .inr (.inr ⟨h5, by simp [Instr.findNow, this, h6]⟩)
    | dunno => exact .inl rfl
theorem MR.push : ∀ {es : List (AV × AV × Nat)} {ents : List MapEntry} {k v : AV} {e : MapEntry}, MR σ es ents → VR σ k e.key → VR σ v e.val → MR σ (es ++ [(k, v, e.born)]) (ents ++ [e])
  | [], ents, k, v, e, hm, hk, hv => by simp only [MR] at hm; subst hm; exact ⟨e, [], rfl, hk, hv, rfl, rfl⟩
  | (a, y, b) :: r, ents, k, v, e, hm, hk, hv => by
    obtain ⟨e', l', rfl, h1, h2, h3, h4⟩ := hm
    exact ⟨e', _, rfl, h1, h2, h3, MR.push h4 hk hv⟩
theorem run_findKey {k : TypeId} {d : TypeDesc} (hd : P.underlying k = some d) {ck : Value} {es : List MapEntry} {r : Option (Nat × Value)} (hf : Instr.findNow d ck es 0 = some r) : (Instr.findKey k ck es).run P w = .ok r w := by
  simp [Instr.findKey, run_und hd, hf]
theorem oLookup_ok (hr : HR P σ h.t.get w) {e : T} {t k el : TypeId} {z : AV} {ok : Bool} {m x : Ev} {cm cx : Value} (ht : P.underlying t = some (.map k el)) (hk : keyT P k ≠ .no) (hz : zero P el = some z) (hm : VR σ (m.ev e) cm) (hx : VR σ (x.ev e) cx) :
    OSd P σ h w (do pure (Next.value (← Instr.lookup t cm cx ok))) ((oLookup (keyT P k) z ok m x).run e h) := by
  obtain ⟨d, hd, hs⟩ := key_und hk
  obtain ⟨i, cz, hi, hiz, hvz⟩ := zero_ok (σ := σ) hz
  have miss : VR σ (bif ok then .tup [z, .bool false] else z) (if ok then .tuple #[cz, .bool false] else cz) := by
    cases ok
    · exact hvz
    · simp only [cond_true, if_true, VR]
      exact ⟨_, rfl, VRs.cons hvz (VRs.cons (by simp [VR]) VRs.nil)⟩
  cases hv : m.ev e <;> rw [hv] at hm <;> simp only [oLookup, hv] <;> try trivial
  · simp only [VR] at hm; subst hm
    refine osd_v ?_ miss (Aft.refl hr)
    have h1 := run_checkKey (w := w) hd hs 9999 true cx
    have h2 : (Instr.findKey k cx []).run P w = .ok none w := run_findKey hd rfl
    simp only [Instr.lookup, Sem.run_bind, run_und ht, Result.andThen_ok, Sem.run_pure]
    simp [h1, h2, run_zero hi hiz]
  · rename_i r
    simp only [VR] at hm
    obtain ⟨L, hL, rfl⟩ := hm
    let H : AV → OR := fun v => .val (bif ok then .tup [v, .bool true] else v) h
    let M : OR := .val (bif ok then .tup [z, .bool false] else z) h
    show OSd P σ h w _ (onMapO (h.t.get r) fun es _ => findK (keyT P k) (x.ev e) H M es)
    rcases onMapO_cases (h.t.get r) (fun es _ => findK (keyT P k) (x.ev e) H M es) with h0 | ⟨es, cl, hm, h0⟩
    · rw [h0]; trivial
    rw [h0]
    obtain ⟨ents, hb, hmr⟩ := map_of hr hm hL
    have h1 := run_checkKey (w := w) hd hs 9999 ents.isEmpty cx
    have hg := run_getObj_at (P := P) hb not_cells_map
    rcases findK_ok hd hx H M es ents.toList 0 hmr with h2 | ⟨v, cv, j, h2, h3, h4⟩ | ⟨h2, h3⟩
    · rw [h2]; trivial
    · rw [h2]
      have h5 := run_findKey (P := P) (w := w) hd h3
      refine osd_v (c := if ok then .tuple #[cv, .bool true] else cv) ?_ ?_ (Aft.refl hr)
      · simp only [Instr.lookup, Sem.run_bind, run_und ht, Result.andThen_ok, Sem.run_pure, hg]
        simp [h1, h5]
      · cases ok
        · exact h4
        · simp only [cond_true, if_true, VR]
          exact ⟨_, rfl, VRs.cons h4 (VRs.cons (by simp [VR]) VRs.nil)⟩
    · rw [h2]
      have h5 := run_findKey (P := P) (w := w) hd h3
      refine osd_v ?_ miss (Aft.refl hr)
      simp only [Instr.lookup, Sem.run_bind, run_und ht, Result.andThen_ok, Sem.run_pure, hg]
      simp [h1, h5, run_zero hi hiz]
theorem run_keyStays {a b : Value} (hb : Instr.sameBits 10000 a b = true) : (Instr.keyThatStays a b).run P w = .ok b w := by
  unfold Instr.keyThatStays
  rw [if_pos hb]; rfl
theorem modify_set (ents : Array MapEntry) (j : Nat) {e : MapEntry} (he : ents.toList[j]? = some e) (f : MapEntry → MapEntry) : (ents.modify j f).toList = ents.toList.set j (f e) := by
  apply List.ext_getElem?
  intro i
  rw [Array.getElem?_toList, Array.getElem?_modify, List.getElem?_set]
  have hj : j < ents.size := by
    have := (List.getElem?_eq_some_iff.1 he).1
    simpa using this
  by_cases hi : j = i
  · subst hi
    have : ents[j]? = some e := by simpa using he
    have hj' : j < ents.toList.length := by simpa using hj
    rw [if_pos rfl, if_pos rfl, if_pos hj', this]; rfl
  · simp [hi]
theorem oMapUpd_ok (hr : HR P σ h.t.get w) {e : T} {t k el : TypeId} {m x y : Ev} {cm cx cy : Value} (ht : P.underlying t = some (.map k el)) (hk : keyT P k ≠ .no) (hm : VR σ (m.ev e) cm) (hx : VR σ (x.ev e) cx) (hy : VR σ (y.ev e) cy) :
    OSd P σ h w (do Instr.mapUpdate t cm cx cy; pure Next.skip) ((oMapUpd (keyT P k) m x y).run e h) := by
  obtain ⟨d, hd, hs⟩ := key_und hk
  let G : Nat → List (AV × AV × Nat) → Nat → OR := fun r es c => .val (.tup []) (h.put r (.map es c))
  let F : Nat → OR := fun r => onMapO (h.t.get r) fun es c => updK (keyT P k) (x.ev e) (y.ev e) c (G r) es
  show OSd P σ h w _ ((m.ev e).onMap F)
  rcases onMap_cases (m.ev e) F with h0 | ⟨r, hv, h0⟩
  · rw [h0]; trivial
  rw [h0]; rw [hv] at hm; simp only [VR] at hm
  obtain ⟨L, hL, rfl⟩ := hm
  show OSd P σ h w _ (onMapO (h.t.get r) fun es c => updK (keyT P k) (x.ev e) (y.ev e) c (G r) es)
  rcases onMapO_cases (h.t.get r) (fun es c => updK (keyT P k) (x.ev e) (y.ev e) c (G r) es) with h1 | ⟨es, cl, hm, h1⟩
  · rw [h1]; trivial
  rw [h1]
  obtain ⟨ents, hb, hmr⟩ := map_of hr hm hL
  have hck := run_checkKey (w := w) hd hs 9999 false cx
  have hg := run_getObj_at (P := P) hb not_cells_map
  rcases updK_ok hd hx hy cl es ents.toList 0 (G r) hmr with h2 | ⟨es', j, e', x', h2, h3, h4, h5, h6⟩ | ⟨h2, h3⟩
  · rw [h2]; trivial
  · rw [h2]
    have hfk := run_findKey (P := P) (w := w) hd h3
    have hk0 : (((ents[j]?).map (·.key)).getD cx) = e'.key := by
      have : ents[j]? = some e' := by simpa using h4
      simp [this]
    have hst := run_keyStays (P := P) (w := w) h5
    have hso := run_setObj_at (P := P) (n := .map (ents.modify j fun e => { e with key := cx, val := cy }) cl) hb not_cells_map
    refine osd_u (w' := wset w L.blk (.map (ents.modify j fun e => { e with key := cx, val := cy }) cl)) ?_ (Aft.mkPut hr hm hL rfl (obj := .map (ents.modify j fun e => { e with key := cx, val := cy }) cl) ⟨_, rfl, by rw [modify_set ents j h4]; exact h6⟩ rfl ⟨rfl, rfl, rfl⟩)
    simp only [Instr.mapUpdate, Sem.run_bind, run_und ht, Result.andThen_ok, hg, hck, hfk, Nat.zero_add, hk0, hst, hso]
  · rw [h2]
    have hfk := run_findKey (P := P) (w := w) hd h3
    have hso := run_setObj_at (P := P) (n := .map (ents.push { key := cx, val := cy, born := cl }) (cl + 1)) hb not_cells_map
    refine osd_u (w' := wset w L.blk (.map (ents.push { key := cx, val := cy, born := cl }) (cl + 1))) ?_ (Aft.mkPut hr hm hL rfl (obj := .map (ents.push { key := cx, val := cy, born := cl }) (cl + 1)) ⟨_, rfl, by rw [Array.toList_push]; exact MR.push (e := { key := cx, val := cy, born := cl }) hmr hx hy⟩ rfl ⟨rfl, rfl, rfl⟩)
    simp only [Instr.mapUpdate, Sem.run_bind, run_und ht, Result.andThen_ok, hg, hck, hfk, hso]
theorem oDelete_ok (hr : HR P σ h.t.get w) {e : T} {t ty k el : TypeId} {ts : List TypeId} {xs : List Value} {m x : Ev} {cm cx : Value} (ht : P.underlying t = some (.map k el)) (hk : keyT P k ≠ .no) (hm : VR σ (m.ev e) cm) (hx : VR σ (x.ev e) cx) :
    OSd P σ h w (do pure (Next.value (← Builtin.delete_ ⟨t :: ts⟩ ty ⟨cm :: cx :: xs⟩))) ((oDelete (keyT P k) m x).run e h) := by
  obtain ⟨d, hd, hs⟩ := key_und hk
  let G : Nat → Nat → List (AV × AV × Nat) → OR := fun r c es => .val (.tup []) (h.put r (.map es c))
  let F : Nat → OR := fun r => onMapO (h.t.get r) fun es c => delK (keyT P k) (x.ev e) (G r c) es
  show OSd P σ h w _ ((m.ev e).onMap F)
  rcases onMap_cases (m.ev e) F with h0 | ⟨r, hv, h0⟩
  · rw [h0]; trivial
  rw [h0]; rw [hv] at hm; simp only [VR] at hm
  obtain ⟨L, hL, rfl⟩ := hm
  show OSd P σ h w _ (onMapO (h.t.get r) fun es c => delK (keyT P k) (x.ev e) (G r c) es)
  rcases onMapO_cases (h.t.get r) (fun es c => delK (keyT P k) (x.ev e) (G r c) es) with h1 | ⟨es, cl, hm, h1⟩
  · rw [h1]; trivial
  rw [h1]
  obtain ⟨ents, hb, hmr⟩ := map_of hr hm hL
  have hck := run_checkKey (w := w) hd hs 9999 ents.isEmpty cx
  have hg := run_getObj_at (P := P) hb not_cells_map
  have tnil : VR σ (.tup []) (.tuple #[]) := by simp only [VR]; exact ⟨_, rfl, VRs.nil⟩
  rcases delK_ok hd hx es ents.toList 0 (G r cl) hmr with h2 | ⟨es', j, x', h2, h3, h6⟩ | ⟨h2, h3⟩
  · rw [h2]; trivial
  · rw [h2]
    have hfk := run_findKey (P := P) (w := w) hd h3
    have hso := run_setObj_at (P := P) (n := .map (ents.eraseIdxIfInBounds j) cl) hb not_cells_map
    refine osd_v (w' := wset w L.blk (.map (ents.eraseIdxIfInBounds j) cl)) (c := .tuple #[]) ?_ tnil (Aft.mkPut hr hm hL rfl (obj := .map (ents.eraseIdxIfInBounds j) cl) ⟨_, rfl, by simpa using h6⟩ rfl ⟨rfl, rfl, rfl⟩)
    simp [Builtin.delete_, run_und ht, hg, hck, hfk, hso]
  · rw [h2]
    have hfk := run_findKey (P := P) (w := w) hd h3
    have hso := run_setObj_at (P := P) (n := .map ents cl) hb not_cells_map
    refine osd_v (w' := wset w L.blk (.map ents cl)) (c := .tuple #[]) ?_ tnil (Aft.mkPut hr hm hL rfl (obj := .map ents cl) ⟨_, rfl, hmr⟩ rfl ⟨rfl, rfl, rfl⟩)
    simp [Builtin.delete_, run_und ht, hg, hck, hfk, hso]
theorem oClearM_ok (hr : HR P σ h.t.get w) {e : T} {t ty k el : TypeId} {ts : List TypeId} {xs : List Value} {m : Ev} {cm : Value} (ht : P.underlying t = some (.map k el)) (hm : VR σ (m.ev e) cm) :
    OSd P σ h w (do pure (Next.value (← Builtin.clear_ ⟨t :: ts⟩ ty ⟨cm :: xs⟩))) ((oClearM m).run e h) := by
  let F : Nat → OR := fun r => onMapO (h.t.get r) fun _ c => .val (.tup []) (h.put r (.map [] c))
  show OSd P σ h w _ ((m.ev e).onMap F)
  rcases onMap_cases (m.ev e) F with h0 | ⟨r, hv, h0⟩
  · rw [h0]; trivial
  rw [h0]; rw [hv] at hm; simp only [VR] at hm
  obtain ⟨L, hL, rfl⟩ := hm
  show OSd P σ h w _ (onMapO (h.t.get r) fun _ c => .val (.tup []) (h.put r (.map [] c)))
  rcases onMapO_cases (h.t.get r) (fun _ c => .val (.tup []) (h.put r (.map [] c))) with h1 | ⟨es, cl, hm, h1⟩
  · rw [h1]; trivial
  rw [h1]
  obtain ⟨ents, hb, hmr⟩ := map_of hr hm hL
  have hg := run_getObj_at (P := P) hb not_cells_map
  have tnil : VR σ (.tup []) (.tuple #[]) := by simp only [VR]; exact ⟨_, rfl, VRs.nil⟩
  have hso := run_setObj_at (P := P) (n := .map #[] cl) hb not_cells_map
  refine osd_v (w' := wset w L.blk (.map #[] cl)) (c := .tuple #[]) ?_ tnil (Aft.mkPut hr hm hL rfl (obj := .map #[] cl) ⟨_, rfl, by simp [MR]⟩ rfl ⟨rfl, rfl, rfl⟩)
  simp [Builtin.clear_, run_und ht, hg, hso]

/-! ranges -/
theorem oRangeS_ok (hr : HR P σ h.t.get w) (hf : ∀ k, σ h.next k = none) {e : T} {t : TypeId} {x : Ev} {c : Value} (ht : P.underlying t = some .string) (hx : VR σ (x.ev e) c) :
    OSd P σ h w (do pure (Next.value (← Instr.range t c))) ((oRangeS x).run e h) := by
  show OSd P σ h w _ ((x.ev e).onStr fun s => .val (.ptr h.next 0 0) (h.new (.strIter s 0)))
  rcases onStr_cases (x.ev e) (fun s => .val (.ptr h.next 0 0) (h.new (.strIter s 0))) with h0 | ⟨s, hv, h0⟩
  · rw [h0]; trivial
  rw [h0]; rw [hv] at hx; simp only [VR] at hx; subst hx
  refine osd_v (w' := wnew w (.stringIter ⟨⟨s⟩⟩ 0)) (c := .pointer (some ⟨w.heap.size, 0, none⟩)) ?_ (vr_newptr (L := ⟨w.heap.size, 0, 0⟩) rfl) (Aft.mkNew (sz := 0) hr hf rfl ⟨rfl, rfl⟩ rfl ⟨rfl, rfl, rfl⟩)
  simp [Instr.range, run_und ht, wnew]
theorem oRangeM_ok (hr : HR P σ h.t.get w) (hf : ∀ k, σ h.next k = none) {e : T} {t k el : TypeId} {x : Ev} {c : Value} (ht : P.underlying t = some (.map k el)) (hx : VR σ (x.ev e) c) :
    OSd P σ h w (do pure (Next.value (← Instr.range t c))) ((oRangeM x).run e h) := by
  cases hv : x.ev e <;> rw [hv] at hx <;> simp only [oRangeM, hv] <;> try trivial
  · simp only [VR] at hx; subst hx
    refine osd_v (w' := wnew w (.mapIter none 0 #[] 0)) (c := .pointer (some ⟨w.heap.size, 0, none⟩)) ?_ (vr_newptr (L := ⟨w.heap.size, 0, 0⟩) rfl) (Aft.mkNew (sz := 0) hr hf rfl ⟨rfl, none, #[], rfl, rfl, rfl⟩ rfl ⟨rfl, rfl, rfl⟩)
    simp [Instr.range, run_und ht, wnew]
  · rename_i r
    simp only [VR] at hx
    obtain ⟨L, hL, rfl⟩ := hx
    rcases onMapO_cases (h.t.get r) (fun _ c => .val (.ptr h.next 0 0) (h.new (.mapIter (some r) c [] c))) with h0 | ⟨es, cl, hm, h0⟩
    · rw [h0]; trivial
    rw [h0]
    obtain ⟨ents, hb, hmr⟩ := map_of hr hm hL
    have hg := run_getObj_at (P := P) hb not_cells_map
    refine osd_v (w' := wnew w (.mapIter (some L.blk) cl #[] cl)) (c := .pointer (some ⟨w.heap.size, 0, none⟩)) ?_ (vr_newptr (L := ⟨w.heap.size, 0, 0⟩) rfl)
      (Aft.mkNew (sz := 0) hr hf rfl ⟨rfl, some L.blk, #[], rfl, rfl, L, Sg.le_set (hf 0) _ _ _ hL, rfl⟩ rfl ⟨rfl, rfl, rfl⟩)
    simp [Instr.range, run_und ht, wnew, hg]
end
end Go.Rk

namespace Go.Rk
open Go
set_option linter.unusedVariables false
set_option linter.unusedSimpArgs false
set_option linter.constructorNameAsVariable false
section
variable {P : Program} {σ : Sg} {h : Heap} {w : World}

/-! steps of a range -/
theorem nextS_ok (hr : HR P σ h.t.get w) {r : Nat} {s : List UInt8} {pos : Nat} {L : Loc} {ty : TypeId} (hg : h.t.get r = some (.strIter s pos)) (hL : σ r 0 = some L) (h0 : L.sh = 0) (hb : w.heap[L.blk]? = some (.stringIter ⟨⟨s⟩⟩ pos)) :
    OSd P σ h w (do pure (Next.value (← Instr.next (.pointer (some ⟨L.blk, 0, none⟩)) true ty))) (nextS h r s pos) := by
  have hgo := run_getObj_at (P := P) hb (by intro _ _ _ h; cases h)
  unfold nextS
  cases hlt : Nat.blt pos s.length with
  | true =>
    have hlt' := blt_iff.1 hlt
    have hso := run_setObj_at (P := P) (n := .stringIter ⟨⟨s⟩⟩ (pos + (decodeAt (s.drop pos)).2)) hb (by intro _ _ _ h; cases h)
    refine osd_v (w' := wset w L.blk (.stringIter ⟨⟨s⟩⟩ (pos + (decodeAt (s.drop pos)).2))) (c := .tuple #[.bool true, .int .i64 pos, .int .i32 (decodeAt (s.drop pos)).1]) ?_ ?_
      (Aft.mkPut hr hg hL rfl (obj := .stringIter ⟨⟨s⟩⟩ (pos + (decodeAt (s.drop pos)).2)) ⟨h0, rfl⟩ rfl ⟨rfl, rfl, rfl⟩)
    · simp [Instr.next, hgo, size_mk, hlt', decode_at, hso, goInt]
    · simp only [VR]
      exact ⟨_, rfl, VRs.cons (by simp [VR]) (VRs.cons (by simp [VR]) (VRs.cons (by simp [VR]) VRs.nil))⟩
  | false =>
    have hlt' : ¬ pos < s.length := fun x => by rw [blt_iff.2 x] at hlt; cases hlt
    refine osd_v (c := .tuple #[.bool false]) ?_ ?_ (Aft.refl hr)
    · simp [Instr.next, hgo, size_mk, hlt']
    · simp only [VR]
      exact ⟨_, rfl, VRs.cons (by simp [VR]) VRs.nil⟩
theorem memN_eq (n : Nat) : ∀ l : List Nat, memN n l = l.contains n
  | [] => rfl
  | a :: l => by
    rw [memN, List.contains_cons, memN_eq n l]
    cases e : Nat.beq a n with
    | true => have := Nat.eq_of_beq_eq_true e; subst this; simp
    | false =>
      have : ¬ n = a := fun h => by subst h; simp at e
      simp [this]
theorem MR.filter {p : AV × AV × Nat → Bool} {q : MapEntry → Bool} (hpq : ∀ k v e, p (k, v, e.born) = q e) : ∀ {es : List (AV × AV × Nat)} {ents : List MapEntry}, MR σ es ents → MR σ (es.filter p) (ents.filter q)
  | [], _, h => by simp only [MR] at h; subst h; simp [MR]
  | (k, v, b) :: r, _, h => by
    obtain ⟨e, l', rfl, h1, h2, h3, h4⟩ := h
    subst h3
    have := MR.filter hpq h4
    cases hp : p (k, v, e.born) with
    | true =>
      rw [List.filter_cons_of_pos hp, List.filter_cons_of_pos (by rw [← hpq k v]; exact hp)]
      exact ⟨e, _, rfl, h1, h2, rfl, this⟩
    | false =>
      rw [List.filter_cons_of_neg (by simp [hp]), List.filter_cons_of_neg (by rw [← hpq k v]; simp [hp])]
      exact this
theorem MR.all {p : AV × AV × Nat → Bool} {q : MapEntry → Bool} (hpq : ∀ k v e, p (k, v, e.born) = q e) : ∀ {es : List (AV × AV × Nat)} {ents : List MapEntry}, MR σ es ents → es.all p = ents.all q
  | [], _, h => by simp only [MR] at h; subst h; rfl
  | (k, v, b) :: r, _, h => by
    obtain ⟨e, l', rfl, h1, h2, h3, h4⟩ := h
    subst h3
    rw [List.all_cons, List.all_cons, MR.all hpq h4, hpq]
theorem nextM_ok (hr : HR P σ h.t.get w) {r m since last clock : Nat} {seen : List Nat} {seen' : Array Nat} {es : List (AV × AV × Nat)} {ents : Array MapEntry} {L M : Loc} {ty : TypeId}
    (hg : h.t.get r = some (.mapIter (some m) since seen last)) (hL : σ r 0 = some L) (h0 : L.sh = 0) (hs : seen'.toList = seen.reverse) (hM : σ m 0 = some M) (hb : w.heap[L.blk]? = some (.mapIter (some M.blk) since seen' last))
    (hmb : w.heap[M.blk]? = some (.map ents clock)) (hmr : MR σ es ents.toList) :
    OSd P σ h w (do pure (Next.value (← Instr.next (.pointer (some ⟨L.blk, 0, none⟩)) false ty))) (nextM h r m since last seen es clock) := by
  have hgo := run_getObj_at (P := P) hb (by intro _ _ _ h; cases h)
  have hgm := run_getObj_at (P := P) hmb not_cells_map
  unfold nextM
  cases hbad : badM seen es last with
  | true => trivial
  | false =>
  have hse : seen'.isEmpty = seen.isEmpty := by
    rw [← Array.isEmpty_toList, hs]; simp
  have hee : ents.isEmpty = es.isEmpty := by
    rw [← Array.isEmpty_toList]
    have := hmr.len
    cases es <;> cases hx : ents.toList <;> rw [hx] at this <;> simp at this ⊢
  have hall : (ents.all fun e => decide (e.born ≥ last)) = es.all fun x => Nat.ble last x.2.2 := by
    rw [← Array.all_toList]
    refine (MR.all (fun k v e => ?_) hmr).symm
    rw [Bool.eq_iff_iff, ble_iff]; simp
  have hgood : (!seen'.isEmpty && !ents.isEmpty && ents.all fun e => decide (e.born ≥ last)) = false := by
    rw [hse, hee, hall]
    unfold badM at hbad
    cases seen <;> cases es <;> simp_all
  have hfil : MR σ (es.filter fun x => !memN x.2.2 seen) (ents.filter fun e => !seen'.contains e.born).toList := by
    rw [Array.toList_filter]
    refine MR.filter (fun k v e => ?_) hmr
    rw [memN_eq, ← Array.contains_toList, hs]
    simp
  show OSd P σ h w _ (match es.filter fun x => !memN x.2.2 seen with
    | [] => .val (.tup [.bool false]) h
    | [(k, v, b)] => bif Nat.blt b since then .val (.tup [.bool true, k, v]) (h.put r (.mapIter (some m) since (b :: seen) clock)) else .fail
    | _ => .fail)
  generalize hA : (ents.filter fun e => !seen'.contains e.born) = A at hfil
  cases hE : es.filter fun x => !memN x.2.2 seen with
  | nil =>
    rw [hE] at hfil
    simp only [MR] at hfil
    have hA0 : A = #[] := by simpa using hfil
    subst hA0
    refine osd_v (c := .tuple #[.bool false]) ?_ (by simp only [VR]; exact ⟨_, rfl, VRs.cons (by simp [VR]) VRs.nil⟩) (Aft.refl hr)
    simp only [Instr.next, Sem.run_bind, hgo, hgm, Result.andThen_ok, hgood, Bool.false_eq_true, if_false, hA]
    simp [Question.forced]
  | cons x rest =>
    obtain ⟨k, v, b⟩ := x
    cases rest with
    | cons => trivial
    | nil =>
      rw [hE] at hfil
      obtain ⟨e, l', hAe, h1, h2, h3, h4⟩ := hfil
      simp only [MR] at h4; subst h4; subst h3
      have hA1 : A = #[e] := by
        apply Array.ext'; simpa using hAe
      subst hA1
      rcases cond_fail (b := Nat.blt e.born since) (x := .val (.tup [.bool true, k, v]) (h.put r (.mapIter (some m) since (e.born :: seen) clock))) with h5 | ⟨h6, h5⟩
      · exact (congrArg (OSd P σ h w _) h5).mpr trivial
      refine (congrArg (OSd P σ h w _) h5).mpr ?_
      have h6 := blt_iff.1 h6
      have hso := run_setObj_at (P := P) (n := .mapIter (some M.blk) since (seen'.push e.born) clock) hb (by intro _ _ _ h; cases h)
      refine osd_v (w' := wset w L.blk (.mapIter (some M.blk) since (seen'.push e.born) clock)) (c := .tuple #[.bool true, e.key, e.val]) ?_ (by simp only [VR]; exact ⟨_, rfl, VRs.cons (by simp [VR]) (VRs.cons h1 (VRs.cons h2 VRs.nil))⟩)
        (Aft.mkPut hr hg hL rfl (obj := .mapIter (some M.blk) since (seen'.push e.born) clock) ⟨h0, some M.blk, _, rfl, by simp [hs], M, hM, rfl⟩ rfl ⟨rfl, rfl, rfl⟩)
      have hold : (#[e].filter fun e => decide (e.born < since)) = #[e] := by
        apply Array.ext'; simp [h6]
      have hnew : (#[e].filter fun e => decide (e.born ≥ since)) = #[] := by
        apply Array.ext'; simp; omega
      simp only [Instr.next, Sem.run_bind, hgo, hgm, Result.andThen_ok, hgood, Bool.false_eq_true, if_false, hA, hold, hnew]
      simp [Question.forced, hso]
theorem oNext_ok (hr : HR P σ h.t.get w) {e : T} {isStr : Bool} {x : Ev} {c : Value} {ty : TypeId} (hx : VR σ (x.ev e) c) :
    OSd P σ h w (do pure (Next.value (← Instr.next c isStr ty))) ((oNext isStr x).run e h) := by
  let F : Nat → Nat → Nat → OR := fun r g o => bif Nat.beq g 0 && Nat.beq o 0 then nextO h r (h.t.get r) isStr else .fail
  show OSd P σ h w _ ((x.ev e).onPtr F)
  rcases onPtr_cases (x.ev e) F with h0 | ⟨r, g, o, hv, h0⟩
  · rw [h0]; trivial
  rw [h0]; rw [hv] at hx
  rcases cond_fail (b := Nat.beq g 0 && Nat.beq o 0) (x := nextO h r (h.t.get r) isStr) with h1 | ⟨hc, h1⟩
  · exact (congrArg (OSd P σ h w _) h1).mpr trivial
  refine (congrArg (OSd P σ h w _) h1).mpr ?_
  rw [Bool.and_eq_true] at hc
  have hg0 := Nat.eq_of_beq_eq_true hc.1
  have ho0 := Nat.eq_of_beq_eq_true hc.2
  subst hg0; subst ho0
  simp only [VR] at hx
  obtain ⟨L, hL, _, rfl⟩ := hx
  rw [Nat.zero_sub]
  cases hgt : h.t.get r with
  | none => cases isStr <;> trivial
  | some ob =>
    cases ob with
    | strIter s pos =>
      cases isStr with
      | false => trivial
      | true =>
        obtain ⟨L', hL', hsh, hb⟩ := hr.obj r _ hgt
        simp only [genOf] at hL'
        rw [hL] at hL'; cases hL'
        exact nextS_ok hr hgt hL hsh hb
    | mapIter m since seen last =>
      cases isStr with
      | true => cases m <;> trivial
      | false =>
        obtain ⟨L', hL', hsh, m', seen', hb, hs, hm⟩ := hr.obj r _ hgt
        simp only [genOf] at hL'
        rw [hL] at hL'; cases hL'
        cases m with
        | none =>
          simp only [] at hm
          subst hm
          refine osd_v (c := .tuple #[.bool false]) ?_ (by simp only [VR]; exact ⟨_, rfl, VRs.cons (by simp [VR]) VRs.nil⟩) (Aft.refl hr)
          simp [Instr.next, run_getObj_at (P := P) hb (by intro _ _ _ h; cases h)]
        | some m =>
          obtain ⟨M, hM, rfl⟩ := hm
          show OSd P σ h w _ (onMapO (h.t.get m) fun es clock => nextM h r m since last seen es clock)
          rcases onMapO_cases (h.t.get m) (fun es clock => nextM h r m since last seen es clock) with h2 | ⟨es, cl, hm, h2⟩
          · rw [h2]; trivial
          rw [h2]
          obtain ⟨ents, hmb, hmr⟩ := map_of hr hm hM
          exact nextM_ok hr hgt hL hsh hs hM hb hmb hmr
    | _ => cases isStr <;> trivial
theorem findB_ok (b : Nat) (f : AV → AV → OR) : ∀ (es : List (AV × AV × Nat)) (ents : List MapEntry), MR σ es ents → findB b f es = .fail ∨ ∃ k v e, findB b f es = f k v ∧ ents.find? (·.born == b) = some e ∧ VR σ k e.key ∧ VR σ v e.val
  | [], _, _ => .inl rfl
  | (k, v, c) :: r, _, h => by
    obtain ⟨e, l', rfl, h1, h2, h3, h4⟩ := h
    subst h3
    rw [findB]
    cases hc : Nat.beq e.born b with
    | true =>
      have := Nat.eq_of_beq_eq_true hc
      exact .inr ⟨k, v, e, rfl, by simp [this], h1, h2⟩
    | false =>
      have : (e.born == b) = false := by
        cases hx : (e.born == b) with
        | false => rfl
        | true => have := eq_of_beq hx; rw [this] at hc; simp at hc
      rcases findB_ok b f r l' h4 with h5 | ⟨k', v', e', h5, h6, h7⟩
      · exact .inl h5
      · exact .inr ⟨k', v', e', h5, by rw [List.find?_cons, this]; exact h6, h7⟩
theorem oEntry_ok (hr : HR P σ h.t.get w) {e : T} {x : Ev} {c : Value} (hx : VR σ (x.ev e) c) :
    OSd P σ h w (do pure (Next.value (← Instr.entry c))) ((oEntry x).run e h) := by
  let F : Nat → Nat → Nat → OR := fun r g o => bif Nat.beq g 0 && Nat.beq o 0 then entryO h (h.t.get r) else .fail
  show OSd P σ h w _ ((x.ev e).onPtr F)
  rcases onPtr_cases (x.ev e) F with h0 | ⟨r, g, o, hv, h0⟩
  · rw [h0]; trivial
  rw [h0]; rw [hv] at hx
  rcases cond_fail (b := Nat.beq g 0 && Nat.beq o 0) (x := entryO h (h.t.get r)) with h1 | ⟨hc, h1⟩
  · exact (congrArg (OSd P σ h w _) h1).mpr trivial
  refine (congrArg (OSd P σ h w _) h1).mpr ?_
  rw [Bool.and_eq_true] at hc
  have hg0 := Nat.eq_of_beq_eq_true hc.1
  have ho0 := Nat.eq_of_beq_eq_true hc.2
  subst hg0; subst ho0
  simp only [VR] at hx
  obtain ⟨L, hL, _, rfl⟩ := hx
  rw [Nat.zero_sub]
  cases hgt : h.t.get r with
  | none => trivial
  | some ob =>
    cases ob with
    | mapIter m since seen last =>
      cases m with
      | none => trivial
      | some m =>
      cases seen with
      | nil => trivial
      | cons s seen =>
        obtain ⟨L', hL', hsh, m', seen', hb, hs, hm⟩ := hr.obj r _ hgt
        simp only [genOf] at hL'
        rw [hL] at hL'; cases hL'
        obtain ⟨M, hM, rfl⟩ := hm
        let G : AV → AV → OR := fun k v => .val (.tup [k, v]) h
        show OSd P σ h w _ (onMapO (h.t.get m) fun es clock => bif Nat.beq clock last then findB s G es else .fail)
        rcases onMapO_cases (h.t.get m) (fun es clock => bif Nat.beq clock last then findB s G es else .fail) with h2 | ⟨es, cl, hm, h2⟩
        · rw [h2]; trivial
        rw [h2]
        obtain ⟨ents, hmb, hmr⟩ := map_of hr hm hM
        rcases cond_fail (b := Nat.beq cl last) (x := findB s G es) with h3 | ⟨hcl, h3⟩
        · rw [h3]; trivial
        rw [h3]
        have hcl := Nat.eq_of_beq_eq_true hcl
        subst hcl
        rcases findB_ok s G es ents.toList hmr with h4 | ⟨k, v, en, h4, h5, h6, h7⟩
        · rw [h4]; trivial
        rw [h4]
        have hback : seen'.back? = some s := by
          rw [← Array.getLast?_toList, hs]; simp
        refine osd_v (c := .tuple #[en.key, en.val]) ?_ (by simp only [VR]; exact ⟨_, rfl, VRs.cons h6 (VRs.cons h7 VRs.nil)⟩) (Aft.refl hr)
        have hf : ents.find? (·.born == s) = some en := by rw [← Array.find?_toList]; exact h5
        simp [Instr.entry, run_getObj_at (P := P) hb (by intro _ _ _ h; cases h), run_getObj_at (P := P) hmb not_cells_map, hback, hf]
    | _ => trivial
end
end Go.Rk

namespace Go.Rk
open Go
set_option linter.unusedVariables false
set_option linter.unusedSimpArgs false
set_option linter.constructorNameAsVariable false
section
variable {P : Program} {σ : Sg} {h : Heap} {w : World}

/-! functions of the machine -/
theorem findIdxB_eq (c : UInt8) : ∀ (l : List UInt8) (i : Nat), findIdxB c l i = if Lib.indexByte l c = -1 then -1 else Lib.indexByte l c + i
  | [], i => by simp [findIdxB, Lib.indexByte]
  | b :: l, i => by
    rw [findIdxB, Lib.indexByte, findIdxB_eq c l (Nat.succ i)]
    have hge := Lib.indexByte_ge l c
    cases e : Nat.beq b.toNat c.toNat with
    | true =>
      have hb : b = c := UInt8.toNat_inj.1 (Nat.eq_of_beq_eq_true e)
      subst hb; simp
    | false =>
      have hb : ¬ b = c := fun h => by subst h; simp at e
      have : (b == c) = false := by simpa using hb
      rw [this]
      simp only [cond_false, Bool.false_eq_true, if_false]
      by_cases h1 : Lib.indexByte l c = -1
      · simp [h1]
      · have : (Lib.indexByte l c == -1) = false := by simpa using h1
        rw [this]
        simp only [Bool.false_eq_true, if_false, if_neg h1]
        rw [if_neg (by omega)]
        simp only [Nat.succ_eq_add_one]; omega
theorem countB_eq (c : UInt8) : ∀ (l : List UInt8) (n : Nat), countB c l n = Lib.countByte l c + n
  | [], n => by simp [countB, Lib.countByte]
  | b :: l, n => by
    rw [countB]
    unfold Lib.countByte
    rw [List.count_cons]
    cases e : Nat.beq b.toNat c.toNat with
    | true =>
      have hb : b = c := UInt8.toNat_inj.1 (Nat.eq_of_beq_eq_true e)
      subst hb
      simp only [cond_true, countB_eq b l, Lib.countByte]
      simp; omega
    | false =>
      have hb : ¬ b = c := fun h => by subst h; simp at e
      simp only [cond_false, countB_eq c l, Lib.countByte]
      simp [hb]
theorem xIndexByte_ok (hr : HR P σ h.t.get w) {e : T} {x y : Ev} {cx cy : Value} (hx : VR σ (x.ev e) cx) (hy : VR σ (y.ev e) cy) :
    OSd P σ h w (do pure (Next.value (← Extern.BytealgIndexByte.indexByte #[cx, cy]))) ((xIndexByte x y).run e h) := by
  let F2 : List UInt8 → IntKind → Int → OR := fun s k c => bif keq k .u8 then .val (.int .i64 (findIdxB (UInt8.ofNat c.toNat) s 0)) h else .fail
  show OSd P σ h w _ ((x.ev e).onStr fun s => (y.ev e).onInt (F2 s))
  rcases onStr_cases (x.ev e) (fun s => (y.ev e).onInt (F2 s)) with h0 | ⟨s, hv, h0⟩
  · rw [h0]; trivial
  rw [h0]; rw [hv] at hx; simp only [VR] at hx; subst hx
  rcases onInt_cases (y.ev e) (F2 s) with h1 | ⟨k, c, hv1, h1⟩
  · rw [h1]; trivial
  rw [h1]; rw [hv1] at hy; simp only [VR] at hy; subst hy
  rcases cond_fail (b := keq k .u8) (x := .val (.int .i64 (findIdxB (UInt8.ofNat c.toNat) s 0)) h) with h2 | ⟨hk, h2⟩
  · exact (congrArg (OSd P σ h w _) h2).mpr trivial
  refine (congrArg (OSd P σ h w _) h2).mpr ?_
  have := keq_eq hk; subst this
  refine osd_v (Lib.run_indexByteString _ _ w) ?_ (Aft.refl hr)
  simp only [VR, findIdxB_eq]
  have : c.toNat.toUInt8 = UInt8.ofNat c.toNat := rfl
  rw [this]
  by_cases h1 : Lib.indexByte s (UInt8.ofNat c.toNat) = -1
  · simp [h1]
  · simp [h1]
theorem xCount_ok (hr : HR P σ h.t.get w) {e : T} {x y : Ev} {cx cy : Value} (hx : VR σ (x.ev e) cx) (hy : VR σ (y.ev e) cy) :
    OSd P σ h w (do pure (Next.value (← Extern.BytealgCount.count #[cx, cy]))) ((xCount x y).run e h) := by
  let F2 : List UInt8 → IntKind → Int → OR := fun s k c => bif keq k .u8 then .val (.int .i64 (Int.ofNat (countB (UInt8.ofNat c.toNat) s 0))) h else .fail
  show OSd P σ h w _ ((x.ev e).onStr fun s => (y.ev e).onInt (F2 s))
  rcases onStr_cases (x.ev e) (fun s => (y.ev e).onInt (F2 s)) with h0 | ⟨s, hv, h0⟩
  · rw [h0]; trivial
  rw [h0]; rw [hv] at hx; simp only [VR] at hx; subst hx
  rcases onInt_cases (y.ev e) (F2 s) with h1 | ⟨k, c, hv1, h1⟩
  · rw [h1]; trivial
  rw [h1]; rw [hv1] at hy; simp only [VR] at hy; subst hy
  rcases cond_fail (b := keq k .u8) (x := .val (.int .i64 (Int.ofNat (countB (UInt8.ofNat c.toNat) s 0))) h) with h2 | ⟨hk, h2⟩
  · exact (congrArg (OSd P σ h w _) h2).mpr trivial
  refine (congrArg (OSd P σ h w _) h2).mpr ?_
  have := keq_eq hk; subst this
  refine osd_v (Lib.run_countString _ _ w) ?_ (Aft.refl hr)
  simp only [VR, countB_eq]
  rfl
theorem digits_size : ∀ (n t : Nat) (acc : Array Value), (Extern.BytealgMakeNoZero.digits n t acc).size = acc.size + n
  | 0, t, acc => rfl
  | n + 1, t, acc => by rw [Extern.BytealgMakeNoZero.digits, digits_size n]; simp; omega
theorem VRs.undefs : ∀ (n : Nat) (l : List Value), l.length = n → VRs σ (List.replicate n .undef) l
  | 0, [], _ => VRs.nil
  | n + 1, c :: l, h => VRs.cons trivial (VRs.undefs n l (by simpa using h))
theorem xMakeNoZero_ok (hr : HR P σ h.t.get w) (hf : ∀ k, σ h.next k = none) {e : T} {x : Ev} {cx : Value} {ps rs : Array TypeId} {t el : TypeId} (hrs : rs[0]? = some t) (ht : P.underlying t = some (.slice el)) (hx : VR σ (x.ev e) cx) :
    OSd P σ h w (do pure (Next.value (← Extern.BytealgMakeNoZero.makeNoZero ps rs #[cx]))) ((xMakeNoZero el x).run e h) := by
  let R : Nat → OR := fun n => .val (.slice h.next 0 0 n n 1 false) (h.new (.cells (List.replicate n .undef) el 0 0 false))
  let F2 : IntKind → Nat → OR := fun k n => bif Nat.ble n 1099511627776 && keq k .i64 then R n else .fail
  show OSd P σ h w _ ((x.ev e).onInt fun k n => onNat n (F2 k))
  rcases onInt_cases (x.ev e) (fun k n => onNat n (F2 k)) with h0 | ⟨k, n, hv, h0⟩
  · rw [h0]; trivial
  rw [h0]; rw [hv] at hx; simp only [VR] at hx; subst hx
  rcases onNat_cases n (F2 k) with h1 | ⟨n, rfl, h1⟩
  · rw [h1]; trivial
  rw [h1]
  rcases cond_fail (b := Nat.ble n 1099511627776 && keq k .i64) (x := R n) with h2 | ⟨hc, h2⟩
  · exact (congrArg (OSd P σ h w _) h2).mpr trivial
  refine (congrArg (OSd P σ h w _) h2).mpr ?_
  rw [Bool.and_eq_true] at hc
  have hle := ble_iff.1 hc.1
  have := keq_eq hc.2; subst this
  have hcap := cut_ge n 0 el (w.tape w.drawn (.appendCap n 0 el))
  generalize hC : (Question.appendCap n 0 el).cut (w.tape w.drawn (.appendCap n 0 el)) = C at hcap
  have hq : (Question.appendCap n 0 el).forced = false := rfl
  have hq2 : (Question.extern "internal/bytealg.MakeNoZero.bytes" 0).forced = false := rfl
  generalize hD : (Question.extern "internal/bytealg.MakeNoZero.bytes" 0).cut (w.tape (w.drawn + 1) (Question.extern "internal/bytealg.MakeNoZero.bytes" 0)) = D
  let cells := Extern.BytealgMakeNoZero.digits C D #[]
  have hsz : cells.size = C := by simp [cells, digits_size]
  refine osd_v (σ' := σ.set h.next 0 ⟨w.heap.size, 0, cells.size⟩) (c := .slice (some ⟨w.heap.size, 0, none⟩) n C) (w' := { w with heap := w.heap.push (.cells cells el (0, 0)), drawn := w.drawn + 1 + 1 }) ?_ ?_
    (Aft.mkNew (sz := cells.size) hr hf rfl (ob_room (P := P) (s := false) ?_ (by simp [hsz]; omega) fz_false) rfl ⟨rfl, rfl, rfl⟩)
  · have hneg : ¬ ((n : Int) < 0) := by omega
    have hbig : ¬ ((n : Int) > 2 ^ 48) := by omega
    have hdef : Extern.BytealgMakeNoZero.makeNoZero ps rs #[.int .i64 (n : Int)] =
        (do
          let some t := rs[0]? | stuck "bytealg.MakeNoZero: no result type"
          let .slice elem ← underlying t | stuck "bytealg.MakeNoZero: slice type expected"
          if (n : Int) < 0 || (n : Int) > 2 ^ 48 then runtimePanic (.error "makeslice: len out of range")
          let cap ← choose (.appendCap (n : Int).toNat 0 elem)
          askRoom cap
          let bytes ← choose (.extern "internal/bytealg.MakeNoZero.bytes" 0)
          let a ← newRow elem (Extern.BytealgMakeNoZero.digits cap bytes #[])
          pure (.slice (some a) (n : Int).toNat cap)) := rfl
    rw [hdef]
    simp only [hrs, Sem.run_bind, run_und ht, Result.andThen_ok, decide_eq_false hneg, decide_eq_false hbig, Bool.or_false, Bool.false_eq_true, if_false, Int.toNat_natCast, run_choose, hq, hq2, hC, run_askRoom, hD, newRow, run_newObj, Sem.run_pure]
    rfl
  · simp only [VR]
    exact ⟨_, _, C, Sg.set_same _ _ _ _, rfl, Nat.le_refl _, hcap, (fun e => by cases e), .inr ⟨Nat.le_refl _, rfl, by simp [hsz]⟩⟩
  · refine VRs.undefs n _ ?_
    simp [hsz]; omega
theorem noView_ok {c : Array Value} {ty : TypeId} {fz : Nat × Nat} {a : Addr} (hb : w.heap[a.block]? = some (.cells c ty fz)) : (noView a).run P w = .ok () w := by
  simp [noView, viewAt, World.shape?, hb]
theorem plain_cells (hr : HR P σ h.t.get w) {b g : Nat} {L : Loc} {cs : List AV} {ty fz : Nat} {s : Bool} (hb : h.t.get b = some (.cells cs ty g fz s)) (hp : plainCells (h.t.get b) = true) (hL : σ b g = some L) :
    ∃ c lo, w.heap[L.blk]? = some (.cells c ty (lo, lo)) := by
  obtain ⟨L', c, lo, hi, hL', hblk, hsz, hlen, hrel, hz⟩ := cells_of hr hb
  rw [hL] at hL'; cases hL'
  rw [hb] at hp
  simp only [plainCells, Bool.and_eq_true, Bool.not_eq_true'] at hp
  have h1 := Nat.eq_of_beq_eq_true hp.1
  have h2 := hp.2
  subst h1; subst h2
  have := hz.2 rfl
  have : lo = hi := by omega
  subst this
  exact ⟨c, lo, hblk⟩
theorem frozen_no {a : Addr} {c : Array Value} {ty lo : Nat} (hb : w.heap[a.block]? = some (.cells c ty (lo, lo))) : w.frozen? a = false := by
  simp only [World.frozen?, hb]
  rw [Bool.and_eq_false_iff]
  by_cases h : lo ≤ a.off
  · right; simp; omega
  · left; simp; omega
theorem stringish_no {a : Addr} {c : Array Value} {ty lo : Nat} (hb : w.heap[a.block]? = some (.cells c ty (lo, lo))) : (stringish a).run P w = .ok false w := by
  have h1 : w.frozen? ⟨a.block, c.size, none⟩ = false := frozen_no (a := ⟨a.block, c.size, none⟩) hb
  simp [stringish, frozen_no hb, World.shape?, hb, h1]
theorem mayBeOne_no {a b : Addr} {c d : Array Value} {ty ty' lo lo' : Nat} (ha : w.heap[a.block]? = some (.cells c ty (lo, lo))) (hb : w.heap[b.block]? = some (.cells d ty' (lo', lo'))) : (mayBeOne a b).run P w = .ok false w := by
  simp [mayBeOne, stringish_no ha, stringish_no hb]
theorem xOverlaps_ok (hr : HR P σ h.t.get w) {e : T} {x y : Ev} {cx cy : Value} {ps rs : Array TypeId} {t el : TypeId} {i : TypeInfo} (hps : ps[0]? = some t) (ht : P.underlying t = some (.slice el)) (hi : P.info? el = some i) (hx : VR σ (x.ev e) cx) (hy : VR σ (y.ev e) cy) :
    OSd P σ h w (do pure (Next.value (← Extern.SlicesOverlaps.overlaps ps rs #[cx, cy]))) ((xOverlaps i.size x y).run e h) := by
  let F : Nat → Nat → Nat → Nat → Nat → Nat → Nat → Nat → OR := fun a g o la b g' o' lb =>
    bif Nat.beq la 0 || Nat.beq lb 0 || Nat.beq i.size 0 then .val (.bool false) h
    else bif Nat.beq a b then (bif Nat.beq g g' then .val (.bool (Nat.blt o (o' + lb * i.size) && Nat.blt o' (o + la * i.size))) h else .fail)
    else bif plainCells (h.t.get a) && plainCells (h.t.get b) then h.onCells a g fun _ _ _ _ => h.onCells b g' fun _ _ _ _ => .val (.bool false) h else .fail
  show OSd P σ h w _ ((x.ev e).onSlice fun a g o la _ _ _ => (y.ev e).onSlice fun b g' o' lb _ _ _ => F a g o la b g' o' lb)
  rcases onSlice_cases (x.ev e) (fun a g o la _ _ _ => (y.ev e).onSlice fun b g' o' lb _ _ _ => F a g o la b g' o' lb) with h0 | ⟨a, g, o, la, ca, es, ex, hv, h0⟩
  · rw [h0]; trivial
  rw [h0]; rw [hv] at hx
  rcases onSlice_cases (y.ev e) (fun b g' o' lb _ _ _ => F a g o la b g' o' lb) with h1 | ⟨b, g', o', lb, cb, es', ex', hv1, h1⟩
  · rw [h1]; trivial
  rw [h1]; rw [hv1] at hy
  simp only [VR] at hx hy
  obtain ⟨L, A, cc, hL, rfl, hla, hca, _, hor⟩ := hx
  obtain ⟨M, B, cc', hM, rfl, hlb, hcb, _, hor'⟩ := hy
  have hdef : Extern.SlicesOverlaps.overlaps ps rs #[.slice (some A) la cc, .slice (some B) lb cc'] =
      (do
        let some t := ps[0]? | stuck "slices.overlaps: no parameter types"
        let .slice elem ← underlying t | stuck "slices.overlaps: slice type expected"
        let size ← sizeOf elem
        if la = 0 ∨ lb = 0 ∨ size = 0 then pure (.bool false)
        else if A.block != B.block && (← frozen A) && (← frozen B) then unsupported .addressObserved
        else do
          if A.block != B.block then do
            noView A; noView B
            if ← mayBeOne A B then return .bool ((← choose (.extern "sameAddr.stringBytes" 2)) == 1)
          pure (.bool (A.block == B.block && A.off < B.off + lb * size && B.off < A.off + la * size))) := rfl
  show OSd P σ h w _ (bif Nat.beq la 0 || Nat.beq lb 0 || Nat.beq i.size 0 then .val (.bool false) h
    else bif Nat.beq a b then (bif Nat.beq g g' then .val (.bool (Nat.blt o (o' + lb * i.size) && Nat.blt o' (o + la * i.size))) h else .fail)
    else bif plainCells (h.t.get a) && plainCells (h.t.get b) then h.onCells a g fun _ _ _ _ => h.onCells b g' fun _ _ _ _ => .val (.bool false) h else .fail)
  rw [hdef]
  cases hz : Nat.beq la 0 || Nat.beq lb 0 || Nat.beq i.size 0 with
  | true =>
    have : la = 0 ∨ lb = 0 ∨ i.size = 0 := by
      simp only [Bool.or_eq_true] at hz
      rcases hz with (hz | hz) | hz
      · exact .inl (Nat.eq_of_beq_eq_true hz)
      · exact .inr (.inl (Nat.eq_of_beq_eq_true hz))
      · exact .inr (.inr (Nat.eq_of_beq_eq_true hz))
    refine osd_v (c := .bool false) ?_ (by simp only [VR]) (Aft.refl hr)
    simp only [hps, Sem.run_bind, run_und ht, run_size hi, Result.andThen_ok, if_pos this, Sem.run_pure]
  | false =>
    have hno : ¬ (la = 0 ∨ lb = 0 ∨ i.size = 0) := by
      simp only [Bool.or_eq_false_iff] at hz
      rintro (h | h | h)
      · rw [h] at hz; simp at hz
      · rw [h] at hz; simp at hz
      · rw [h] at hz; simp at hz
    rcases hor with h2 | ⟨hsh, rfl, _⟩
    · omega
    rcases hor' with h2 | ⟨hsh', rfl, _⟩
    · omega
    simp only [cond_false]
    cases hab : Nat.beq a b with
    | true =>
      have := Nat.eq_of_beq_eq_true hab; subst this
      rcases cond_fail (b := Nat.beq g g') (x := .val (.bool (Nat.blt o (o' + lb * i.size) && Nat.blt o' (o + la * i.size))) h) with h3 | ⟨hg, h3⟩
      · exact (congrArg (OSd P σ h w _) h3).mpr trivial
      refine (congrArg (OSd P σ h w _) h3).mpr ?_
      have := Nat.eq_of_beq_eq_true hg; subst this
      rw [hL] at hM; cases hM
      refine osd_v (c := .bool (Nat.blt o (o' + lb * i.size) && Nat.blt o' (o + la * i.size))) ?_ (by simp only [VR]) (Aft.refl hr)
      have e1 : decide (o - L.sh < o' - L.sh + lb * i.size) = Nat.blt o (o' + lb * i.size) := by
        rw [Bool.eq_iff_iff, blt_iff, decide_eq_true_iff]; omega
      have e2 : decide (o' - L.sh < o - L.sh + la * i.size) = Nat.blt o' (o + la * i.size) := by
        rw [Bool.eq_iff_iff, blt_iff, decide_eq_true_iff]; omega
      simp [hps, run_und ht, run_size hi, hno, e1, e2]
    | false =>
      simp only [cond_false]
      rcases cond_fail (b := plainCells (h.t.get a) && plainCells (h.t.get b)) (x := h.onCells a g fun _ _ _ _ => h.onCells b g' fun _ _ _ _ => .val (.bool false) h) with h3 | ⟨hp, h3⟩
      · exact (congrArg (OSd P σ h w _) h3).mpr trivial
      refine (congrArg (OSd P σ h w _) h3).mpr ?_
      rw [Bool.and_eq_true] at hp
      rcases onCellsH_cases (h := h) a g (fun _ _ _ _ => h.onCells b g' fun _ _ _ _ => .val (.bool false) h) with h4 | ⟨cs, ty1, fz1, s1, hA, h4⟩
      · rw [h4]; trivial
      rw [h4]
      rcases onCellsH_cases (h := h) b g' (fun _ _ _ _ => .val (.bool false) h) with h5 | ⟨cs2, ty2, fz2, s2, hB, h5⟩
      · rw [h5]; trivial
      rw [h5]
      obtain ⟨c, lo, hbA⟩ := plain_cells hr hA hp.1 hL
      obtain ⟨d, lo', hbB⟩ := plain_cells hr hB hp.2 hM
      have hne : L.blk ≠ M.blk := fun e => by
        have := hr.inj a b _ _ L M hA hB hL hM e
        subst this; simp at hab
      have hbne : (L.blk != M.blk) = true := by simpa using hne
      have hbe : (L.blk == M.blk) = false := by simpa using hne
      refine osd_v (c := .bool false) ?_ (by simp only [VR]) (Aft.refl hr)
      have f1 : w.frozen? ⟨L.blk, o - L.sh, none⟩ = false := frozen_no hbA
      have n1 : (noView ⟨L.blk, o - L.sh, none⟩).run P w = .ok () w := noView_ok hbA
      have n2 : (noView ⟨M.blk, o' - M.sh, none⟩).run P w = .ok () w := noView_ok hbB
      have m1 : (mayBeOne ⟨L.blk, o - L.sh, none⟩ ⟨M.blk, o' - M.sh, none⟩).run P w = .ok false w := mayBeOne_no hbA hbB
      simp only [hps, Sem.run_bind, run_und ht, run_size hi, Result.andThen_ok, if_neg hno, run_frozen, f1]
      simp [hne, n1, n2, m1, f1]
end
end Go.Rk

namespace Go.Rk
open Go
set_option linter.unusedVariables false
set_option linter.unusedSimpArgs false
set_option linter.constructorNameAsVariable false
section
variable {P : Program} {σ : Sg} {h : Heap} {w : World}
theorem ba_mk (a b : List UInt8) : ((⟨⟨a⟩⟩ : ByteArray) == ⟨⟨b⟩⟩) = (a == b) := by
  show ByteArray.beq _ _ = _
  unfold ByteArray.beq
  simp
theorem ba_beq (a b : List UInt8) (i n : Nat) : (ByteArray.extract ⟨⟨a⟩⟩ i (i + n) == (⟨⟨b⟩⟩ : ByteArray)) = beqB ((a.drop i).take n) b := by
  rw [beqB_eq]
  have : (ByteArray.extract ⟨⟨a⟩⟩ i (i + n)) = ⟨⟨(a.drop i).take n⟩⟩ := by
    rw [ByteArray.ext_iff]
    simp
  rw [this, ba_mk]
theorem range_succ_find (p : Nat → Bool) (k : Nat) : (List.range (k + 1)).find? p = if p 0 then some 0 else ((List.range k).find? fun i => p (i + 1)).map (· + 1) := by
  rw [List.range_succ_eq_map, List.find?_cons]
  cases p 0
  · simp [List.find?_map]; rfl
  · simp
theorem findSub_eq {b : List UInt8} (hb : b ≠ []) : ∀ (l : List UInt8) (i : Nat), findSub b l i = match (List.range (l.length + 1 - b.length)).find? (fun j => beqB ((l.drop j).take b.length) b) with
    | some j => ((i + j : Nat) : Int)
    | none => -1
  | [], i => by
    have h1 : 1 ≤ b.length := List.length_pos_iff.2 hb
    have : (0 + 1 - b.length) = 0 := by omega
    simp only [List.length_nil, this, List.range_zero, List.find?_nil]
    unfold findSub
    cases b with
    | nil => exact absurd rfl hb
    | cons x b => rfl
  | c :: r, i => by
    have h1 : 1 ≤ b.length := List.length_pos_iff.2 hb
    unfold findSub
    rw [findSub_eq hb r (Nat.succ i)]
    cases hm : beqB ((c :: r).take b.length) b with
    | true =>
      have hl : b.length ≤ (c :: r).length := by
        rw [beqB_eq] at hm
        have := congrArg List.length (eq_of_beq hm)
        simp only [List.length_take] at this
        omega
      have : (c :: r).length + 1 - b.length = ((c :: r).length - b.length) + 1 := by omega
      rw [this, range_succ_find]
      simp [hm]
    | false =>
      rw [cond_false]
      by_cases hl : b.length ≤ (c :: r).length
      · have : (c :: r).length + 1 - b.length = (r.length + 1 - b.length) + 1 := by simp at hl ⊢; omega
        rw [this, range_succ_find]
        simp only [List.drop_zero, hm, Bool.false_eq_true, if_false, List.drop_succ_cons]
        cases (List.range (r.length + 1 - b.length)).find? (fun j => beqB ((r.drop j).take b.length) b) with
        | none => rfl
        | some j => simp only [Option.map_some, Nat.succ_eq_add_one]; rw [show i + 1 + j = i + (j + 1) by omega]
      · have e1 : (c :: r).length + 1 - b.length = 0 := by omega
        have e2 : r.length + 1 - b.length = 0 := by simp at hl; omega
        rw [e1, e2]; rfl
theorem xIndex_ok (hr : HR P σ h.t.get w) {e : T} {x y : Ev} {cx cy : Value} {g : Nat} (hg : P.globals.findIdx? (·.name == "internal/bytealg.MaxLen") = some g) (hgl : ∃ L, σ g 0 = some L ∧ L.blk = g ∧ L.sh = 0) (hx : VR σ (x.ev e) cx) (hy : VR σ (y.ev e) cy) :
    OSd P σ h w (do pure (Next.value (← Extern.BytealgIndex.index #[cx, cy]))) ((xIndex g x y).run e h) := by
  let F3 : List UInt8 → List UInt8 → IntKind → Int → OR := fun s t k m => bif Nat.ble 2 t.length && !ltI m (Int.ofNat t.length) && Nat.blt s.length 4294967281 && keq k .i64 then .val (.int .i64 (findSub t s 0)) h else .fail
  let F2 : List UInt8 → List UInt8 → AV → OR := fun s t v => v.onInt (F3 s t)
  let F1 : List UInt8 → List UInt8 → List AV → Nat → Nat → Bool → OR := fun s t cs _ _ _ => nthK cs 0 (F2 s t)
  show OSd P σ h w _ ((x.ev e).onStr fun s => (y.ev e).onStr fun t => h.onCells g 0 (F1 s t))
  rcases onStr_cases (x.ev e) (fun s => (y.ev e).onStr fun t => h.onCells g 0 (F1 s t)) with h0 | ⟨s, hv, h0⟩
  · rw [h0]; trivial
  rw [h0]; rw [hv] at hx; simp only [VR] at hx; subst hx
  rcases onStr_cases (y.ev e) (fun t => h.onCells g 0 (F1 s t)) with h1 | ⟨t, hv1, h1⟩
  · rw [h1]; trivial
  rw [h1]; rw [hv1] at hy; simp only [VR] at hy; subst hy
  rcases onCellsH_cases (h := h) g 0 (F1 s t) with h2 | ⟨cs, ty, fz, st, hb, h2⟩
  · rw [h2]; trivial
  rw [h2]
  rcases nthK_cases cs 0 (F2 s t) with h3 | ⟨v, hcs, h3⟩
  · exact (congrArg (OSd P σ h w _) h3).mpr trivial
  refine (congrArg (OSd P σ h w _) h3).mpr ?_
  rcases onInt_cases v (F3 s t) with h4 | ⟨k, m, hv4, h4⟩
  · exact (congrArg (OSd P σ h w _) h4).mpr trivial
  refine (congrArg (OSd P σ h w _) h4).mpr ?_
  rcases cond_fail (b := Nat.ble 2 t.length && !ltI m (Int.ofNat t.length) && Nat.blt s.length 4294967281 && keq k .i64) (x := .val (.int .i64 (findSub t s 0)) h) with h5 | ⟨hc, h5⟩
  · exact (congrArg (OSd P σ h w _) h5).mpr trivial
  refine (congrArg (OSd P σ h w _) h5).mpr ?_
  simp only [Bool.and_eq_true, Bool.not_eq_true'] at hc
  obtain ⟨⟨⟨c1, c2⟩, c3⟩, c4⟩ := hc
  have c1 := ble_iff.1 c1
  have c3 := blt_iff.1 c3
  obtain ⟨L, hL, hblk0, hsh⟩ := hgl
  obtain ⟨L', cc, lo, hi, hL', hblk, hsz, hlen, hrel, _⟩ := cells_of hr hb
  rw [hL] at hL'; cases hL'
  obtain ⟨x0, hx0, hvx⟩ := hrel 0 v hcs (by omega)
  rw [hv4] at hvx
  simp only [VR] at hvx
  subst hvx
  rw [hsh, Nat.sub_zero] at hx0
  rw [hblk0] at hblk
  have hm : ¬ (m < (t.length : Int)) := by
    intro hlt
    rw [ltI_eq] at c2
    simp at c2
    omega
  have hbn : t ≠ [] := by intro e; subst e; simp at c1
  have hk := keq_eq c4
  subst hk
  have hsz' : (⟨⟨t⟩⟩ : ByteArray).size = t.length := rfl
  have hsz2 : (⟨⟨s⟩⟩ : ByteArray).size = s.length := rfl
  have hrun := Lib.run_indexString (P := P) ⟨⟨s⟩⟩ ⟨⟨t⟩⟩ w g m hg (by rw [cell_at hblk]; exact hx0) (by rw [hsz']; exact c1) (by rw [hsz']; omega) (by rw [hsz2]; exact c3)
  have hidx : Lib.index s t = findSub t s 0 := by
    have h1 := Lib.find_index ⟨⟨s⟩⟩ ⟨⟨t⟩⟩ (by rw [hsz']; omega)
    rw [hsz', hsz2] at h1
    rw [findSub_eq hbn s 0]
    have h2 : (fun i => ByteArray.extract ⟨⟨s⟩⟩ i (i + t.length) == (⟨⟨t⟩⟩ : ByteArray)) = fun j => beqB ((s.drop j).take t.length) t := by funext j; exact ba_beq s t j t.length
    rw [h2] at h1
    refine h1.symm.trans ?_
    cases (List.range (s.length + 1 - t.length)).find? (fun j => beqB ((s.drop j).take t.length) t) <;> simp
  refine osd_v hrun ?_ (Aft.refl hr)
  simp only [VR]
  rw [← hidx]
end
end Go.Rk

namespace Go.Rk
open Go
set_option linter.unusedVariables false
set_option linter.unusedSimpArgs false
set_option linter.constructorNameAsVariable false
section
variable {P : Program} {σ : Sg} {h : Heap} {w : World}

/-! every operation -/
theorem onKey_cases {k : TypeId} {f : EqT → Ko} {e : T} : (onKey P k f).run e h = .fail ∨ (keyT P k ≠ .no ∧ (onKey P k f).run e h = (f (keyT P k)).run e h) := by
  unfold onKey
  cases hk : keyT P k <;> first | exact .inl rfl | exact .inr ⟨by simp, rfl⟩
theorem onKey_ok {k : TypeId} {f : EqT → Ko} {e : T} {s : Sem Next} (H : keyT P k ≠ .no → OSd P σ h w s ((f (keyT P k)).run e h)) : OSd P σ h w s ((onKey P k f).run e h) := by
  rcases onKey_cases (P := P) (k := k) (f := f) (e := e) (h := h) with h0 | ⟨hk, h0⟩
  · rw [h0]; trivial
  · rw [h0]; exact H hk
theorem onZ_ok {t : TypeId} {k : AV → Ko} {e : T} {s : Sem Next} (H : ∀ z, zero P t = some z → OSd P σ h w s ((k z).run e h)) : OSd P σ h w s ((onZ P t k).run e h) := by
  rcases onZ_cases (P := P) (t := t) (k := k) (e := e) (h := h) with h0 | ⟨z, hz, h0⟩
  · rw [h0]; trivial
  · rw [h0]; exact H z hz
theorem inf_ok {t : TypeId} {k : TypeInfo → Ko} {e : T} {s : Sem Next} (H : ∀ i, P.info? t = some i → OSd P σ h w s ((k i).run e h)) : OSd P σ h w s ((inf P t k).run e h) := by
  rcases inf_cases (P := P) (t := t) (k := k) (e := e) (h := h) with h0 | ⟨z, hz, h0⟩
  · rw [h0]; trivial
  · rw [h0]; exact H z hz
theorem opR_map {e : T} {f : Operand → Ev} {ρ : Operand → Value} (hρ : ∀ x, VR σ ((f x).ev e) (ρ x)) (o : Option Operand) : OpR σ e (o.map f) (o.map ρ) := by
  cases o with
  | none => rfl
  | some x => exact ⟨_, rfl, hρ x⟩
theorem und_of {t : TypeId} {d : TypeDesc} (h : und P t = d) (hd : d ≠ .invalid) : P.underlying t = some d := und_some h hd

theorem run_ext {f : Nat} {fn : Func} {args : Array Value} {E : Array Value → Sem Value} (hfn : P.funcs[f]? = some fn) (hb : fn.body = none) (hfree : extFree fn = true) (he : Extern.find fn = some E) :
    (callFunc f args).run P w = (do pure (Next.value (← E args)) : Sem Next).run P w := by
  unfold extFree at hfree
  rw [Bool.and_eq_true] at hfree
  have h1 : Extern.findNext fn = none := by simpa using hfree.1
  have h2 : fn.name ≠ "runtime.NumGoroutine" := by simpa using hfree.2
  simp [callFunc, hfn, h2, hb, h1, he]
theorem find_name {fn : Func} {E : Array Value → Sem Value} {n : String} (hn : (fn.name == n) = true) (h1 : Extern.allGenericRows.lookup n = none) (h2 : (Extern.allTypedRows.lookup n) = none) (h3 : Extern.allRows.lookup n = some E) : Extern.find fn = some E := by
  have : fn.name = n := by simpa using hn
  simp [Extern.find, this, h1, h2, h3]
theorem find_typed {fn : Func} {E : Array TypeId → Array TypeId → Array Value → Sem Value} {n : String} (hn : (fn.name == n) = true) (h1 : Extern.allGenericRows.lookup n = none) (h2 : (Extern.allTypedRows.lookup n) = some E) : Extern.find fn = some (E fn.params fn.resultTypes) := by
  have : fn.name = n := by simpa using hn
  simp [Extern.find, this, h1, h2]
theorem find_origin {fn : Func} {E : Array TypeId → Array TypeId → Array Value → Sem Value} {n : String} (hn : (fn.origin == n) = true) (ho : extByOrigin fn = true) (h1 : Extern.allGenericRows.lookup n = none) (h2 : (Extern.allTypedRows.lookup n) = some E) : Extern.find fn = some (E fn.params fn.resultTypes) := by
  have hn : fn.origin = n := by simpa using hn
  unfold extByOrigin at ho
  simp only [Bool.and_eq_true, Option.isNone_iff_eq_none] at ho
  simp [Extern.find, hn, h1, h2, ho.1.1, ho.1.2, ho.2]
theorem k1 : Extern.allGenericRows.lookup "internal/abi.NoEscape" = none := by kernel_rfl
theorem k2 : Extern.allTypedRows.lookup "internal/abi.NoEscape" = none := by kernel_rfl
theorem k3 : Extern.allRows.lookup "internal/abi.NoEscape" = some Extern.AbiNoEscape.same := by kernel_rfl
theorem k4 : Extern.allGenericRows.lookup "internal/bytealg.MakeNoZero" = none := by kernel_rfl
theorem k5 : Extern.allTypedRows.lookup "internal/bytealg.MakeNoZero" = some Extern.BytealgMakeNoZero.makeNoZero := by kernel_rfl
theorem k6 : Extern.allGenericRows.lookup "internal/bytealg.IndexByteString" = none := by kernel_rfl
theorem k7 : Extern.allTypedRows.lookup "internal/bytealg.IndexByteString" = none := by kernel_rfl
theorem k8 : Extern.allRows.lookup "internal/bytealg.IndexByteString" = some Extern.BytealgIndexByte.indexByte := by kernel_rfl
theorem k9 : Extern.allGenericRows.lookup "internal/bytealg.CountString" = none := by kernel_rfl
theorem k10 : Extern.allTypedRows.lookup "internal/bytealg.CountString" = none := by kernel_rfl
theorem k11 : Extern.allRows.lookup "internal/bytealg.CountString" = some Extern.BytealgCount.count := by kernel_rfl
theorem k12 : Extern.allGenericRows.lookup "slices.overlaps" = none := by kernel_rfl
theorem k13 : Extern.allTypedRows.lookup "slices.overlaps" = some Extern.SlicesOverlaps.overlaps := by kernel_rfl
theorem ext1_ok (hr : HR P σ h.t.get w) (hf : ∀ k, σ h.next k = none) {e : T} {x : Ev} {cx : Value} {f : Nat} {fn : Func} (hfn : P.funcs[f]? = some fn) (hb : fn.body = none) (hx : VR σ (x.ev e) cx) (hfree : extFree fn = true) :
    OSd P σ h w (callFunc f #[cx]) ((cext1 P fn x).run e h) := by
  unfold cext1
  split
  · rename_i hn
    exact OSd.congr (run_ext hfn hb hfree (find_name hn k1 k2 k3)).symm (OSd.congr (by rw [show Extern.AbiNoEscape.same #[cx] = pure cx from rfl]; simp) (oMove_ok hr hx))
  · split
    · rename_i hn
      split
      · rename_i el hu
        obtain ⟨t, ht, hu⟩ := Option.map_eq_some_iff.1 hu
        exact OSd.congr (run_ext hfn hb hfree (find_typed hn k4 k5)).symm (xMakeNoZero_ok hr hf ht (und_of hu (by simp)) hx)
      · trivial
    · trivial
theorem k14 : Extern.allGenericRows.lookup "internal/bytealg.IndexString" = none := by kernel_rfl
theorem k15 : Extern.allTypedRows.lookup "internal/bytealg.IndexString" = none := by kernel_rfl
theorem k16 : Extern.allRows.lookup "internal/bytealg.IndexString" = some Extern.BytealgIndex.index := by kernel_rfl
theorem ext2_ok (hr : HR P σ h.t.get w) (hgl : ∀ g, g < P.globals.size → ∃ L, σ g 0 = some L ∧ L.blk = g ∧ L.sh = 0) (hf : ∀ k, σ h.next k = none) {e : T} {x y : Ev} {cx cy : Value} {f : Nat} {fn : Func} (hfn : P.funcs[f]? = some fn) (hb : fn.body = none) (hx : VR σ (x.ev e) cx) (hy : VR σ (y.ev e) cy) (hfree : extFree fn = true) :
    OSd P σ h w (callFunc f #[cx, cy]) ((cext2 P fn x y).run e h) := by
  unfold cext2
  split
  · rename_i hn
    exact OSd.congr (run_ext hfn hb hfree (find_name hn k6 k7 k8)).symm (xIndexByte_ok hr hx hy)
  split
  · rename_i hn
    exact OSd.congr (run_ext hfn hb hfree (find_name hn k9 k10 k11)).symm (xCount_ok hr hx hy)
  split
  · rename_i hn
    split
    · rename_i g hg
      exact OSd.congr (run_ext hfn hb hfree (find_name hn k14 k15 k16)).symm (xIndex_ok hr hg (hgl g (Array.findIdx?_eq_some_iff_getElem.1 hg).1) hx hy)
    · trivial
  split
  · rename_i hn
    split
    · rename_i ho
      split
      · rename_i el hu
        obtain ⟨t, ht, hu⟩ := Option.map_eq_some_iff.1 hu
        exact inf_ok fun i hi => OSd.congr (run_ext hfn hb hfree (find_origin hn ho k12 k13)).symm (xOverlaps_ok hr ht (und_of hu (by simp)) hi hx hy)
      · trivial
    · trivial
  · trivial
theorem builtin_ok (hr : HR P σ h.t.get w) (hf : ∀ k, σ h.next k = none) {e : T} {ρ : Operand → Value} (hρ : ∀ x, VR σ ((copd P x).ev e) (ρ x)) (b : Builtin) (ts : Array TypeId) (ty : TypeId) (cs : Array Bool) (args : Array Operand) :
    OSd P σ h w (builtin b ts ty cs (args.map ρ)) ((cbuiltin P b (ts.toList.map (und P)) (args.toList.map (copd P))).run e h) := by
  obtain ⟨ts⟩ := ts
  obtain ⟨args⟩ := args
  show OSd P σ h w (builtin b ⟨ts⟩ ty cs ((Array.mk args).map ρ)) ((cbuiltin P b (ts.map (und P)) (args.map (copd P))).run e h)
  have hm : (Array.mk args).map ρ = ⟨args.map ρ⟩ := by simp
  rw [hm]
  have one : ∀ {x : Ev}, args.map (copd P) = [x] → ∃ o, args = [o] ∧ x = copd P o := by
    intro x hx
    obtain ⟨o, l, rfl, h1, h2⟩ := List.map_eq_cons_iff.1 hx
    have := List.map_eq_nil_iff.1 h2
    subst this
    exact ⟨o, rfl, h1.symm⟩
  have two : ∀ {x y : Ev}, args.map (copd P) = [x, y] → ∃ o o', args = [o, o'] ∧ x = copd P o ∧ y = copd P o' := by
    intro x y hx
    obtain ⟨o, l, rfl, h1, h2⟩ := List.map_eq_cons_iff.1 hx
    obtain ⟨o', l', rfl, h3, h4⟩ := List.map_eq_cons_iff.1 h2
    have := List.map_eq_nil_iff.1 h4
    subst this
    exact ⟨o, o', rfl, h1.symm, h3.symm⟩
  unfold cbuiltin
  split
  · rename_i u r p n ht ha
    obtain ⟨t, ts', rfl, hu, _⟩ := List.map_eq_cons_iff.1 ht
    obtain ⟨op, on, rfl, rfl, rfl⟩ := two ha
    split
    · cases hs : Nat.beq (szO P u) 1 with
      | false => trivial
      | true => exact oUnsafeString_ok hr (und_of hu (by simp)) hs (hρ op) (hρ on)
    · trivial
  · rename_i td r x ht ha
    obtain ⟨t, ts', rfl, hu, _⟩ := List.map_eq_cons_iff.1 ht
    obtain ⟨ox, rfl, rfl⟩ := one ha
    split
    · exact oLenS_ok hr (und_of hu (by simp)) (hρ ox)
    · exact oLenL_ok hr (und_of hu (by simp)) (hρ ox)
    · exact oLenA_ok hr (und_of hu (by simp))
    · exact oLenM_ok hr (und_of hu (by simp)) (hρ ox)
    · split
      · rename_i hp; exact oLenPA_ok hr (und_of hu (by simp)) (und_of hp (by simp))
      · trivial
    · trivial
  · rename_i el r x ht ha
    obtain ⟨t, ts', rfl, hu, _⟩ := List.map_eq_cons_iff.1 ht
    obtain ⟨ox, rfl, rfl⟩ := one ha
    exact oCapL_ok hr (und_of hu (by simp)) (hρ ox)
  · exact oMn_ok (mx := false) (ts := ⟨ts⟩) (ty := ty) hr (by rw [show (Array.mk (args.map ρ)).toList = args.map ρ from rfl]; exact evs_ok fun x _ => hρ x)
  · exact oMn_ok (mx := true) (ts := ⟨ts⟩) (ty := ty) hr (by rw [show (Array.mk (args.map ρ)).toList = args.map ρ from rfl]; exact evs_ok fun x _ => hρ x)
  · rename_i el d s x ht ha
    obtain ⟨t, ts', rfl, hu, h2⟩ := List.map_eq_cons_iff.1 ht
    obtain ⟨t', ts'', rfl, hu', h3⟩ := List.map_eq_cons_iff.1 h2
    have := List.map_eq_nil_iff.1 h3
    subst this
    obtain ⟨os, ox, rfl, rfl, rfl⟩ := two ha
    split
    · trivial
    · trivial
    · rename_i hni hninv
      refine inf_ok fun i hi => onZ_ok fun z hz => ?_
      obtain ⟨j, cz, hj, hjz, hvz⟩ := zero_ok (σ := σ) hz
      rw [hi] at hj; cases hj
      rcases onCellsK_ok (h := h) (e := e) hvz (fun z => bif Nat.beq z.length i.size then oAppend el i.size i.bytes (copd P os) (copd P ox) else oFail) with h0 | ⟨zs, h0, hzs⟩
      · rw [h0]; trivial
      rw [h0]
      cases hb : Nat.beq zs.length i.size with
      | false => trivial
      | true =>
        have hb := Nat.eq_of_beq_eq_true hb
        have hl := hzs.len
        simp at hl
        exact oAppend_ok hr hf (und_of hu (by simp)) (und_of hu' (fun h => hninv h)) (fun k hk => hni k hk) hi hjz (by omega) (hρ os) (hρ ox)
  · rename_i el d s x ht ha
    obtain ⟨t, ts', rfl, hu, h2⟩ := List.map_eq_cons_iff.1 ht
    obtain ⟨t', ts'', rfl, hu', h3⟩ := List.map_eq_cons_iff.1 h2
    have := List.map_eq_nil_iff.1 h3
    subst this
    obtain ⟨os, ox, rfl, rfl, rfl⟩ := two ha
    exact inf_ok fun i hi => oCopy_ok hr (und_of hu (by simp)) hi (hρ os) (hρ ox)
  · rename_i k el r m i ht ha
    obtain ⟨t, ts', rfl, hu, _⟩ := List.map_eq_cons_iff.1 ht
    obtain ⟨om, oi, rfl, rfl, rfl⟩ := two ha
    exact onKey_ok fun hk => oDelete_ok hr (und_of hu (by simp)) hk (hρ om) (hρ oi)
  · rename_i k el r m ht ha
    obtain ⟨t, ts', rfl, hu, _⟩ := List.map_eq_cons_iff.1 ht
    obtain ⟨om, rfl, rfl⟩ := one ha
    exact oClearM_ok hr (und_of hu (by simp)) (hρ om)
  · show (Sem.run P (builtin .recover ⟨ts⟩ ty cs ⟨args.map ρ⟩) w = _)
    rfl
  · rename_i x ha
    obtain ⟨ox, rfl, rfl⟩ := one ha
    exact oSliceData_ok hr (hρ ox)
  · trivial
theorem call_ok (hr : HR P σ h.t.get w) (hgl : ∀ g, g < P.globals.size → ∃ L, σ g 0 = some L ∧ L.blk = g ∧ L.sh = 0) (hf : ∀ k, σ h.next k = none) {e : T} {ρ : Operand → Value} (hρ : ∀ x, VR σ ((copd P x).ev e) (ρ x)) (c : Call) (ty : TypeId) :
    OSd P σ h w (do let d ← resolve ρ c ty; invoke d.target d.args) ((ccall P c).run e h) := by
  have hargs : VRs σ (evs e (c.args.toList.map (copd P))) (c.args.map ρ).toList := by
    rw [Array.toList_map]; exact evs_ok fun x _ => hρ x
  have hval : ∀ g, c.callee = .value g → OSd P σ h w (do let d ← resolve ρ c ty; invoke d.target d.args) ((oCallV (copd P g) (c.args.toList.map (copd P))).run e h) := by
    intro g hg
    show OSd P σ h w _ (acall ((copd P g).ev e) (evs e (c.args.toList.map (copd P))))
    have hg' := hρ g
    cases hv : (copd P g).ev e <;> rw [hv] at hg' <;> try trivial
    · rename_i f first cap
      simp only [VR] at hg'
      obtain ⟨a', b', hga, h1, h2⟩ := hg'
      refine ⟨a' ++ (c.args.map ρ ++ b'), ?_, ?_⟩
      · simp only [Array.toList_append]
        exact VRs.append h1 (VRs.append hargs h2)
      · rintro ⟨fn, hfn, hgo⟩
        unfold isGo at hgo
        rw [Bool.and_eq_true] at hgo
        have hn : fn.name ≠ "runtime.NumGoroutine" := by simpa using hgo.2
        have hb : fn.body ≠ none := by
          intro h0
          rw [h0] at hgo
          simp at hgo
        simp [resolve, hg, hga, Deferred.ofValue, invoke, callFunc, hfn, hn, hb, Array.append_assoc]
    · rename_i l
      simp only [VR] at hg'
      obtain ⟨L, hL, hga⟩ := hg'
      refine ⟨L, c.args.map ρ, hL, hargs, ?_⟩
      simp [resolve, hg, hga, Deferred.ofValue, invoke]
  unfold ccall
  split
  · rename_i f hc
    split
    · rename_i fn hfn
      split
      · rename_i hgo
        have := hval (.func f) hc
        have he : (oCallV (copd P (.func f)) (c.args.toList.map (copd P))).run e h = .enter f ([] ++ (evs e (c.args.toList.map (copd P)) ++ [])) := rfl
        rw [he, List.nil_append, List.append_nil] at this
        exact this
      · rename_i hgo
        split
        · trivial
        · rename_i hb
          have hb : fn.body = none := by simpa using hb
          have hga := hρ (.func f)
          simp only [copd, VR] at hga
          obtain ⟨a', b', hga, h1, h2⟩ := hga
          simp only [VRs] at h1 h2
          have ha' : a' = #[] := by simpa using h1
          have hb' : b' = #[] := by simpa using h2
          subst ha'; subst hb'
          have hrun : (do let d ← resolve ρ c ty; invoke d.target d.args : Sem Next).run P w = (callFunc f (c.args.map ρ)).run P w := by
            simp [resolve, hc, hga, Deferred.ofValue, invoke]
          refine OSd.congr hrun.symm ?_
          unfold cext
          split
          · rename_i x hx
            split
            · rename_i hfree
              obtain ⟨ox, hox⟩ : ∃ ox, c.args.toList = [ox] := by
                cases hl : c.args.toList with
                | nil => rw [hl] at hx; simp at hx
                | cons a l => cases l with
                  | nil => exact ⟨a, rfl⟩
                  | cons b l => rw [hl] at hx; simp at hx
              have hca : c.args.map ρ = #[ρ ox] := by apply Array.ext'; simp [hox]
              rw [hox] at hx
              simp only [List.map_cons, List.map_nil, List.cons.injEq, and_true] at hx
              subst hx
              rw [hca]
              exact ext1_ok hr hf hfn hb (hρ ox) hfree
            · trivial
          · rename_i x y hx
            split
            · rename_i hfree
              obtain ⟨ox, oy, hox⟩ : ∃ ox oy, c.args.toList = [ox, oy] := by
                cases hl : c.args.toList with
                | nil => rw [hl] at hx; simp at hx
                | cons a l => cases l with
                  | nil => rw [hl] at hx; simp at hx
                  | cons b l => cases l with
                    | nil => exact ⟨a, b, rfl⟩
                    | cons d l => rw [hl] at hx; simp at hx
              have hca : c.args.map ρ = #[ρ ox, ρ oy] := by apply Array.ext'; simp [hox]
              rw [hox] at hx
              simp only [List.map_cons, List.map_nil, List.cons.injEq, and_true] at hx
              obtain ⟨rfl, rfl⟩ := hx
              rw [hca]
              exact ext2_ok hr hgl hf hfn hb (hρ ox) (hρ oy) hfree
            · trivial
          · trivial
    · trivial
  · rename_i g hg hc
    exact hval g hc
  · trivial
  · rename_i b hc
    have := builtin_ok hr hf hρ b c.argTypes ty (c.args.map fun | .const _ => true | _ => false) c.args
    refine OSd.congr ?_ this
    simp [resolve, hc, invoke]
    rfl
theorem cop_ok (hr : HR P σ h.t.get w) (hgl : ∀ g, g < P.globals.size → ∃ L, σ g 0 = some L ∧ L.blk = g ∧ L.sh = 0) (hf : ∀ k, σ h.next k = none) {e : T} {ρ : Operand → Value} (hρ : ∀ x, VR σ ((copd P x).ev e) (ρ x)) (o : Oper) : OSd P σ h w (execOp ρ o) ((cop P o.op).run e h) := by
  cases ho : o.op <;> (try trivial) <;> unfold cop <;> simp only [execOp, ho]
  case move x => exact oMove_ok hr (hρ x)
  case assign x => exact oMove_ok hr (hρ x)
  case pick c a b => exact oPick_ok hr (hρ c) (hρ a) (hρ b)
  case alloc t => exact onZ_ok fun z hz => oAlloc_ok hr hf hz
  case box t x => exact oBox_ok hr hf (hρ x)
  case build t ps =>
    split
    · rename_i fs hu
      split
      · rename_i hall
        exact onZ_ok fun z hz => oBuildS_ok hr (und_of hu (by simp)) hall hz fun p _ => hρ p.2
      · trivial
    · rename_i n el hu
      exact inf_ok fun i hi => onZ_ok fun z hz => oBuildA_ok hr (und_of hu (by simp)) hi hz fun p _ => hρ p.2
    · trivial
  case buildSlice t n ps =>
    split
    · rename_i el hu
      exact inf_ok fun i hi => onZ_ok fun z hz => oBuildSlice_ok hr hf (und_of hu (by simp)) hi hz fun p _ => hρ p.2
    · trivial
  case insert t m k x =>
    split
    · rename_i kt el hu
      exact onKey_ok fun hk => oMapUpd_ok hr (und_of hu (by simp)) hk (hρ m) (hρ k) (hρ x)
    · trivial
  case mapUpdate t m k x =>
    split
    · rename_i kt el hu
      exact onKey_ok fun hk => oMapUpd_ok hr (und_of hu (by simp)) hk (hρ m) (hρ k) (hρ x)
    · trivial
  case load t a =>
    split
    · rename_i n ha; exact oLoadN_ok hr ha (hρ a)
    · rename_i ha; exact oLoad_ok hr ha (hρ a)
    · trivial
  case store t a x => exact inf_ok fun i hi => oStore_ok hr hi (hρ a) (hρ x)
  case nilCheck x =>
    have := oNilCheck_ok hr ho (hρ x)
    simpa only [execOp, ho] using this
  case binOp op t x y yt =>
    by_cases heq : isEq op
    · rcases heq with rfl | rfl
      · exact oBinE_ok hr (.inl rfl) (hρ x) (hρ y) _
      · exact oBinE_ok hr (.inr rfl) (hρ x) (hρ y) _
    · exact ints_ok hr (hρ x) (hρ y) ⟨fun h => heq (.inl h), fun h => heq (.inr h)⟩ _
  case unOp op t x => exact oUn_ok hr (hρ x)
  case convert s d x => exact oConv_ok hr hf (hρ x)
  case makeInterface t x =>
    split
    · trivial
    · trivial
    · rename_i d hn hd
      exact oIface_ok hr hd (fun m hm => by subst hm; exact hn m rfl) (hρ x)
  case makeFunc fn first cap =>
    cases fn <;> first | trivial | exact oFunc_ok hr (fun x _ => hρ x) (fun x _ => hρ x)
  case makeMap t r =>
    cases r with
    | none => exact oMap_ok hr hf
    | some r => trivial
  case makeSlice t l c =>
    split
    · rename_i el hu
      exact inf_ok fun i hi => onZ_ok fun z hz => oMakeSlice_ok hr hf (und_of hu (by simp)) hi hz (hρ l) (hρ c)
    · trivial
  case slice t x lo hi mx =>
    split
    · rename_i hu
      cases mx with
      | none => exact oSliceS_ok hr (und_of hu (by simp)) (hρ x) (opR_map hρ lo) (opR_map hρ hi)
      | some m => trivial
    · rename_i el hu
      split
      · trivial
      · rename_i hm
        exact inf_ok fun i hi' => oSliceL_ok hr (und_of hu (by simp)) hi' (hρ x) (opR_map hρ lo) (opR_map hρ hi) (opR_map hρ mx) (by cases mx <;> cases hi <;> simp_all)
    · rename_i n el hu
      split
      · trivial
      · rename_i hm
        exact inf_ok fun i hi' => oSliceA_ok hr (und_of hu (by simp)) hi' (hρ x) (opR_map hρ lo) (opR_map hρ hi) (opR_map hρ mx) (by cases mx <;> cases hi <;> simp_all)
    · trivial
  case fieldAddr t x n =>
    split
    · rename_i fs hu
      split
      · rename_i f hfld
        refine inf_ok fun i hi => ?_
        split
        · trivial
        · rename_i h0; exact oFieldAddr_ok hr (und_of hu (by simp)) hfld hi h0 (hρ x)
      · trivial
    · trivial
  case field t x n =>
    split
    · rename_i fs hu
      split
      · rename_i f hfld
        split
        · rename_i ha; exact oField_ok hr (und_of hu (by simp)) hfld ha (hρ x)
        · rename_i m ha; exact oFieldN_ok hr (und_of hu (by simp)) hfld ha (hρ x)
        · trivial
      · trivial
    · trivial
  case indexAddr t x i =>
    split
    · rename_i n el hu; exact inf_ok fun j hj => oIndexA_ok hr (und_of hu (by simp)) hj (hρ x) (hρ i)
    · rename_i el hu; exact inf_ok fun j hj => oIndexL_ok hr (und_of hu (by simp)) hj (hρ x) (hρ i)
    · trivial
  case index t x i =>
    split
    · rename_i hu; exact oIdxS_ok hr (und_of hu (by simp)) (hρ x) (hρ i)
    · rename_i n el hu
      refine inf_ok fun j hj => ?_
      split
      · rename_i a ha; exact oIdxA_ok hr (und_of hu (by simp)) hj ha (hρ x) (hρ i)
      · trivial
    · trivial
  case lookup t m k ok =>
    split
    · rename_i kt el hu
      exact onKey_ok fun hk => onZ_ok fun z hz => oLookup_ok hr (und_of hu (by simp)) hk hz (hρ m) (hρ k)
    · trivial
  case range t x =>
    split
    · rename_i hu; exact oRangeS_ok hr hf (und_of hu (by simp)) (hρ x)
    · rename_i k el hu; exact oRangeM_ok hr hf (und_of hu (by simp)) (hρ x)
    · trivial
  case next x s => exact oNext_ok hr (hρ x)
  case entry x => exact oEntry_ok hr (hρ x)
  case typeAssert x u a ok =>
    split
    · trivial
    · trivial
    · rename_i d hn hd
      exact oAssert_ok hr hd (fun m hm => by subst hm; exact hn m rfl) rfl (hρ x)
  case extract x i => exact oExtract_ok hr (hρ x)
  case call c => exact call_ok hr hgl hf hρ c o.type
  case defer c =>
    split
    · rename_i g hg
      refine oDfr_ok hr (hρ g) (args := c.args.toList) (fun x _ => hρ x) (ca := c.args.map ρ) (by simp) ?_
      unfold resolve
      rw [hg]
    · trivial
  case panic x => exact oPanic_ok hr (hρ x)
end
end Go.Rk
