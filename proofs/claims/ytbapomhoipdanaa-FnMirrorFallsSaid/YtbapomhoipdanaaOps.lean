/- Stores, make and append on slices whose memory may be written, in the words of the readings. Plain lemmas, over every program. -/
import Derived.Test.YtbapomhoipdanaaBase
set_option linter.unusedVariables false
set_option linter.unusedSimpArgs false
namespace Go.Sl
open Go.RowKit

/-! ## stores -/

theorem setCell_block {w : World} {b o : Nat} {C : Array Value} {E : TypeId} (h : w.heap[b]? = some (.cells C E (0, 0))) (v : Value) :
    (w.setCell ⟨b, o, none⟩ v).heap[b]? = some (.cells (C.setIfInBounds o v) E (0, 0)) := by
  simp [World.setCell, Array.getElem?_modify, h]

theorem unfrozen {w : World} {b o : Nat} {C : Array Value} {E : TypeId} (h : w.heap[b]? = some (.cells C E (0, 0))) : w.frozen? ⟨b, o, none⟩ = false := by
  simp [World.frozen?, h]

theorem drop_take_set {C : List Value} {off j m : Nat} {v : Value} (_hj : j < m) : ((C.set (off + j) v).drop off).take m = ((C.drop off).take m).set j v := by
  apply List.ext_getElem?
  intro i
  simp only [List.getElem?_take, List.getElem?_drop, List.getElem?_set, List.length_take, List.length_drop]
  by_cases h : i < m
  · by_cases e : j = i
    · subst e
      by_cases hlt : off + j < C.length
      · simp [h, hlt]; omega
      · have : ¬ (j < C.length - off) := by omega
        simp [h, hlt]; omega
    · have : ¬ (off + j = off + i) := by omega
      simp [h, e]
  · simp [h]
    intro e
    omega

/-- A store into element j of a slice. -/
theorem SlAt.store {w : World} {n : Nat} {b off cap : Nat} {xs : List Value} (h : SlAt w n (some ⟨b, off, none⟩) cap xs) {j : Nat} (hj : j < xs.length) (v : Value) :
    w.frozen? ⟨b, off + j, none⟩ = false ∧ SlAt (w.setCell ⟨b, off + j, none⟩ v) n (some ⟨b, off, none⟩) cap (xs.set j v) ∧ Chg b (b + 1) w (w.setCell ⟨b, off + j, none⟩ v) := by
  rcases h with ⟨h, _⟩ | ⟨b', off', C, E, ha, hb, h1, h2, h3⟩
  · cases h
  · cases ha
    refine ⟨unfrozen hb, .inr ⟨b, off, _, E, rfl, setCell_block hb v, by simpa using h1, by simpa using h2, ?_⟩, Chg.setCell w _ v (Nat.le_refl _) (Nat.lt_succ_self _)⟩
    rw [Array.toList_setIfInBounds, List.length_set, drop_take_set hj, h3]

theorem SlAt.cell {w : World} {n : Nat} {b off cap : Nat} {xs : List Value} (h : SlAt w n (some ⟨b, off, none⟩) cap xs) {j : Nat} (hj : j < xs.length) : w.cell? ⟨b, off + j, none⟩ = some xs[j] := by
  obtain ⟨b', off', ha, hc⟩ := h.cells j xs[j] (by simp [hj])
  cases ha
  exact hc

theorem setCells_block {b : Nat} {E : TypeId} : ∀ (vs : List Value) (o : Nat) (w : World) (C : Array Value), w.heap[b]? = some (.cells C E (0, 0)) → o + vs.length ≤ C.size →
    ∃ C', (w.setCells b o vs).heap[b]? = some (.cells C' E (0, 0)) ∧ C'.toList = C.toList.take o ++ vs ++ C.toList.drop (o + vs.length)
  | [], o, w, C, h, _ => ⟨C, h, by simp⟩
  | v :: vs, o, w, C, h, hl => by
    obtain ⟨C', h1, h2⟩ := setCells_block vs (o + 1) (w.setCell ⟨b, o, none⟩ v) _ (setCell_block h v) (by simp at hl ⊢; omega)
    refine ⟨C', h1, ?_⟩
    simp only [List.length_cons] at hl
    have ho : o < C.toList.length := by simpa using (by omega : o < C.size)
    rw [h2, Array.toList_setIfInBounds]
    have e1 : (C.toList.set o v).take (o + 1) = C.toList.take o ++ [v] := by
      rw [List.take_add_one, List.take_set_of_le (Nat.le_refl _), List.getElem?_set_self ho]; rfl
    have e2 : (C.toList.set o v).drop (o + 1 + vs.length) = C.toList.drop (o + (v :: vs).length) := by
      rw [List.drop_set_of_lt (by omega), List.length_cons]; congr 1; omega
    rw [e1, e2]
    simp

theorem setCells_size (w : World) (b o : Nat) (vs : List Value) : (w.setCells b o vs).heap.size = w.heap.size := by
  induction vs generalizing o w with
  | nil => rfl
  | cons v vs ih => rw [World.setCells, ih]; simp [World.setCell]

theorem setCells_tape (w : World) (b o : Nat) (vs : List Value) : (w.setCells b o vs).tape = w.tape := by
  induction vs generalizing o w with
  | nil => rfl
  | cons v vs ih => rw [World.setCells, ih]; rfl

theorem setCells_chg (w : World) (b o : Nat) (vs : List Value) : Chg b (b + 1) w (w.setCells b o vs) := by
  induction vs generalizing o w with
  | nil => exact Chg.refl _ _ _
  | cons v vs ih => exact (Chg.setCell w ⟨b, o, none⟩ v (Nat.le_refl _) (Nat.lt_succ_self _)).trans (ih _ _)

/-! ## append -/

/-- What an append leaves: nothing but the block behind the old slice may have been written; the new slice lies there, or in a new block. -/
structure AppW (w w' : World) (a a' : Option Addr) : Prop where
  os : w'.os = w.os
  tape : w'.tape = w.tape
  output : w'.output = w.output
  size : w.heap.size ≤ w'.heap.size
  block : ∀ k, k < w.heap.size → k ∉ ablk a → w'.heap[k]? = w.heap[k]?
  at_ : a' = a ∨ a' = some ⟨w.heap.size, 0, none⟩ ∧ w.heap.size < w'.heap.size

theorem AppW.chg {w w' : World} {a a' : Option Addr} (h : AppW w w' a a') {lo hi : Nat} (ha : ∀ b ∈ ablk a, lo ≤ b ∧ b < hi) : Chg lo hi w w' :=
  ⟨h.os, h.tape, h.output, h.size, fun k hk hn => h.block k hk (fun hm => hn (ha k hm))⟩

theorem AppW.mem {w w' : World} {a a' : Option Addr} (h : AppW w w' a a') {b : Nat} (hb : b ∈ ablk a') : b ∈ ablk a ∨ b = w.heap.size ∧ b < w'.heap.size := by
  rcases h.at_ with e | ⟨e, hs⟩
  · exact .inl (e ▸ hb)
  · subst e; simp [ablk] at hb; exact .inr ⟨hb, hb ▸ hs⟩

theorem firstCells_at {P : Program} {w : World} {n : Nat} {a : Option Addr} {len cap : Nat} {xs : List Value} (h : CellsAt w a xs) (hl : xs.length = len * n) : (Builtin.firstCells n len (.slice a len cap)).run P w = .ok xs.toArray w := by
  cases a with
  | none =>
    have : xs = [] := by
      cases xs with
      | nil => rfl
      | cons u r => obtain ⟨b, off, ha, _⟩ := h 0 u rfl; cases ha
    subst this
    exact run_firstCells_none w n len len cap
  | some ad =>
    refine run_firstCells_some (P := P) w n len ad len cap xs hl (fun j u hj => ?_)
    obtain ⟨b, off, ha, hc⟩ := h j u hj
    cases ha
    rw [Addr.add_lit]
    exact hc

theorem CellsAt.drew {w : World} {a : Option Addr} {xs : List Value} (h : CellsAt w a xs) : CellsAt w.drew a xs := h

theorem run_append_sl {P : Program} (w : World) (t ty e : TypeId) (i : TypeInfo) (z : Value) (n bytes : Nat) (ht : P.underlying t = some (.slice e)) (hi : P.info? e = some i) (hz : i.zero = some z)
    (hsize : i.size = n) (hby : i.bytes = bytes) (hzs : z.cells.size = n)
    (a : Option Addr) (len cap : Nat) (xs : List Value) (hl : xs.length = len * n) (hsl : SlAt w n a cap xs) (hlc : len ≤ cap)
    (ax : Option Addr) (m c : Nat) (news : List Value) (hnl : news.length = m * n) (hnews : CellsAt w ax news) (h1 : ∀ u ∈ news, u.oneCell' = true)
    (hcap : cap ≤ maxLen) (h63 : len + m ≤ maxLen) (hbytes : (len + m) * bytes ≤ 140737488355328) :
    ∃ a' cap' w', (Builtin.append_ #[t, t] ty #[.slice a len cap, .slice ax m c]).run P w = .ok (.slice a' (len + m) cap') w' ∧ SlAt w' n a' cap' (xs ++ news) ∧ len + m ≤ cap' ∧ cap' ≤ maxLen ∧ AppW w w' a a' := by
  subst hsize
  subst hby
  have hsrc : Src P i.size t (.slice ax m c) m news w := ⟨.inl ⟨e, ht⟩, fun _ => rfl, firstCells_at hnews hnl, firstCells_at hnews.drew hnl, hnl, h1⟩
  by_cases hroom : len + m ≤ cap
  · rcases hsl with ⟨rfl, rfl, rfl⟩ | ⟨b, off, C, E, rfl, hb, hfit, hle, htake⟩
    · have hm : m = 0 := by omega
      have hn : len = 0 := by omega
      subst hm; subst hn
      have : news = [] := List.eq_nil_of_length_eq_zero (by simpa using hnl)
      subst this
      refine ⟨none, 0, w, ?_, .inl ⟨rfl, rfl, rfl⟩, by omega, by omega, ⟨rfl, rfl, rfl, Nat.le_refl _, fun _ _ _ => rfl, .inl rfl⟩⟩
      simp [Builtin.append_, run_underlying ht, sizeOf, typeInfo, hi, Builtin.lenOf, hsrc.cells]
    · have hmul : (len + m) * i.size ≤ cap * i.size := Nat.mul_le_mul_right _ hroom
      rw [Nat.add_mul] at hmul
      have hr := run_append_room_src (P := P) w t t ty e i ht hi b off len cap (.slice ax m c) m news hsrc hroom
        (fun j hj => by rw [cell_of_row w b _ C E (0, 0) hb]; simp; omega) (fun j hj => unfrozen hb)
      obtain ⟨C', hC', hl'⟩ := setCells_block (E := E) news (off + len * i.size) w C hb (by omega)
      refine ⟨_, _, _, hr, .inr ⟨b, off, C', E, rfl, hC', ?_, ?_, ?_⟩, hroom, hcap, ⟨(setCells_chg w b _ news).os, (setCells_chg w b _ news).tape, (setCells_chg w b _ news).output, by rw [setCells_size]; exact Nat.le_refl _, ?_, .inl rfl⟩⟩
      · have : C'.size = C.size := by
          have := congrArg List.length hl'
          simp at this
          omega
        omega
      · rw [List.length_append]; omega
      · rw [hl', List.append_assoc, List.drop_append_of_le_length (by simp; omega), List.length_append]
        have e1 : (C.toList.take (off + len * i.size)).drop off = xs := by
          rw [List.drop_take, show off + len * i.size - off = xs.length by omega, htake]
        rw [e1, ← List.append_assoc, ← List.length_append, List.take_left]
      · intro k hk hn
        exact (setCells_chg w b _ news).block k hk (by simp [ablk] at hn; omega)
  · have hr := run_append_grow_src (P := P) w t t ty e i z ht hi hz a len cap xs (firstCells_at hsl.cells.drew hl) (.slice ax m c) m news hsrc (by omega) (by simp only [maxLen] at h63; omega) (growslice_fits (by omega) hbytes)
    have hge := grownCap_ge w (len + m) cap e
    have hcm := grownCap_le_maxLen w (len + m) cap e h63
    refine ⟨_, _, _, hr, .inr ⟨w.heap.size, 0, _, e, rfl, heap_alloc_new w.drew _, ?_, ?_, ?_⟩, hge, hcm, ⟨rfl, rfl, rfl, by simp, fun k hk _ => Below.heap_alloc w.drew _ k hk, .inr ⟨rfl, by simp⟩⟩⟩
    · simp only [Array.size_append, List.size_toArray, List.length_append, size_zeroCells, hzs, hl, hnl, ← Nat.add_mul]
      rw [show len + m + (grownCap w (len + m) cap e - (len + m)) = grownCap w (len + m) cap e by omega]
      omega
    · rw [List.length_append, hl, hnl, ← Nat.add_mul]; exact Nat.mul_le_mul_right _ hge
    · simp only [List.drop_zero, Array.toList_append]
      exact List.take_left

/-- The walk's law: append, whatever is appended. -/
theorem wpList_append_sl {P : Program} (w : World) {ops : Array Oper} {rest : List Oper} {o : Oper} {ac : Act} {Q : Exit → Act → World → Prop} (hgd : o.guard = none) (s x : Operand) (t : TypeId)
    (ho : o.op = .call { callee := .builtin .append, args := #[s, x], argTypes := #[t, t] })
    (e : TypeId) (z : Value) (n bytes : Nat) (ht : P.underlying t = some (.slice e)) (hinfo : (P.info? e).map (fun i => (i.zero, i.size, i.bytes)) = some (some z, n, bytes)) (hzs : z.cells.size = n)
    (a : Option Addr) (len cap : Nat) (xs : List Value) (hs : ac.eval s = .slice a len cap) (hl : xs.length = len * n) (hsl : SlAt w n a cap xs) (hlc : len ≤ cap) (hcap : cap ≤ 9223372036854775807)
    (ax : Option Addr) (m c : Nat) (news : List Value) (hx : ac.eval x = .slice ax m c) (hnl : news.length = m * n) (hnews : CellsAt w ax news) (h1 : ∀ u ∈ news, u.oneCell' = true)
    (hbytes : (len + m) * bytes ≤ 140737488355328 ∧ len + m ≤ 9223372036854775807)
    (h : ∀ a' cap' w', SlAt w' n a' cap' (xs ++ news) → len + m ≤ cap' → cap' ≤ 9223372036854775807 → AppW w w' a a' → wpList P ops Q rest (ac.put o.dst (.slice a' (len + m) cap')) w') : wpList P ops Q (o :: rest) ac w := by
  obtain ⟨i, hi, hz, hsize, hby⟩ := info_parts hinfo
  obtain ⟨a', cap', w', hr, h2, h3, h4, h5⟩ := run_append_sl (P := P) w t o.type e i z n bytes ht hi hz hsize hby hzs a len cap xs hl hsl hlc ax m c news hnl hnews h1 (by simpa [maxLen] using hcap) (by simpa [maxLen] using hbytes.2) hbytes.1
  refine wpList_plain hgd fun K hK => ?_
  unfold Oper.wp execOp
  simp only [ho, resolve, invoke, builtin, Sem.run_bind, Sem.run_pure, Result.andThen_ok, List.map_toArray, List.map_cons, List.map_nil, hs, hx, hr]
  exact hK _ _ (h a' cap' w' h2 h3 (by simpa [maxLen] using h4) h5)

theorem SlAt.of_owns {w : World} {base : Nat} {e : TypeId} {n g len cap : Nat} {xs : List Value} (h : w.ownsRow base e n (.slice (some ⟨g, 0, none⟩) len cap) len xs) : SlAt w n (some ⟨g, 0, none⟩) cap xs := by
  rcases h with ⟨hl, ⟨h, _⟩ | ⟨g', cap', cur, hv, _, hg, hn, hm, hc, ht⟩⟩
  · cases h
  · cases hv
    refine .inr ⟨g, 0, cur, e, rfl, hg, by omega, ?_, ?_⟩
    · rw [hl]; exact Nat.mul_le_mul_right _ hn
    · rw [List.drop_zero, hl]; exact ht

/-- A literal slice, just laid. -/
theorem SlAt.lit (w : World) (C : Array Value) (E : TypeId) (n len : Nat) (h : C.size = len * n) : SlAt (w.alloc (.cells C E)) n (some ⟨w.heap.size, 0, none⟩) len C.toList :=
  .inr ⟨w.heap.size, 0, C, E, rfl, heap_alloc_new w _, by omega, by simp [h], by rw [List.drop_zero, List.take_length]⟩

theorem CellsAt.lit (w : World) (C : Array Value) (E : TypeId) : CellsAt (w.alloc (.cells C E)) (some ⟨w.heap.size, 0, none⟩) C.toList := by
  intro j u hj
  refine ⟨w.heap.size, 0, rfl, ?_⟩
  rw [cell_of_row _ w.heap.size _ C E (0, 0) (heap_alloc_new w _)]
  simpa using hj

/-! ## readings behind an append -/

section
variable {α : Type} {R : Cd α}

/-- A slice whose elements are owned, and one element more. -/
theorem own_snoc {lo hi lo' hi' : Nat} {w w' : World} {a a' : Option Addr} {cap cap' : Nat} {l : List α} {x : α} {xs cs : List Value} {fps fx : List Nat}
    (hel : elemsO (R.O w) xs l fps) (hn : (ablk a ++ fps).Nodup) (hin : ∀ b ∈ ablk a ++ fps, lo ≤ b ∧ b < hi)
    (hx : R.O w cs x fx) (hxn : fx.Nodup) (hxin : ∀ b ∈ fx, lo' ≤ b ∧ b < hi') (hd : hi ≤ lo') (hlo' : lo ≤ lo')
    (hs : SlAt w' R.n a' cap' (xs ++ cs)) (hc : l.length + 1 ≤ cap') (hm : cap' ≤ maxLen) (hw : AppW w w' a a') (hlo : lo ≤ w.heap.size) :
    (sliceC R).own lo w'.heap.size w' [.slice a' (l.length + 1) cap'] (l ++ [x]) := by
  have hne : ∀ b ∈ fps, b ∉ ablk a := fun b hb ha => (List.nodup_append.1 hn).2.2 b ha b hb rfl
  have hnx : ∀ b ∈ fx, b ∉ ablk a := fun b hb ha => by
    have h1 := hin b (List.mem_append_left _ ha)
    have h2 := hxin b hb
    omega
  have hlt := elemsO_lt R hel
  have hltx := R.lt hx
  have h1 := elemsO_frame R (w' := w') hel (fun b hb => hw.block b (hlt b hb) (hne b hb))
  have h2 := R.frame (w' := w') hx (fun b hb => hw.block b (hltx b hb) (hnx b hb))
  have hsz := hw.size
  refine ⟨ablk a' ++ (fps ++ fx), ⟨a', cap', xs ++ cs, fps ++ fx, by simp, by simpa using hc, hm, hs, (elemsO_append R).2 ⟨xs, cs, fps, fx, rfl, rfl, h1, cs, [], fx, [], by simp, by simp, h2, rfl, rfl⟩, rfl⟩, ?_, ?_⟩
  · have hff : (fps ++ fx).Nodup := by
      rw [List.nodup_append]
      refine ⟨(List.nodup_append.1 hn).2.1, hxn, fun b hb c hc e => ?_⟩
      subst e
      have h1 := hin b (List.mem_append_right _ hb)
      have h2 := hxin b hc
      omega
    rw [List.nodup_append]
    refine ⟨by cases a' <;> simp [ablk], hff, fun b hb c hc e => ?_⟩
    subst e
    rcases List.mem_append.1 hc with hc | hc
    · rcases hw.mem hb with hb | ⟨hb, _⟩
      · exact hne b hc hb
      · have := hlt b hc; omega
    · rcases hw.mem hb with hb | ⟨hb, _⟩
      · exact hnx b hc hb
      · have := hltx b hc; omega
  · intro b hb
    rcases List.mem_append.1 hb with hb | hb
    · have hlt' := hs.lt b hb
      rcases hw.mem hb with hb | ⟨hb, hs'⟩
      · exact ⟨(hin b (List.mem_append_left _ hb)).1, hlt'⟩
      · exact ⟨by omega, hs'⟩
    · rcases List.mem_append.1 hb with hb | hb
      · have h1 := hin b (List.mem_append_right _ hb); have := hlt b hb; exact ⟨h1.1, by omega⟩
      · have h1 := hxin b hb; have := hltx b hb
        exact ⟨by omega, by omega⟩
end

/-! ## rows of integers that may be written -/

/-- Numbers behind an address. -/
def ISl (w : World) (a : Option Addr) (cap : Nat) (l : List Int) : Prop := SlAt w 1 a cap (l.map (Value.int .i64))

theorem ISl.store {w : World} {b off cap : Nat} {l : List Int} (h : ISl w (some ⟨b, off, none⟩) cap l) {j : Nat} (hj : j < l.length) :
    (∃ x, w.cell? ⟨b, off + j, none⟩ = some (.int .i64 x) ∧ Hid (l[j]? = some x)) ∧ w.frozen? ⟨b, off + j, none⟩ = false ∧
    ∀ y : Int, ISl (w.setCell ⟨b, off + j, none⟩ (.int .i64 y)) (some ⟨b, off, none⟩) cap (l.set j y) ∧ Chg b (b + 1) w (w.setCell ⟨b, off + j, none⟩ (.int .i64 y)) := by
  have hj' : j < (l.map (Value.int .i64)).length := by simpa using hj
  refine ⟨⟨l[j], ?_, List.getElem?_eq_getElem hj⟩, (SlAt.store h hj' (.int .i64 0)).1, fun y => ?_⟩
  · rw [SlAt.cell h hj']; simp
  · obtain ⟨_, h2, h3⟩ := SlAt.store h hj' (.int .i64 y)
    exact ⟨by unfold ISl; rw [List.map_set]; exact h2, h3⟩

theorem row_own {lo hi : Nat} {w : World} {v : Value} {l : List Int} : rowC.own lo hi w [v] l ↔
    ∃ a cap, v = .slice a l.length cap ∧ l.length ≤ cap ∧ cap ≤ 9223372036854775807 ∧ ISl w a cap l ∧ ∀ b ∈ ablk a, lo ≤ b ∧ b < hi := by
  constructor
  · rintro ⟨fp, ⟨a, cap, xs, fps, h1, h2, h3, h4, h5, h6⟩, _, h8⟩
    obtain ⟨rfl, rfl⟩ := elemsO_int.1 h5
    simp only [List.cons.injEq, and_true] at h1
    subst h6
    exact ⟨a, cap, h1, h2, by simpa [maxLen] using h3, h4, fun b hb => h8 b (by simpa using hb)⟩
  · rintro ⟨a, cap, rfl, h2, h3, h4, h5⟩
    exact ⟨ablk a, ⟨a, cap, _, [], rfl, h2, by simpa [maxLen] using h3, h4, elemsO_int.2 ⟨rfl, rfl⟩, by simp⟩, by cases a <;> simp [ablk], h5⟩

/-- The walk's law: make of a row of integers. -/
theorem wpList_make_int {P : Program} (w : World) {ops : Array Oper} {rest : List Oper} {o : Oper} {a : Act} {Q : Exit → Act → World → Prop}
    (hg : o.guard = none) (l c : Operand) (t : TypeId) (hop : o.op = Op.makeSlice t l c) (e : TypeId) (h1 : P.underlying t = some (.slice e))
    (hinfo : (P.info? e).map (fun i => (i.zero, i.size, i.bytes)) = some (some (.int .i64 0), 1, 8)) (n : Nat) (hl : a.eval l = .int .i64 (n : Int)) (hc : a.eval c = .int .i64 (n : Int)) (b2 : n ≤ 4194304)
    (hK : ∀ w', ISl w' (some ⟨w.heap.size, 0, none⟩) n (List.replicate n 0) → Ext w w' → w.heap.size < w'.heap.size → wpList P ops Q rest (a.put o.dst (.slice (some ⟨w.heap.size, 0, none⟩) n n)) w') :
    wpList P ops Q (o :: rest) a w := by
  obtain ⟨i, hi, hz, hsize, hby⟩ := info_parts hinfo
  refine wpList_make_full w hg l c t hop w.heap.size e i (.int .i64 0) 1 h1 hi hz hsize .i64 .i64 _ _ n hl hc rfl rfl (by rw [hby]; omega) (by simp only [maxLen]; omega) (Nat.le_refl _) fun w' ho hgr => hK w' ?_ (Ext.grown hgr) (ho.lt _ rfl).2
  have := SlAt.of_owns ho
  unfold ISl
  rw [show (Value.int .i64 0).cells = #[Value.int .i64 0] from rfl, Nat.mul_one, toList_madeCells_one] at this
  simpa using this

theorem ISl.blk {w : World} {b off cap : Nat} {l : List Int} (h : ISl w (some ⟨b, off, none⟩) cap l) : b < w.heap.size := SlAt.lt h b (by simp [ablk])

theorem set_take_rep {l : List Int} {k n : Nat} {x z : Int} (hx : Hid (l[k]? = some x)) (hk : k < n) :
    (l.take k ++ List.replicate (n - k) z).set k x = l.take (k + 1) ++ List.replicate (n - (k + 1)) z := by
  have hlt : k < l.length := (List.getElem?_eq_some_iff.1 hx.out).1
  have e : n - k = (n - (k + 1)) + 1 := by omega
  have hl : (l.take k).length = k := by simp; omega
  rw [take_snoc hx, e, List.replicate_succ, List.set_append_right _ _ (by omega), hl, Nat.sub_self]
  simp

theorem cell_ext {w w' : World} {b o : Nat} {v : Value} (h : w.cell? ⟨b, o, none⟩ = some v) (he : Ext w w') : w'.cell? ⟨b, o, none⟩ = some v := by
  rw [he.cell (World.block_lt_of_cell? w _ h)]; exact h

theorem SlAt.some {w : World} {n cap : Nat} {a : Option Addr} {xs : List Value} (h : SlAt w n a cap xs) (hp : 0 < xs.length) : ∃ b off, a = Option.some ⟨b, off, none⟩ := by
  rcases h with ⟨_, _, rfl⟩ | ⟨b, off, _, _, rfl, _⟩
  · simp at hp
  · exact ⟨b, off, rfl⟩

theorem ISl.some {w : World} {cap : Nat} {a : Option Addr} {l : List Int} (h : ISl w a cap l) (hp : 0 < l.length) : ∃ b off, a = Option.some ⟨b, off, none⟩ := SlAt.some h (by simpa using hp)

theorem hidget {α : Type} {l : List α} {k : Nat} (h : k < l.length) : Hid (l[k]? = some l[k]) := List.getElem?_eq_getElem h

theorem take_all {α : Type} {l m : List α} {k : Nat} (hl : l.take k = m.take k) (h1 : k = l.length) (h2 : l.length = m.length) : l = m := by
  rw [List.take_of_length_le (by omega), List.take_of_length_le (by omega)] at hl
  exact hl

theorem row_cells {w : World} {v : Value} {l : List Int} (h : rowC.V w [v] l) : ∃ a cap, v = .slice a l.length cap ∧ l.length ≤ cap ∧ cap ≤ 9223372036854775807 ∧ CellsAt w a (l.map (Value.int .i64)) := by
  obtain ⟨a, cap, xs, h1, h2, h3, h4, h5⟩ := h
  rw [elemsV_int] at h5
  subst h5
  simp only [List.cons.injEq, and_true] at h1
  exact ⟨a, cap, h1, h2, by simpa [maxLen] using h3, h4⟩

theorem ints_one (l : List Int) : ∀ u ∈ l.map (Value.int .i64), u.oneCell' = true := ints_oneCell .i64 l

theorem AppW.ext {w w' : World} {a a' : Option Addr} {W : World} (h : AppW w w' a a') (he : Ext W w) (ha : ∀ b ∈ ablk a, W.heap.size ≤ b) : Ext W w' :=
  ⟨h.os.trans he.os, h.tape.trans he.tape, h.output.trans he.output, Nat.le_trans he.size h.size,
    fun k hk _ => (h.block k (Nat.lt_of_lt_of_le hk he.size) (fun hm => by have := ha k hm; omega)).trans (he.block k hk)⟩

/-- The walk's law: append of numbers to numbers. -/
theorem wpList_append_ints {P : Program} (w : World) {ops : Array Oper} {rest : List Oper} {o : Oper} {ac : Act} {Q : Exit → Act → World → Prop} (hgd : o.guard = none) (s x : Operand) (t : TypeId)
    (ho : o.op = .call { callee := .builtin .append, args := #[s, x], argTypes := #[t, t] })
    (e : TypeId) (ht : P.underlying t = some (.slice e)) (hinfo : (P.info? e).map (fun i => (i.zero, i.size, i.bytes)) = some (some (.int .i64 0), 1, 8))
    (a : Option Addr) (len cap : Nat) (l : List Int) (hs : ac.eval s = .slice a len cap) (hl : l.length = len) (hsl : ISl w a cap l) (hlc : len ≤ cap) (hcap : cap ≤ 9223372036854775807)
    (ax : Option Addr) (m c : Nat) (news : List Int) (hx : ac.eval x = .slice ax m c) (hnl : news.length = m) (hnews : CellsAt w ax (news.map (Value.int .i64))) (hb : len + m ≤ 8388608)
    (h : ∀ a' cap' w', ISl w' a' cap' (l ++ news) → len + m ≤ cap' → cap' ≤ 9223372036854775807 → AppW w w' a a' → wpList P ops Q rest (ac.put o.dst (.slice a' (len + m) cap')) w') : wpList P ops Q (o :: rest) ac w :=
  wpList_append_sl w hgd s x t ho e (.int .i64 0) 1 8 ht hinfo rfl a len cap (l.map (Value.int .i64)) hs (by simp [hl]) hsl hlc hcap ax m c (news.map (Value.int .i64)) hx (by simp [hnl]) hnews (ints_one _)
    (by omega) fun a' cap' w' h1 h2 h3 h4 => h a' cap' w' (by unfold ISl; rw [List.map_append]; exact h1) h2 h3 h4

/-- A row behind an append. -/
theorem row_app {lo : Nat} {w w' : World} {a a' : Option Addr} {cap' n : Nat} {l : List Int} (hI : ISl w' a' cap' l) (hn : n = l.length) (hc : n ≤ cap') (hm : cap' ≤ 9223372036854775807) (hw : AppW w w' a a') (hlo : lo ≤ w.heap.size) (ha : ∀ b ∈ ablk a, lo ≤ b) :
    rowC.own lo w'.heap.size w' [.slice a' n cap'] l := by
  refine row_own.2 ⟨a', cap', by rw [hn], by omega, hm, hI, fun b hb => ⟨?_, SlAt.lt hI b hb⟩⟩
  rcases hw.mem hb with h | ⟨h, _⟩
  · exact ha b h
  · omega

theorem ISl.lit (w : World) (l : List Int) (C : Array Value) (E : TypeId) (hC : C.toList = l.map (Value.int .i64)) : ISl (w.alloc (.cells C E)) (Option.some ⟨w.heap.size, 0, none⟩) l.length l := by
  unfold ISl
  rw [← hC]
  exact SlAt.lit w C E 1 l.length (by rw [← Array.length_toList, hC]; simp)

/-- What a walk may use of a world that has grown: old cells and marks read as before. -/
theorem Ext.rules {W w1 : World} (h : Ext W w1) : (∀ b o, b < W.heap.size → w1.cell? ⟨b, o, none⟩ = W.cell? ⟨b, o, none⟩) ∧ (∀ b o, b < W.heap.size → w1.frozen? ⟨b, o, none⟩ = W.frozen? ⟨b, o, none⟩) ∧ W.heap.size ≤ w1.heap.size :=
  ⟨fun _ _ hb => h.cell hb, fun _ _ hb => h.frozen hb, h.size⟩

theorem Ext.setNew {W w1 : World} (h : Ext W w1) {a : Addr} (ha : W.heap.size ≤ a.block) (v : Value) : Ext W (w1.setCell a v) :=
  Chg.ext h (Chg.setCell w1 a v (lo := a.block) (hi := a.block + 1) (Nat.le_refl _) (Nat.lt_succ_self _)) ha

theorem Ext.pAlloc {W w1 : World} (h : Ext W w1) (o : Obj) : Ext W (w1.alloc o) := h.trans (Ext.alloc _ _)
theorem Ext.pDrew {W w1 : World} (h : Ext W w1) : Ext W w1.drew := h.trans (Ext.drew _)
theorem Ext.pDrewN {W w1 : World} (h : Ext W w1) (n : Nat) : Ext W (w1.drewN n) := h.trans (Ext.drewN _ _)
theorem Ext.pSet {W w1 : World} (h : Ext W w1) {a : Addr} (ha : W.heap.size ≤ a.block) (v : Value) : Ext W (w1.setCell a v) := h.setNew ha v

theorem row_nil (lo hi : Nat) (w : World) : rowC.own lo hi w [.slice none 0 0] [] :=
  row_own.2 ⟨none, 0, rfl, Nat.le_refl _, by omega, .inl ⟨rfl, rfl, rfl⟩, by simp [ablk]⟩

theorem row_empty (lo : Nat) (w : World) (E : TypeId) (h : lo ≤ w.heap.size) : rowC.own lo (w.alloc (.cells #[] E)).heap.size (w.alloc (.cells #[] E)) [.slice (Option.some ⟨w.heap.size, 0, none⟩) 0 0] [] :=
  row_own.2 ⟨_, 0, rfl, Nat.le_refl _, by omega, ISl.lit w [] #[] E rfl, by simp [ablk]; exact h⟩

/-- What a walk takes of a row that it owns. -/
theorem row_take {lo hi : Nat} {w : World} {v : Value} {l : List Int} (h : rowC.own lo hi w [v] l) :
    ∃ a cap, v = .slice a l.length cap ∧ l.length ≤ cap ∧ cap ≤ 9223372036854775807 ∧ ISl w a cap l ∧ ∀ b ∈ ablk a, lo ≤ b ∧ b < hi := row_own.1 h

theorem ISl.ext {w w' : World} {a : Option Addr} {cap : Nat} {l : List Int} (h : ISl w a cap l) (he : Ext w w') : ISl w' a cap l :=
  SlAt.frame h (fun b hb => he.block b (SlAt.lt h b hb))

/-- A store below what is owned. -/
theorem own_set {α : Type} {R : Cd α} {lo hi : Nat} {w : World} {cs : List Value} {x : α} (h : R.own lo hi w cs x) {a : Addr} (ha : a.block < lo) (v : Value) : R.own lo hi (w.setCell a v) cs x :=
  h.chg (Chg.setCell w a v (lo := a.block) (hi := a.block + 1) (Nat.le_refl _) (Nat.lt_succ_self _)) (.inr ha)

theorem cell_chg {lo hi : Nat} {w w' : World} {b o : Nat} {v : Value} (h : w.cell? ⟨b, o, none⟩ = some v) (hc : Chg lo hi w w') (hd : b < lo ∨ hi ≤ b) : w'.cell? ⟨b, o, none⟩ = some v := by
  have hb := World.block_lt_of_cell? w _ h
  rw [World.cell?_of_block (w := w) (hc.block b hb (by omega))]; exact h

theorem box_fact (w : World) (C : Array Value) (E : TypeId) (j : Nat) (v : Value) (h : C[j]? = some v) : (w.alloc (.cells C E)).cell? ⟨w.heap.size, j, none⟩ = some v := by
  rw [cell_of_row _ w.heap.size j C E (0, 0) (heap_alloc_new w _)]; exact h

/-- A callee that leaves the world alone, in a region that draws its order. -/
theorem quiet_eq {P : Program} {f : FuncId} {args : Array Value} {w : World} {n : Nat} {v : Value}
    (h : Calls P f args (w.drewN n) fun e w' => e = .returned v ∧ w.drewN n = w') : Calls P f args (w.drewN n) fun e w'' => e = .returned v ∧ ∃ m, w'' = w.drewN m :=
  h.mono fun _ _ ⟨he, hm⟩ => ⟨he, n, hm.symm⟩
theorem quiet_drawn {P : Program} {f : FuncId} {args : Array Value} {w : World} {n : Nat} {v : Value}
    (h : Calls P f args (w.drewN n) fun e w' => e = .returned v ∧ ∃ m, w' = (w.drewN n).drewN m) : Calls P f args (w.drewN n) fun e w'' => e = .returned v ∧ ∃ m, w'' = w.drewN m :=
  Calls.quiet_of h
theorem Ext.of_drewN {w w' : World} (h : ∃ n, w' = w.drewN n) : Ext w w' := let ⟨n, h⟩ := h; h ▸ Ext.drewN w n

/-- The first k numbers of a row. -/
theorem row_pre {w : World} {a : Option Addr} {n cap k : Nat} {l : List Int} (h : rowC.V w [.slice a n cap] l) (hk : k ≤ l.length) : rowC.V w [.slice a k cap] (l.take k) := by
  obtain ⟨a', cap', xs, h1, h2, h3, h4, h5⟩ := h
  rw [elemsV_int] at h5
  subst h5
  simp only [List.cons.injEq, Value.slice.injEq, and_true] at h1
  obtain ⟨rfl, rfl, rfl⟩ := h1
  refine ⟨a, cap, _, by rw [List.length_take, Nat.min_eq_left hk], by rw [List.length_take]; omega, h3, ?_, elemsV_int.2 rfl⟩
  intro j u hj
  refine h4 j u ?_
  rw [List.map_take, List.getElem?_take] at hj
  split at hj
  · exact hj
  · cases hj

theorem ISl.litAt (w : World) (E : TypeId) (n : Nat) (hn : n = w.heap.size) : ISl (w.alloc (.cells #[] E)) (Option.some ⟨n, 0, none⟩) 0 [] := by
  subst hn; exact ISl.lit w [] #[] E rfl

theorem CellsAt.litAt (w : World) (C : Array Value) (E : TypeId) (n : Nat) (hn : n = w.heap.size) : CellsAt (w.alloc (.cells C E)) (Option.some ⟨n, 0, none⟩) C.toList := by
  subst hn; exact CellsAt.lit w C E

/-- A variable's cell: its value, and that it may be written. -/
def Var (w : World) (b o : Nat) (v : Value) : Prop := w.cell? ⟨b, o, none⟩ = Option.some v ∧ w.frozen? ⟨b, o, none⟩ = false

theorem Var.lt {w : World} {b o : Nat} {v : Value} (h : Var w b o v) : b < w.heap.size := World.block_lt_of_cell? w _ h.1
theorem Var.of_block {w w' : World} {b o : Nat} {v : Value} (h : Var w b o v) (hb : w'.heap[b]? = w.heap[b]?) : Var w' b o v :=
  ⟨by rw [World.cell?_of_block (w := w) hb]; exact h.1, by rw [World.frozen?_of_block (w := w) hb]; exact h.2⟩
theorem Var.ext {w w' : World} {b o : Nat} {v : Value} (h : Var w b o v) (he : Ext w w') : Var w' b o v := h.of_block (he.block b h.lt)
theorem Var.chg {lo hi : Nat} {w w' : World} {b o : Nat} {v : Value} (h : Var w b o v) (hc : Chg lo hi w w') (hd : b < lo ∨ hi ≤ b) : Var w' b o v := h.of_block (hc.block b h.lt (by omega))
theorem Var.app {w w' : World} {a a' : Option Addr} {b o : Nat} {v : Value} (h : Var w b o v) (he : AppW w w' a a') (hn : b ∉ ablk a) : Var w' b o v := h.of_block (he.block b h.lt hn)
theorem Var.set {w : World} {b o : Nat} {v : Value} (h : Var w b o v) (u : Value) : Var (w.setCell ⟨b, o, none⟩ u) b o u :=
  ⟨World.cell?_setCell_same _ _ _ h.1, by simpa using h.2⟩
theorem Var.set_other {w : World} {b o b' o' : Nat} {v : Value} (h : Var w b o v) (u : Value) (hn : b' ≠ b ∨ o' ≠ o) : Var (w.setCell ⟨b', o', none⟩ u) b o v :=
  ⟨by rw [World.cell?_setCell_other _ _ _ _ (by intro e; simp at e; omega)]; exact h.1, by simpa using h.2⟩
theorem Var.new (w : World) (C : Array Value) (E : TypeId) (n j : Nat) (v : Value) (hn : n = w.heap.size) (h : C[j]? = Option.some v) : Var (w.alloc (.cells C E)) n j v := by
  subst hn
  exact ⟨box_fact w C E j v h, unfrozen (heap_alloc_new w _)⟩

/-- The walk's law: make, of whatever element. -/
theorem wpList_make_sl {P : Program} (w : World) {ops : Array Oper} {rest : List Oper} {o : Oper} {a : Act} {Q : Exit → Act → World → Prop}
    (hg : o.guard = none) (l c : Operand) (t : TypeId) (hop : o.op = Op.makeSlice t l c) (e : TypeId) (h1 : P.underlying t = some (.slice e)) (z : Value) (size bytes : Nat)
    (hinfo : (P.info? e).map (fun i => (i.zero, i.size, i.bytes)) = some (some z, size, bytes)) (n : Nat) (hl : a.eval l = .int .i64 (n : Int)) (hc : a.eval c = .int .i64 (n : Int)) (b2 : bytes * n ≤ 281474976710656) (b3 : n ≤ 4194304)
    (hK : ∀ w' zs, SlAt w' size (some ⟨w.heap.size, 0, none⟩) n zs → zs.length = n * size → zs = (madeCells z.cells (n * size)).toList → Ext w w' → w.heap.size < w'.heap.size → wpList P ops Q rest (a.put o.dst (.slice (some ⟨w.heap.size, 0, none⟩) n n)) w') :
    wpList P ops Q (o :: rest) a w := by
  obtain ⟨i, hi, hz, hsize, hby⟩ := info_parts hinfo
  refine wpList_make_full w hg l c t hop w.heap.size e i z size h1 hi hz hsize .i64 .i64 _ _ n hl hc rfl rfl (by rw [hby]; omega) (by simp only [maxLen]; omega) (Nat.le_refl _) fun w' ho hgr => hK w' _ (SlAt.of_owns ho) ho.1 rfl (Ext.grown hgr) (ho.lt _ rfl).2

end Go.Sl
