/- One element appended to a slice that is owned, as a region that draws its order meets it. -/
import Derived.Test.YtbapomhoipdanaaGen
import Derived.Test.YtbapomhoipdanaaTill
set_option linter.unusedVariables false
set_option linter.unusedSimpArgs false
namespace Go.Sl
open Go.RowKit

theorem opwp_snocC {α : Type} {R : Cd α} {P : Program} {w : World} {o : Oper} {ac : Act} {K : Act → World → Prop} {Q : Exit → Act → World → Prop} (s x : Operand) (t : TypeId)
    (ho : o.op = .call { callee := .builtin .append, args := #[s, x], argTypes := #[t, t] })
    (e : TypeId) (z : Value) (bytes : Nat) (ht : P.underlying t = some (.slice e)) (hinfo : (P.info? e).map (fun i => (i.zero, i.size, i.bytes)) = some (some z, R.n, bytes)) (hzs : z.cells.size = R.n)
    {lo hi lo' hi' : Nat} {sv : Value} {l : List α} {y : α} {cs : List Value} (hO : (sliceC R).own lo hi w [sv] l) (hs : ac.eval s = sv)
    (hy : R.own lo' hi' w cs y) (hd : hi ≤ lo') (hlo' : lo ≤ lo') (hlo : lo ≤ w.heap.size)
    (ax : Option Addr) (c : Nat) (hx : ac.eval x = .slice ax 1 c) (hcs : CellsAt w ax cs) (hb : (l.length + 1) * bytes ≤ 140737488355328 ∧ l.length + 1 ≤ 9223372036854775807)
    (h : ∀ v' w', (∃ a' cap', v' = .slice a' (l.length + 1) cap') → (sliceC R).own lo w'.heap.size w' [v'] (l ++ [y]) → Chg lo hi w w' → K (ac.put o.dst v') w') : Oper.wp P o ac w K Q := by
  obtain ⟨fp, ⟨a, cap, xs, fps, h1, h2, h3, h4, h5, rfl⟩, hn, hin⟩ := hO
  cases h1
  obtain ⟨fx, hx1, hxn, hxin⟩ := hy
  obtain ⟨i, hi', hz, hsize, hby⟩ := info_parts hinfo
  have hlx : xs.length = l.length * R.n := elemsV_len R (elemsO_view R h5)
  obtain ⟨a', cap', w', hr, g1, g2, g3, g4⟩ := run_append_sl (P := P) w t o.type e i z R.n bytes ht hi' hz hsize hby hzs a l.length cap xs hlx h4 h2 ax 1 c cs (by rw [R.len (R.view hx1)]; omega) hcs (R.one (R.view hx1)) h3 (by simpa [maxLen] using hb.2) hb.1
  unfold Oper.wp execOp
  simp only [ho, resolve, invoke, builtin, Sem.run_bind, Sem.run_pure, Result.andThen_ok, List.map_toArray, List.map_cons, List.map_nil, hs, hx, hr]
  exact h _ _ ⟨a', cap', rfl⟩ (own_snoc (cap := cap) h5 hn hin hx1 hxn hxin hd hlo' g1 g2 g3 g4 hlo) (g4.chg (fun b hb => hin b (List.mem_append_left _ hb)))

theorem wpList_snocC {α : Type} {R : Cd α} {P : Program} {w : World} {ops : Array Oper} {rest : List Oper} {o : Oper} {ac : Act} {Q : Exit → Act → World → Prop} (hgd : o.guard = none) (s x : Operand) (t : TypeId)
    (ho : o.op = .call { callee := .builtin .append, args := #[s, x], argTypes := #[t, t] })
    (e : TypeId) (z : Value) (bytes : Nat) (ht : P.underlying t = some (.slice e)) (hinfo : (P.info? e).map (fun i => (i.zero, i.size, i.bytes)) = some (some z, R.n, bytes)) (hzs : z.cells.size = R.n)
    {lo hi lo' hi' : Nat} {sv : Value} {l : List α} {y : α} {cs : List Value} (hO : (sliceC R).own lo hi w [sv] l) (hs : ac.eval s = sv)
    (hy : R.own lo' hi' w cs y) (hd : hi ≤ lo') (hlo' : lo ≤ lo') (hlo : lo ≤ w.heap.size)
    (ax : Option Addr) (c : Nat) (hx : ac.eval x = .slice ax 1 c) (hcs : CellsAt w ax cs) (hb : (l.length + 1) * bytes ≤ 140737488355328 ∧ l.length + 1 ≤ 9223372036854775807)
    (h : ∀ v' w', (∃ a' cap', v' = .slice a' (l.length + 1) cap') → (sliceC R).own lo w'.heap.size w' [v'] (l ++ [y]) → Chg lo hi w w' → wpList P ops Q rest (ac.put o.dst v') w') : wpList P ops Q (o :: rest) ac w :=
  wpList_plain hgd fun K hK => opwp_snocC s x t ho e z bytes ht hinfo hzs hO hs hy hd hlo' hlo ax c hx hcs hb fun v' w' h1 h2 h3 => hK _ _ (h v' w' h1 h2 h3)

theorem wpList_make_room {α : Type} {R : Cd α} {P : Program} (w : World) {ops : Array Oper} {rest : List Oper} {o : Oper} {a : Act} {Q : Exit → Act → World → Prop}
    (hg : o.guard = none) (l c : Operand) (t : TypeId) (hop : o.op = Op.makeSlice t l c) (e : TypeId) (h1 : P.underlying t = some (.slice e)) (z : Value) (bytes : Nat)
    (hinfo : (P.info? e).map (fun i => (i.zero, i.size, i.bytes)) = some (some z, R.n, bytes)) (n : Nat) (hl : a.eval l = .int .i64 0) (hc : a.eval c = .int .i64 (n : Int)) (b2 : bytes * n ≤ 281474976710656) (b3 : n ≤ 4194304)
    (hK : ∀ w', (sliceC R).own w.heap.size w'.heap.size w' [.slice (some ⟨w.heap.size, 0, none⟩) 0 n] [] → Ext w w' → wpList P ops Q rest (a.put o.dst (.slice (some ⟨w.heap.size, 0, none⟩) 0 n)) w') :
    wpList P ops Q (o :: rest) a w := by
  obtain ⟨i, hi, hz, hsize, hby⟩ := info_parts hinfo
  refine wpList_make_own w hg l c t hop w.heap.size e i z R.n h1 hi hz hsize .i64 .i64 _ n hl hc rfl (by rw [hby]; omega) (by simp only [maxLen]; omega) (Nat.le_refl _) fun w' ho hgr => hK w' ?_ (Ext.grown hgr)
  exact ⟨[w.heap.size], ⟨_, n, [], [], rfl, Nat.zero_le _, by simp only [maxLen]; omega, SlAt.of_owns ho, ⟨rfl, rfl⟩, rfl⟩, by simp, fun b hb => by
    rw [List.mem_singleton.1 hb]; exact ⟨Nat.le_refl _, (ho.lt _ rfl).2⟩⟩
/-! ## boxes: blocks of a call's own that are known whole -/

/-- Block b is known whole, and may be written. -/
def Bx (w : World) (b : Nat) (cs : List Value) : Prop := ∃ E, w.heap[b]? = some (.cells cs.toArray E (0, 0))

theorem Bx.lt {w : World} {b : Nat} {cs : List Value} (h : Bx w b cs) : b < w.heap.size := by
  obtain ⟨E, h⟩ := h; exact (Array.getElem?_eq_some_iff.1 h).1
theorem Bx.cell {w : World} {b : Nat} {cs : List Value} (h : Bx w b cs) (j : Nat) (u : Value) (hj : cs[j]? = some u) : w.cell? ⟨b, j, none⟩ = some u := by
  obtain ⟨E, h⟩ := h; rw [cell_of_row w b j _ E (0, 0) h]; simpa using hj
theorem Bx.fr {w : World} {b : Nat} {cs : List Value} (h : Bx w b cs) : ∀ o, w.frozen? ⟨b, o, none⟩ = false := fun o => by
  obtain ⟨E, h⟩ := h; exact unfrozen h
theorem Bx.of_block {w w' : World} {b : Nat} {cs : List Value} (h : Bx w b cs) (hb : w'.heap[b]? = w.heap[b]?) : Bx w' b cs := by
  obtain ⟨E, h⟩ := h; exact ⟨E, hb.trans h⟩
theorem Bx.ext {w w' : World} {b : Nat} {cs : List Value} (h : Bx w b cs) (he : Ext w w') : Bx w' b cs := h.of_block (he.block b h.lt)
theorem Bx.chg {w w' : World} {b lo hi : Nat} {cs : List Value} (h : Bx w b cs) (he : Chg lo hi w w') (hd : b < lo ∨ hi ≤ b) : Bx w' b cs := h.of_block (he.block b h.lt (by omega))
theorem Bx.pAlloc {w : World} {b : Nat} {cs : List Value} (h : Bx w b cs) (o : Obj) : Bx (w.alloc o) b cs := h.ext (Ext.alloc _ _)
theorem Bx.pDrew {w : World} {b : Nat} {cs : List Value} (h : Bx w b cs) : Bx w.drew b cs := h.ext (Ext.drew _)
theorem Bx.pDrewN {w : World} {b : Nat} {cs : List Value} (h : Bx w b cs) (n : Nat) : Bx (w.drewN n) b cs := h.ext (Ext.drewN _ _)
theorem Bx.set {w : World} {b j : Nat} {cs : List Value} (h : Bx w b cs) (v : Value) : Bx (w.setCell ⟨b, j, none⟩ v) b (cs.set j v) := by
  obtain ⟨E, h⟩ := h
  exact ⟨E, by rw [setCell_block h]; simp⟩
theorem Bx.set10 {w : World} {b : Nat} {x : Value} (h : Bx w b [x]) (v : Value) : Bx (w.setCell ⟨b, 0, none⟩ v) b [v] := h.set v
theorem Bx.set20 {w : World} {b : Nat} {x y : Value} (h : Bx w b [x, y]) (v : Value) : Bx (w.setCell ⟨b, 0, none⟩ v) b [v, y] := h.set v
theorem Bx.set21 {w : World} {b : Nat} {x y : Value} (h : Bx w b [x, y]) (v : Value) : Bx (w.setCell ⟨b, 1, none⟩ v) b [x, v] := h.set v
theorem Bx.set30 {w : World} {b : Nat} {x y z : Value} (h : Bx w b [x, y, z]) (v : Value) : Bx (w.setCell ⟨b, 0, none⟩ v) b [v, y, z] := h.set v
theorem Bx.set31 {w : World} {b : Nat} {x y z : Value} (h : Bx w b [x, y, z]) (v : Value) : Bx (w.setCell ⟨b, 1, none⟩ v) b [x, v, z] := h.set v
theorem Bx.set32 {w : World} {b : Nat} {x y z : Value} (h : Bx w b [x, y, z]) (v : Value) : Bx (w.setCell ⟨b, 2, none⟩ v) b [x, y, v] := h.set v
theorem Bx.set40 {w : World} {b : Nat} {x y z u : Value} (h : Bx w b [x, y, z, u]) (v : Value) : Bx (w.setCell ⟨b, 0, none⟩ v) b [v, y, z, u] := h.set v
theorem Bx.set41 {w : World} {b : Nat} {x y z u : Value} (h : Bx w b [x, y, z, u]) (v : Value) : Bx (w.setCell ⟨b, 1, none⟩ v) b [x, v, z, u] := h.set v
theorem Bx.set42 {w : World} {b : Nat} {x y z u : Value} (h : Bx w b [x, y, z, u]) (v : Value) : Bx (w.setCell ⟨b, 2, none⟩ v) b [x, y, v, u] := h.set v
theorem Bx.set43 {w : World} {b : Nat} {x y z u : Value} (h : Bx w b [x, y, z, u]) (v : Value) : Bx (w.setCell ⟨b, 3, none⟩ v) b [x, y, z, v] := h.set v
theorem Bx.set_other {w : World} {b b' j : Nat} {cs : List Value} (h : Bx w b cs) (hn : b ≠ b') (v : Value) : Bx (w.setCell ⟨b', j, none⟩ v) b cs :=
  h.of_block (Below.heap_setCell _ _ _ _ hn)
theorem Bx.new (w : World) (C : Array Value) (E : TypeId) (b : Nat) (hn : b = w.heap.size) : Bx (w.alloc (.cells C E)) b C.toList := by
  subst hn; exact ⟨E, heap_alloc_new w _⟩

theorem Cd.own.pAlloc {α : Type} {R : Cd α} {lo hi : Nat} {w : World} {cs : List Value} {x : α} (h : R.own lo hi w cs x) (o : Obj) : R.own lo hi (w.alloc o) cs x := h.ext (Ext.alloc _ _)
theorem Cd.own.pDrew {α : Type} {R : Cd α} {lo hi : Nat} {w : World} {cs : List Value} {x : α} (h : R.own lo hi w cs x) : R.own lo hi w.drew cs x := h.ext (Ext.drew _)
theorem Cd.own.pDrewN {α : Type} {R : Cd α} {lo hi : Nat} {w : World} {cs : List Value} {x : α} (h : R.own lo hi w cs x) (n : Nat) : R.own lo hi (w.drewN n) cs x := h.ext (Ext.drewN _ _)
theorem Cd.own.pSet {α : Type} {R : Cd α} {lo hi : Nat} {w : World} {cs : List Value} {x : α} (h : R.own lo hi w cs x) {a : Addr} (ha : a.block < lo ∨ hi ≤ a.block) (v : Value) : R.own lo hi (w.setCell a v) cs x :=
  h.chg (Chg.setCell w a v (lo := a.block) (hi := a.block + 1) (Nat.le_refl _) (Nat.lt_succ_self _)) (by omega)

theorem frozen_ext {w w' : World} {b o o' : Nat} {v : Value} (hc : w.cell? ⟨b, o', none⟩ = some v) (h : w.frozen? ⟨b, o, none⟩ = false) (he : Ext w w') : w'.frozen? ⟨b, o, none⟩ = false := by
  rw [he.frozen (World.block_lt_of_cell? w _ hc)]; exact h
theorem frozen_chg {lo hi : Nat} {w w' : World} {b o o' : Nat} {v : Value} (hc : w.cell? ⟨b, o', none⟩ = some v) (h : w.frozen? ⟨b, o, none⟩ = false) (he : Chg lo hi w w') (hd : b < lo ∨ hi ≤ b) : w'.frozen? ⟨b, o, none⟩ = false := by
  have hb := World.block_lt_of_cell? w _ hc
  rw [World.frozen?_of_block (w := w) (he.block b hb (by omega))]; exact h
/-! ## an element appended, and where what is owned does not lie -/

/-- All that x leads to lies in two stretches of blocks, none twice. -/
def Cd.own2 {α : Type} (R : Cd α) (lo hi lo2 hi2 : Nat) (w : World) (cs : List Value) (x : α) : Prop := ∃ fp, R.O w cs x fp ∧ fp.Nodup ∧ ∀ b ∈ fp, (lo ≤ b ∧ b < hi) ∨ (lo2 ≤ b ∧ b < hi2)
theorem Cd.own2.own {α : Type} {R : Cd α} {lo hi lo2 hi2 : Nat} {w : World} {cs : List Value} {x : α} (h : R.own2 lo hi lo2 hi2 w cs x) (h1 : lo ≤ lo2) (h2 : hi ≤ hi2) : R.own lo hi2 w cs x := by
  obtain ⟨fp, a, b, c⟩ := h
  exact ⟨fp, a, b, fun i hi => by have := c i hi; omega⟩
theorem Cd.own2.set {α : Type} {R : Cd α} {lo hi lo2 hi2 : Nat} {w : World} {cs : List Value} {x : α} (h : R.own2 lo hi lo2 hi2 w cs x) {a : Addr} (ha : ¬ (lo ≤ a.block ∧ a.block < hi) ∧ ¬ (lo2 ≤ a.block ∧ a.block < hi2)) (v : Value) : R.own2 lo hi lo2 hi2 (w.setCell a v) cs x := by
  obtain ⟨fp, h1, h2, h3⟩ := h
  exact ⟨fp, R.frame h1 (fun b hb => Below.heap_setCell _ _ _ _ (fun e => by have := h3 b hb; omega)), h2, h3⟩
theorem Cd.own2.ext {α : Type} {R : Cd α} {lo hi lo2 hi2 : Nat} {w w' : World} {cs : List Value} {x : α} (h : R.own2 lo hi lo2 hi2 w cs x) (he : Ext w w') : R.own2 lo hi lo2 hi2 w' cs x := by
  obtain ⟨fp, h1, h2, h3⟩ := h
  exact ⟨fp, R.frame h1 (fun b hb => he.block b (R.lt h1 b hb)), h2, h3⟩

theorem own_snoc2 {α : Type} {R : Cd α} {lo hi lo' hi' : Nat} {w w' : World} {a a' : Option Addr} {cap cap' : Nat} {l : List α} {x : α} {xs cs : List Value} {fps fx : List Nat}
    (hel : elemsO (R.O w) xs l fps) (hn : (ablk a ++ fps).Nodup) (hin : ∀ b ∈ ablk a ++ fps, lo ≤ b ∧ b < hi)
    (hx : R.O w cs x fx) (hxn : fx.Nodup) (hxin : ∀ b ∈ fx, lo' ≤ b ∧ b < hi') (hd : hi ≤ lo')
    (hs : SlAt w' R.n a' cap' (xs ++ cs)) (hc : l.length + 1 ≤ cap') (hm : cap' ≤ maxLen) (hw : AppW w w' a a') (hlo : lo' ≤ w.heap.size) :
    (sliceC R).own2 lo hi lo' w'.heap.size w' [.slice a' (l.length + 1) cap'] (l ++ [x]) := by
  have hne : ∀ b ∈ fps, b ∉ ablk a := fun b hb ha => (List.nodup_append.1 hn).2.2 b ha b hb rfl
  have hnx : ∀ b ∈ fx, b ∉ ablk a := fun b hb ha => by
    have h1 := hin b (List.mem_append_left _ ha)
    have h2 := hxin b hb
    omega
  have hlt := elemsO_lt R hel
  have hltx := R.lt hx
  have h1 := elemsO_frame R (w' := w') hel (fun b hb => hw.block b (hlt b hb) (hne b hb))
  have h2 := R.frame (w' := w') hx (fun b hb => hw.block b (hltx b hb) (hnx b hb))
  have hsz := hw.size
  refine ⟨ablk a' ++ (fps ++ fx), ⟨a', cap', xs ++ cs, fps ++ fx, by simp, by simpa using hc, hm, hs, (elemsO_append R).2 ⟨xs, cs, fps, fx, rfl, rfl, h1, cs, [], fx, [], by simp, by simp, h2, rfl, rfl⟩, rfl⟩, ?_, ?_⟩
  · have hff : (fps ++ fx).Nodup := by
      rw [List.nodup_append]
      refine ⟨(List.nodup_append.1 hn).2.1, hxn, fun b hb c hc e => ?_⟩
      subst e
      have h1 := hin b (List.mem_append_right _ hb)
      have h2 := hxin b hc
      omega
    rw [List.nodup_append]
    refine ⟨by cases a' <;> simp [ablk], hff, fun b hb c hc e => ?_⟩
    subst e
    rcases List.mem_append.1 hc with hc | hc
    · rcases hw.mem hb with hb | ⟨hb, _⟩
      · exact hne b hc hb
      · have := hlt b hc; omega
    · rcases hw.mem hb with hb | ⟨hb, _⟩
      · exact hnx b hc hb
      · have := hltx b hc; omega
  · intro b hb
    rcases List.mem_append.1 hb with hb | hb
    · have hlt' := hs.lt b hb
      rcases hw.mem hb with hb | ⟨hb, hs'⟩
      · exact .inl (hin b (List.mem_append_left _ hb))
      · exact .inr ⟨by omega, hs'⟩
    · rcases List.mem_append.1 hb with hb | hb
      · exact .inl (hin b (List.mem_append_right _ hb))
      · have h1 := hxin b hb; have := hltx b hb
        exact .inr ⟨by omega, by omega⟩

theorem opwp_snoc2 {α : Type} {R : Cd α} {P : Program} {w : World} {o : Oper} {ac : Act} {K : Act → World → Prop} {Q : Exit → Act → World → Prop} (s x : Operand) (t : TypeId)
    (ho : o.op = .call { callee := .builtin .append, args := #[s, x], argTypes := #[t, t] })
    (e : TypeId) (z : Value) (bytes : Nat) (ht : P.underlying t = some (.slice e)) (hinfo : (P.info? e).map (fun i => (i.zero, i.size, i.bytes)) = some (some z, R.n, bytes)) (hzs : z.cells.size = R.n)
    {lo hi lo' hi' : Nat} {sv : Value} {l : List α} {y : α} {cs : List Value} (hO : (sliceC R).own lo hi w [sv] l) (hs : ac.eval s = sv)
    (hy : R.own lo' hi' w cs y) (hd : hi ≤ lo') (hlo : lo' ≤ w.heap.size)
    (ax : Option Addr) (c : Nat) (hx : ac.eval x = .slice ax 1 c) (hcs : CellsAt w ax cs) (hb : (l.length + 1) * bytes ≤ 140737488355328 ∧ l.length + 1 ≤ 9223372036854775807)
    (h : ∀ v' w', (∃ a' cap', v' = .slice a' (l.length + 1) cap') → (sliceC R).own2 lo hi lo' w'.heap.size w' [v'] (l ++ [y]) → Chg lo hi w w' → K (ac.put o.dst v') w') : Oper.wp P o ac w K Q := by
  obtain ⟨fp, ⟨a, cap, xs, fps, h1, h2, h3, h4, h5, rfl⟩, hn, hin⟩ := hO
  cases h1
  obtain ⟨fx, hx1, hxn, hxin⟩ := hy
  obtain ⟨i, hi', hz, hsize, hby⟩ := info_parts hinfo
  have hlx : xs.length = l.length * R.n := elemsV_len R (elemsO_view R h5)
  obtain ⟨a', cap', w', hr, g1, g2, g3, g4⟩ := run_append_sl (P := P) w t o.type e i z R.n bytes ht hi' hz hsize hby hzs a l.length cap xs hlx h4 h2 ax 1 c cs (by rw [R.len (R.view hx1)]; omega) hcs (R.one (R.view hx1)) h3 (by simpa [maxLen] using hb.2) hb.1
  unfold Oper.wp execOp
  simp only [ho, resolve, invoke, builtin, Sem.run_bind, Sem.run_pure, Result.andThen_ok, List.map_toArray, List.map_cons, List.map_nil, hs, hx, hr]
  exact h _ _ ⟨a', cap', rfl⟩ (own_snoc2 (cap := cap) h5 hn hin hx1 hxn hxin hd g1 g2 g3 g4 hlo) (g4.chg (fun b hb => hin b (List.mem_append_left _ hb)))
end Go.Sl
