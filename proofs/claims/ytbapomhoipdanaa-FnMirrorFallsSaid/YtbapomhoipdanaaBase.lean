/- Readings of memory: how the cells of a value read as plain data, which blocks it owns, and how a world that has grown keeps a reading. Plain lemmas, over every program. -/
import Derived.WalkKit
import Derived.WalkSpells
import Derived.Deep.AppendSrc
import Derived.Deep.QuietTactic
import Derived.BigQuiet
import Derived.Lib.Hide
set_option linter.unusedVariables false
set_option linter.unusedSimpArgs false
namespace Go.Sl
open Go.RowKit

/-! ## worlds -/

/-- w' is w with new blocks, and with writes to blocks from lo up to hi alone. -/
structure Chg (lo hi : Nat) (w w' : World) : Prop where
  os : w'.os = w.os
  tape : w'.tape = w.tape
  output : w'.output = w.output
  size : w.heap.size ≤ w'.heap.size
  block : ∀ k, k < w.heap.size → ¬ (lo ≤ k ∧ k < hi) → w'.heap[k]? = w.heap[k]?

/-- w' is w with new blocks. -/
def Ext (w w' : World) : Prop := Chg 0 0 w w'

theorem Chg.refl (lo hi : Nat) (w : World) : Chg lo hi w w := ⟨rfl, rfl, rfl, Nat.le_refl _, fun _ _ _ => rfl⟩
theorem Chg.trans {lo hi : Nat} {a b c : World} (h : Chg lo hi a b) (k : Chg lo hi b c) : Chg lo hi a c :=
  ⟨k.os.trans h.os, k.tape.trans h.tape, k.output.trans h.output, Nat.le_trans h.size k.size,
    fun i hi hn => (k.block i (Nat.lt_of_lt_of_le hi h.size) hn).trans (h.block i hi hn)⟩
theorem Ext.refl (w : World) : Ext w w := Chg.refl 0 0 w
theorem Ext.of_eq {w w' : World} (h : w = w') : Ext w w' := h ▸ Chg.refl 0 0 w
theorem Ext.trans {a b c : World} (h : Ext a b) (k : Ext b c) : Ext a c := Chg.trans h k
theorem Ext.size {a b : World} (h : Ext a b) : a.heap.size ≤ b.heap.size := Chg.size h
theorem Ext.block {a b : World} (h : Ext a b) (k : Nat) (hk : k < a.heap.size) : b.heap[k]? = a.heap[k]? := Chg.block h k hk (by omega)
/-- What is written lies in blocks that were not there: nothing that was there has turned. -/
theorem Chg.ext {lo hi : Nat} {a b c : World} (h : Ext a b) (k : Chg lo hi b c) (hl : a.heap.size ≤ lo) : Ext a c :=
  ⟨k.os.trans h.os, k.tape.trans h.tape, k.output.trans h.output, Nat.le_trans h.size k.size,
    fun i hi _ => (k.block i (Nat.lt_of_lt_of_le hi h.size) (by omega)).trans (h.block i hi)⟩
theorem Ext.chg {a b : World} (h : Ext a b) (lo hi : Nat) : Chg lo hi a b := ⟨h.os, h.tape, h.output, h.size, fun k hk _ => h.block k hk⟩
theorem Chg.wide {lo hi lo' hi' : Nat} {a b : World} (h : Chg lo hi a b) (hl : lo' ≤ lo) (hh : hi ≤ hi') : Chg lo' hi' a b :=
  ⟨h.os, h.tape, h.output, h.size, fun k hk hn => h.block k hk (by omega)⟩
theorem Ext.below {w w' : World} (h : Ext w w') : Below w.heap.size w w' := ⟨h.os, h.tape, h.output, h.size, fun k hk => h.block k hk⟩
theorem Ext.of_below {w w' : World} {B : Nat} (h : Below B w w') (hB : w.heap.size ≤ B) : Ext w w' := ⟨h.os, h.tape, h.output, h.size, fun k hk _ => h.block k (by omega)⟩
theorem Ext.alloc (w : World) (o : Obj) : Ext w (w.alloc o) := ⟨rfl, rfl, rfl, by simp, fun k hk _ => Below.heap_alloc _ _ _ hk⟩
theorem Ext.drew (w : World) : Ext w w.drew := ⟨rfl, rfl, rfl, Nat.le_refl _, fun _ _ _ => rfl⟩
theorem Ext.drewN (w : World) (n : Nat) : Ext w (w.drewN n) := ⟨rfl, rfl, rfl, Nat.le_refl _, fun _ _ _ => rfl⟩
theorem Chg.setCell (w : World) (a : Addr) (v : Value) {lo hi : Nat} (hl : lo ≤ a.block) (hh : a.block < hi) : Chg lo hi w (w.setCell a v) :=
  ⟨rfl, rfl, rfl, by simp [World.setCell], fun k _ hn => Below.heap_setCell _ _ _ _ (by omega)⟩
theorem Ext.grown {w w' : World} (h : w.grownBy w' none) : Ext w w' := ⟨h.os, h.tape, h.output, h.size, fun k hk _ => h.block k hk (by simp)⟩
theorem Ext.cell {w w' : World} (h : Ext w w') {b o : Nat} (hb : b < w.heap.size) : w'.cell? ⟨b, o, none⟩ = w.cell? ⟨b, o, none⟩ :=
  World.cell?_of_block (w := w) (h.block b hb)
theorem Ext.frozen {w w' : World} (h : Ext w w') {b o : Nat} (hb : b < w.heap.size) : w'.frozen? ⟨b, o, none⟩ = w.frozen? ⟨b, o, none⟩ :=
  World.frozen?_of_block (w := w) (h.block b hb)

/-! ## the cells of a slice -/

/-- The cells from address a on are xs. -/
def CellsAt (w : World) (a : Option Addr) (xs : List Value) : Prop :=
  ∀ j u, xs[j]? = some u → ∃ b off, a = some ⟨b, off, none⟩ ∧ w.cell? ⟨b, off + j, none⟩ = some u

/-- A slice's memory in blocks that may be written: cap elements of n cells; the first cells are xs. -/
def SlAt (w : World) (n : Nat) (a : Option Addr) (cap : Nat) (xs : List Value) : Prop :=
  (a = none ∧ cap = 0 ∧ xs = []) ∨
  ∃ b off C E, a = some ⟨b, off, none⟩ ∧ w.heap[b]? = some (.cells C E (0, 0)) ∧ off + cap * n ≤ C.size ∧ xs.length ≤ cap * n ∧ (C.toList.drop off).take xs.length = xs

/-- The block behind a slice's address. -/
def ablk : Option Addr → List Nat
  | some a => [a.block]
  | none => []

theorem SlAt.cells {w : World} {n : Nat} {a : Option Addr} {cap : Nat} {xs : List Value} (h : SlAt w n a cap xs) : CellsAt w a xs := by
  intro j u hj
  rcases h with ⟨_, _, rfl⟩ | ⟨b, off, C, E, rfl, hb, _, _, ht⟩
  · simp at hj
  · refine ⟨b, off, rfl, ?_⟩
    have hlt : j < xs.length := (List.getElem?_eq_some_iff.1 hj).1
    rw [← ht, List.getElem?_take, if_pos hlt, List.getElem?_drop] at hj
    rw [cell_of_row w b (off + j) C E (0, 0) hb]
    simpa using hj

theorem SlAt.lt {w : World} {n : Nat} {a : Option Addr} {cap : Nat} {xs : List Value} (h : SlAt w n a cap xs) : ∀ b ∈ ablk a, b < w.heap.size := by
  rcases h with ⟨rfl, _, _⟩ | ⟨b, off, C, E, rfl, hb, _⟩
  · simp [ablk]
  · simp [ablk]; exact (Array.getElem?_eq_some_iff.1 hb).1

theorem SlAt.frame {w w' : World} {n : Nat} {a : Option Addr} {cap : Nat} {xs : List Value} (h : SlAt w n a cap xs) (hf : ∀ b ∈ ablk a, w'.heap[b]? = w.heap[b]?) : SlAt w' n a cap xs := by
  rcases h with h | ⟨b, off, C, E, rfl, hb, r⟩
  · exact .inl h
  · exact .inr ⟨b, off, C, E, rfl, by rw [hf b (by simp [ablk])]; exact hb, r⟩

theorem CellsAt.ext {w w' : World} {a : Option Addr} {xs : List Value} (h : CellsAt w a xs) (he : Ext w w') : CellsAt w' a xs := by
  intro j u hj
  obtain ⟨b, off, ha, hc⟩ := h j u hj
  exact ⟨b, off, ha, by rw [he.cell (World.block_lt_of_cell? w _ hc)]; exact hc⟩

/-! ## readings -/

def elemsV {α : Type} (V : List Value → α → Prop) : List Value → List α → Prop
  | xs, [] => xs = []
  | xs, x :: l => ∃ c r, xs = c ++ r ∧ V c x ∧ elemsV V r l

def elemsO {α : Type} (O : List Value → α → List Nat → Prop) : List Value → List α → List Nat → Prop
  | xs, [], fp => xs = [] ∧ fp = []
  | xs, x :: l, fp => ∃ c r f g, xs = c ++ r ∧ fp = f ++ g ∧ O c x f ∧ elemsO O r l g

/-- How the cells of a type read as data. V: they read so. O: and all the memory that they lead to may be written, and lies in the blocks fp. -/
structure Cd (α : Type) where
  n : Nat
  V : World → List Value → α → Prop
  O : World → List Value → α → List Nat → Prop
  view : ∀ {w cs x fp}, O w cs x fp → V w cs x
  len : ∀ {w cs x}, V w cs x → cs.length = n
  one : ∀ {w cs x}, V w cs x → ∀ u ∈ cs, u.oneCell' = true
  vext : ∀ {w w' cs x}, V w cs x → Ext w w' → V w' cs x
  frame : ∀ {w w' cs x fp}, O w cs x fp → (∀ b ∈ fp, w'.heap[b]? = w.heap[b]?) → O w' cs x fp
  lt : ∀ {w cs x fp}, O w cs x fp → ∀ b ∈ fp, b < w.heap.size

section elems
variable {α : Type} (R : Cd α) {w w' : World}

theorem elemsV_len {xs : List Value} {l : List α} (h : elemsV (R.V w) xs l) : xs.length = l.length * R.n := by
  induction l generalizing xs with
  | nil => cases h; simp
  | cons x l ih =>
    obtain ⟨c, r, rfl, hc, hr⟩ := h
    rw [List.length_append, R.len hc, ih hr, List.length_cons, Nat.add_mul]; omega

theorem elemsV_one {xs : List Value} {l : List α} (h : elemsV (R.V w) xs l) : ∀ u ∈ xs, u.oneCell' = true := by
  induction l generalizing xs with
  | nil => cases h; simp
  | cons x l ih =>
    obtain ⟨c, r, rfl, hc, hr⟩ := h
    intro u hu
    rcases List.mem_append.1 hu with hu | hu
    · exact R.one hc u hu
    · exact ih hr u hu

theorem elemsV_ext {xs : List Value} {l : List α} (h : elemsV (R.V w) xs l) (he : Ext w w') : elemsV (R.V w') xs l := by
  induction l generalizing xs with
  | nil => exact h
  | cons x l ih =>
    obtain ⟨c, r, rfl, hc, hr⟩ := h
    exact ⟨c, r, rfl, R.vext hc he, ih hr⟩

theorem elemsO_view {xs : List Value} {l : List α} {fp : List Nat} (h : elemsO (R.O w) xs l fp) : elemsV (R.V w) xs l := by
  induction l generalizing xs fp with
  | nil => exact h.1
  | cons x l ih =>
    obtain ⟨c, r, f, g, rfl, rfl, hc, hr⟩ := h
    exact ⟨c, r, rfl, R.view hc, ih hr⟩

theorem elemsO_frame {xs : List Value} {l : List α} {fp : List Nat} (h : elemsO (R.O w) xs l fp) (hf : ∀ b ∈ fp, w'.heap[b]? = w.heap[b]?) : elemsO (R.O w') xs l fp := by
  induction l generalizing xs fp with
  | nil => exact h
  | cons x l ih =>
    obtain ⟨c, r, f, g, rfl, rfl, hc, hr⟩ := h
    exact ⟨c, r, f, g, rfl, rfl, R.frame hc (fun b hb => hf b (List.mem_append_left _ hb)), ih hr (fun b hb => hf b (List.mem_append_right _ hb))⟩

theorem elemsO_lt {xs : List Value} {l : List α} {fp : List Nat} (h : elemsO (R.O w) xs l fp) : ∀ b ∈ fp, b < w.heap.size := by
  induction l generalizing xs fp with
  | nil => obtain ⟨_, rfl⟩ := h; simp
  | cons x l ih =>
    obtain ⟨c, r, f, g, rfl, rfl, hc, hr⟩ := h
    intro b hb
    rcases List.mem_append.1 hb with hb | hb
    · exact R.lt hc b hb
    · exact ih hr b hb

theorem elemsV_append {xs : List Value} {l m : List α} : elemsV (R.V w) xs (l ++ m) ↔ ∃ x y, xs = x ++ y ∧ elemsV (R.V w) x l ∧ elemsV (R.V w) y m := by
  induction l generalizing xs with
  | nil =>
    constructor
    · intro h; exact ⟨[], xs, rfl, rfl, h⟩
    · rintro ⟨x, y, rfl, hx, hy⟩; cases hx; exact hy
  | cons a l ih =>
    constructor
    · rintro ⟨c, r, rfl, hc, hr⟩
      obtain ⟨x, y, rfl, hx, hy⟩ := ih.1 hr
      exact ⟨c ++ x, y, by simp, ⟨c, x, rfl, hc, hx⟩, hy⟩
    · rintro ⟨x, y, rfl, ⟨c, r, rfl, hc, hr⟩, hy⟩
      exact ⟨c, r ++ y, by simp, hc, ih.2 ⟨r, y, rfl, hr, hy⟩⟩

theorem elemsO_append {xs : List Value} {l m : List α} {fp : List Nat} : elemsO (R.O w) xs (l ++ m) fp ↔
    ∃ x y f g, xs = x ++ y ∧ fp = f ++ g ∧ elemsO (R.O w) x l f ∧ elemsO (R.O w) y m g := by
  induction l generalizing xs fp with
  | nil =>
    constructor
    · intro h; exact ⟨[], xs, [], fp, rfl, rfl, ⟨rfl, rfl⟩, h⟩
    · rintro ⟨x, y, f, g, rfl, rfl, ⟨rfl, rfl⟩, hy⟩; exact hy
  | cons a l ih =>
    constructor
    · rintro ⟨c, r, f, g, rfl, rfl, hc, hr⟩
      obtain ⟨x, y, f', g', rfl, rfl, hx, hy⟩ := ih.1 hr
      exact ⟨c ++ x, y, f ++ f', g', by simp, by simp, ⟨c, x, f, f', rfl, rfl, hc, hx⟩, hy⟩
    · rintro ⟨x, y, f', g', rfl, rfl, ⟨c, r, f, g, rfl, rfl, hc, hr⟩, hy⟩
      exact ⟨c, r ++ y, f, g ++ g', by simp, by simp, hc, ih.2 ⟨r, y, g, g', rfl, rfl, hr, hy⟩⟩

/-- Element k: its cells, and that they read as it. -/
theorem elemsV_get {xs : List Value} {l : List α} (h : elemsV (R.V w) xs l) {k : Nat} (hk : k < l.length) : ∃ c, (xs.drop (k * R.n)).take R.n = c ∧ R.V w c l[k] := by
  induction l generalizing xs k with
  | nil => simp at hk
  | cons x l ih =>
    obtain ⟨c, r, rfl, hc, hr⟩ := h
    have hl := R.len hc
    cases k with
    | zero => refine ⟨c, ?_, hc⟩; simp [← hl]
    | succ k =>
      obtain ⟨c', he, hv⟩ := ih hr (k := k) (by simpa using hk)
      refine ⟨c', ?_, by simpa using hv⟩
      rw [← he, Nat.add_mul, Nat.one_mul, Nat.add_comm, ← List.drop_drop, ← hl, List.drop_left]

end elems

/-! ### integers, slices, structs -/

def intC : Cd Int where
  n := 1
  V := fun _ cs x => cs = [.int .i64 x]
  O := fun _ cs x fp => cs = [.int .i64 x] ∧ fp = []
  view := fun h => h.1
  len := fun h => by rw [h]; rfl
  one := fun h u hu => by rw [h] at hu; simp at hu; subst hu; rfl
  vext := fun h _ => h
  frame := fun h _ => h
  lt := fun h b hb => by rw [h.2] at hb; cases hb

def sliceC {α : Type} (R : Cd α) : Cd (List α) where
  n := 1
  V := fun w cs l => ∃ a cap xs, cs = [.slice a l.length cap] ∧ l.length ≤ cap ∧ cap ≤ maxLen ∧ CellsAt w a xs ∧ elemsV (R.V w) xs l
  O := fun w cs l fp => ∃ a cap xs fps, cs = [.slice a l.length cap] ∧ l.length ≤ cap ∧ cap ≤ maxLen ∧ SlAt w R.n a cap xs ∧ elemsO (R.O w) xs l fps ∧ fp = ablk a ++ fps
  view := fun ⟨a, cap, xs, _, h1, h2, h3, h4, h5, _⟩ => ⟨a, cap, xs, h1, h2, h3, h4.cells, elemsO_view R h5⟩
  len := fun ⟨_, _, _, h, _⟩ => by rw [h]; rfl
  one := fun ⟨_, _, _, h, _⟩ u hu => by rw [h] at hu; simp at hu; subst hu; rfl
  vext := fun ⟨a, cap, xs, h1, h2, h3, h4, h5⟩ he => ⟨a, cap, xs, h1, h2, h3, h4.ext he, elemsV_ext R h5 he⟩
  frame := fun ⟨a, cap, xs, fps, h1, h2, h3, h4, h5, h6⟩ hf => ⟨a, cap, xs, fps, h1, h2, h3, h4.frame (fun b hb => hf b (by rw [h6]; exact List.mem_append_left _ hb)),
    elemsO_frame R h5 (fun b hb => hf b (by rw [h6]; exact List.mem_append_right _ hb)), h6⟩
  lt := fun ⟨a, cap, xs, fps, _, _, _, h4, h5, h6⟩ b hb => by
    rw [h6] at hb
    rcases List.mem_append.1 hb with hb | hb
    · exact h4.lt b hb
    · exact elemsO_lt R h5 b hb

def prodC {α β : Type} (R : Cd α) (S : Cd β) : Cd (α × β) where
  n := R.n + S.n
  V := fun w cs x => ∃ c d, cs = c ++ d ∧ R.V w c x.1 ∧ S.V w d x.2
  O := fun w cs x fp => ∃ c d f g, cs = c ++ d ∧ fp = f ++ g ∧ R.O w c x.1 f ∧ S.O w d x.2 g
  view := fun ⟨c, d, _, _, h, _, h1, h2⟩ => ⟨c, d, h, R.view h1, S.view h2⟩
  len := fun ⟨c, d, h, h1, h2⟩ => by rw [h, List.length_append, R.len h1, S.len h2]
  one := fun ⟨c, d, h, h1, h2⟩ u hu => by
    rw [h] at hu
    rcases List.mem_append.1 hu with hu | hu
    · exact R.one h1 u hu
    · exact S.one h2 u hu
  vext := fun ⟨c, d, h, h1, h2⟩ he => ⟨c, d, h, R.vext h1 he, S.vext h2 he⟩
  frame := fun ⟨c, d, f, g, h, h0, h1, h2⟩ hf => ⟨c, d, f, g, h, h0, R.frame h1 (fun b hb => hf b (by rw [h0]; exact List.mem_append_left _ hb)), S.frame h2 (fun b hb => hf b (by rw [h0]; exact List.mem_append_right _ hb))⟩
  lt := fun ⟨c, d, f, g, _, h0, h1, h2⟩ b hb => by
    rw [h0] at hb
    rcases List.mem_append.1 hb with hb | hb
    · exact R.lt h1 b hb
    · exact S.lt h2 b hb

/-- All that x leads to lies in blocks from lo up to hi, none twice. -/
def Cd.own {α : Type} (R : Cd α) (lo hi : Nat) (w : World) (cs : List Value) (x : α) : Prop := ∃ fp, R.O w cs x fp ∧ fp.Nodup ∧ ∀ b ∈ fp, lo ≤ b ∧ b < hi

theorem Cd.own.view {α : Type} {R : Cd α} {lo hi : Nat} {w : World} {cs : List Value} {x : α} (h : R.own lo hi w cs x) : R.V w cs x := let ⟨_, h, _⟩ := h; R.view h
theorem Cd.own.chg {α : Type} {R : Cd α} {lo hi l h : Nat} {w w' : World} {cs : List Value} {x : α} (ho : R.own lo hi w cs x) (hc : Chg l h w w') (hd : hi ≤ l ∨ h ≤ lo) : R.own lo hi w' cs x := by
  obtain ⟨fp, h1, h2, h3⟩ := ho
  exact ⟨fp, R.frame h1 (fun b hb => hc.block b (R.lt h1 b hb) (by have := h3 b hb; omega)), h2, h3⟩
theorem Cd.own.ext {α : Type} {R : Cd α} {lo hi : Nat} {w w' : World} {cs : List Value} {x : α} (ho : R.own lo hi w cs x) (hc : Ext w w') : R.own lo hi w' cs x := by
  obtain ⟨fp, h1, h2, h3⟩ := ho
  exact ⟨fp, R.frame h1 (fun b hb => hc.block b (R.lt h1 b hb)), h2, h3⟩
theorem Cd.own.wide {α : Type} {R : Cd α} {lo hi lo' hi' : Nat} {w : World} {cs : List Value} {x : α} (h : R.own lo hi w cs x) (hl : lo' ≤ lo) (hh : hi ≤ hi') : R.own lo' hi' w cs x := by
  obtain ⟨fp, h1, h2, h3⟩ := h
  exact ⟨fp, h1, h2, fun b hb => by have := h3 b hb; omega⟩

/-! ### rows of integers -/

def rowC : Cd (List Int) := sliceC intC

theorem elemsV_int {w : World} {xs : List Value} {l : List Int} : elemsV (intC.V w) xs l ↔ xs = l.map (Value.int .i64) := by
  induction l generalizing xs with
  | nil => exact Iff.rfl
  | cons x l ih =>
    constructor
    · rintro ⟨c, r, rfl, hc, hr⟩
      rw [ih.1 hr, show c = [.int .i64 x] from hc]; rfl
    · rintro rfl
      exact ⟨[.int .i64 x], l.map (Value.int .i64), rfl, rfl, ih.2 rfl⟩

theorem elemsO_int {w : World} {xs : List Value} {l : List Int} {fp : List Nat} : elemsO (intC.O w) xs l fp ↔ xs = l.map (Value.int .i64) ∧ fp = [] := by
  induction l generalizing xs fp with
  | nil => exact Iff.rfl
  | cons x l ih =>
    constructor
    · rintro ⟨c, r, f, g, rfl, rfl, hc, hr⟩
      obtain ⟨rfl, rfl⟩ := ih.1 hr
      rw [show c = [.int .i64 x] from hc.1, show f = [] from hc.2]; exact ⟨rfl, rfl⟩
    · rintro ⟨rfl, rfl⟩
      exact ⟨[.int .i64 x], l.map (Value.int .i64), [], [], rfl, rfl, ⟨rfl, rfl⟩, ih.2 ⟨rfl, rfl⟩⟩

/-- A row that is read: its value, and each number's cell. -/
theorem row_open {w : World} {v : Value} {l : List Int} (h : rowC.V w [v] l) :
    ∃ a cap, v = .slice a l.length cap ∧ l.length ≤ cap ∧ cap ≤ 9223372036854775807 ∧ ∀ k, k < l.length → ∃ b off x, a = some ⟨b, off, none⟩ ∧ w.cell? ⟨b, off + k, none⟩ = some (.int .i64 x) ∧ Hid (l[k]? = some x) := by
  obtain ⟨a, cap, xs, h1, h2, h3, h4, h5⟩ := h
  rw [elemsV_int] at h5
  subst h5
  simp only [List.cons.injEq, and_true] at h1
  refine ⟨a, cap, h1, h2, by simpa [maxLen] using h3, fun k hk => ?_⟩
  obtain ⟨b, off, ha, hc⟩ := h4 k (.int .i64 l[k]) (by simp [hk])
  exact ⟨b, off, l[k], ha, hc, List.getElem?_eq_getElem hk⟩

/-! ## small closers -/

/-- n numbers from q on. -/
def iota (q : Int) : Nat → List Int
  | 0 => []
  | n + 1 => q :: iota (q + 1) n

theorem iota_length (q : Int) (n : Nat) : (iota q n).length = n := by
  induction n generalizing q with
  | zero => rfl
  | succ n ih => simp [iota, ih]

theorem iota_get (q : Int) (n k : Nat) (h : k < n) : (iota q n)[k]? = some (q + k) := by
  induction n generalizing q k with
  | zero => omega
  | succ n ih =>
    cases k with
    | zero => simp [iota]
    | succ k => simp only [iota, List.getElem?_cons_succ]; rw [ih (q + 1) k (by omega)]; congr 1; omega

theorem iota_snoc (q : Int) (n : Nat) : iota q (n + 1) = iota q n ++ [q + n] := by
  induction n generalizing q with
  | zero => simp [iota]
  | succ n ih =>
    rw [show iota q (n + 1 + 1) = q :: iota (q + 1) (n + 1) from rfl, ih (q + 1)]
    simp only [iota, List.cons_append, List.cons.injEq, true_and]
    congr 2; omega

theorem iota_set {q : Int} {k : Nat} {l : List Int} {x : Int} (hx : Hid (l[k]? = some x)) : (iota q k ++ l.drop k).set k (q + k) = iota q (k + 1) ++ l.drop (k + 1) := by
  have hlt : k < l.length := (List.getElem?_eq_some_iff.1 hx.out).1
  rw [List.set_append_right _ _ (by rw [iota_length]; omega), iota_length, Nat.sub_self, List.drop_eq_getElem_cons hlt, iota_snoc, List.set_cons_zero, List.append_assoc]
  rfl


theorem retB {a b : Bool} (h : a = b) : Ending.returned (.bool a) = .returned (.bool b) := by rw [h]
theorem retI {k : IntKind} {a b : Int} (h : a = b) : Ending.returned (.int k a) = .returned (.int k b) := by rw [h]
theorem valB {a b : Bool} (h : a = b) : Value.bool a = .bool b := by rw [h]
theorem valI {k : IntKind} {a b : Int} (h : a = b) : Value.int k a = .int k b := by rw [h]

theorem take_snoc {α : Type} {l : List α} {k : Nat} {x : α} (h : Hid (l[k]? = some x)) : l.take (k + 1) = l.take k ++ [x] := by
  rw [List.take_add_one, h.out]; rfl

theorem all_take {α : Type} {p : α → Bool} {l : List α} {k : Nat} {x : α} (h : Hid (l[k]? = some x)) (ha : (l.take k).all p = true) (hp : p x = true) : (l.take (k + 1)).all p = true := by
  rw [take_snoc h, List.all_append, ha]; simp [hp]

theorem all_no {α : Type} {p : α → Bool} {l : List α} {k : Nat} {x : α} (h : Hid (l[k]? = some x)) (hp : p x = false) : l.all p = false := by
  rw [List.all_eq_false]; exact ⟨x, List.mem_of_getElem? h.out, by simp [hp]⟩

end Go.Sl
