/- Slices of whatever element: read at an index, marked element by element, filled element by element. Plain lemmas, over every program. -/
import Derived.Test.YtbapomhoipdanaaOps
set_option linter.unusedVariables false
set_option linter.unusedSimpArgs false
namespace Go.Sl
open Go.RowKit

section
variable {α : Type} {R : Cd α}

theorem slice_open {w : World} {v : Value} {l : List α} (hp : 0 < R.n) (h : (sliceC R).V w [v] l) :
    ∃ a cap, v = .slice a l.length cap ∧ l.length ≤ cap ∧ cap ≤ 9223372036854775807 ∧ ∀ k, k < l.length → ∃ b off x c, a = some ⟨b, off, none⟩ ∧ Hid (l[k]? = some x) ∧ R.V w c x ∧ ∀ j u, c[j]? = some u → w.cell? ⟨b, off + k * R.n + j, none⟩ = some u := by
  obtain ⟨a, cap, xs, h1, h2, h3, h4, h5⟩ := h
  simp only [List.cons.injEq, and_true] at h1
  refine ⟨a, cap, h1, h2, by simpa [maxLen] using h3, fun k hk => ?_⟩
  obtain ⟨c, hc, hv⟩ := elemsV_get R h5 hk
  have hlen := R.len hv
  have key : ∀ j u, c[j]? = some u → ∃ b off, a = some ⟨b, off, none⟩ ∧ w.cell? ⟨b, off + k * R.n + j, none⟩ = some u := by
    intro j u hj
    have hlt : j < R.n := by have := (List.getElem?_eq_some_iff.1 hj).1; omega
    rw [← hc, List.getElem?_take, if_pos hlt, List.getElem?_drop] at hj
    obtain ⟨b, off, ha, hcell⟩ := h4 (k * R.n + j) u hj
    exact ⟨b, off, ha, by rw [Nat.add_assoc]; exact hcell⟩
  obtain ⟨b, off, ha, _⟩ := key 0 (c[0]'(by omega)) (List.getElem?_eq_getElem (by omega))
  refine ⟨b, off, l[k], c, ha, List.getElem?_eq_getElem hk, hv, fun j u hj => ?_⟩
  obtain ⟨b', off', ha', hcell⟩ := key j u hj
  rw [ha] at ha'
  cases ha'
  exact hcell

/-- An element of one cell. -/
theorem slice_open1 {w : World} {v : Value} {l : List α} (hp : R.n = 1) (h : (sliceC R).V w [v] l) :
    ∃ a cap, v = .slice a l.length cap ∧ l.length ≤ cap ∧ cap ≤ 9223372036854775807 ∧ ∀ k, k < l.length → ∃ b off x u, a = some ⟨b, off, none⟩ ∧ Hid (l[k]? = some x) ∧ R.V w [u] x ∧ w.cell? ⟨b, off + k, none⟩ = some u := by
  obtain ⟨a, cap, h1, h2, h3, h4⟩ := slice_open (by omega) h
  refine ⟨a, cap, h1, h2, h3, fun k hk => ?_⟩
  obtain ⟨b, off, x, c, ha, hx, hv, hc⟩ := h4 k hk
  have hlen := R.len hv
  rw [hp] at hlen hc
  match c, hlen with
  | [u], _ => exact ⟨b, off, x, u, ha, hx, hv, by simpa using hc 0 u rfl⟩

/-! ## marks -/

/-- Only the blocks fp have turned; nothing is new. -/
structure ChgF (fp : List Nat) (w w' : World) : Prop where
  os : w'.os = w.os
  tape : w'.tape = w.tape
  output : w'.output = w.output
  size : w'.heap.size = w.heap.size
  block : ∀ k, k ∉ fp → w'.heap[k]? = w.heap[k]?

theorem ChgF.refl (fp : List Nat) (w : World) : ChgF fp w w := ⟨rfl, rfl, rfl, rfl, fun _ _ => rfl⟩
theorem ChgF.trans {fp : List Nat} {a b c : World} (h : ChgF fp a b) (k : ChgF fp b c) : ChgF fp a c :=
  ⟨k.os.trans h.os, k.tape.trans h.tape, k.output.trans h.output, k.size.trans h.size, fun i hi => (k.block i hi).trans (h.block i hi)⟩
theorem ChgF.wide {fp fq : List Nat} {a b : World} (h : ChgF fp a b) (hs : ∀ x ∈ fp, x ∈ fq) : ChgF fq a b :=
  ⟨h.os, h.tape, h.output, h.size, fun i hi => h.block i (fun hm => hi (hs i hm))⟩
theorem ChgF.chg {fp : List Nat} {a b : World} {lo hi : Nat} (h : ChgF fp a b) (hs : ∀ x ∈ fp, lo ≤ x ∧ x < hi) : Chg lo hi a b :=
  ⟨h.os, h.tape, h.output, Nat.le_of_eq h.size.symm, fun i _ hn => h.block i (fun hm => hn (hs i hm))⟩
theorem ChgF.setCell (w : World) (a : Addr) (v : Value) : ChgF [a.block] w (w.setCell a v) :=
  ⟨rfl, rfl, rfl, by simp [World.setCell], fun k hk => Below.heap_setCell _ _ _ _ (by simpa using hk)⟩
theorem ChgF.cell {fp : List Nat} {w w' : World} (h : ChgF fp w w') {b o : Nat} {v : Value} (hc : w.cell? ⟨b, o, none⟩ = some v) (hn : b ∉ fp) : w'.cell? ⟨b, o, none⟩ = some v := by
  rw [World.cell?_of_block (w := w) (h.block b hn)]; exact hc

/-- From a mark told by blocks to a mark told by bounds. -/
theorem mark_own {w : World} {cs : List Value} {x : α} {lo hi : Nat} {P : Program} {f : FuncId} {args : Array Value} {r : Value} {x' : α} (h : R.own lo hi w cs x)
    (hm : ∀ fp, R.O w cs x fp → fp.Nodup → Calls P f args w fun e w' => e = .returned r ∧ ChgF fp w w' ∧ R.O w' cs x' fp) :
    Calls P f args w fun e w' => e = .returned r ∧ Chg lo hi w w' ∧ w'.heap.size = w.heap.size ∧ R.own lo hi w' cs x' := by
  obtain ⟨fp, h1, h2, h3⟩ := h
  exact (hm fp h1 h2).mono fun e w' ⟨he, hc, ho⟩ => ⟨he, hc.chg h3, hc.size, fp, ho, h2, h3⟩

/-- Element k of a slice that may be written: its cells, its memory; and what a change of that memory alone, or of its cells, makes of the slice. -/
theorem slice_at {w : World} {a : Option Addr} {n cap : Nat} {l1 l2 : List α} {x : α} {fp : List Nat} (hp : 0 < R.n) (h : (sliceC R).O w [.slice a n cap] (l1 ++ x :: l2) fp) (hn : fp.Nodup) :
    ∃ b off c fx, a = some ⟨b, off, none⟩ ∧ R.O w c x fx ∧ fx.Nodup ∧ (∀ i ∈ fx, i ∈ fp) ∧ b ∈ fp ∧ b ∉ fx ∧ (∀ j u, c[j]? = some u → w.cell? ⟨b, off + l1.length * R.n + j, none⟩ = some u) ∧ (∀ j, w.frozen? ⟨b, j, none⟩ = false) ∧
      (∀ w' x', ChgF fx w w' → R.O w' c x' fx → (sliceC R).O w' [.slice a n cap] (l1 ++ x' :: l2) fp) ∧
      (∀ j u x', j < c.length → (∀ w', R.O w' c x fx → R.O w' (c.set j u) x' fx) → (sliceC R).O (w.setCell ⟨b, off + l1.length * R.n + j, none⟩ u) [.slice a n cap] (l1 ++ x' :: l2) fp) := by
  obtain ⟨a', cap', xs, fps, h1, h2, h3, h4, h5, h6⟩ := h
  simp only [List.cons.injEq, Value.slice.injEq, and_true] at h1
  obtain ⟨rfl, rfl, rfl⟩ := h1
  obtain ⟨x1, y, f1, fy, rfl, rfl, he1, c, x2, fx, f2, rfl, rfl, hc, he2⟩ := (elemsO_append R).1 h5
  have hlx1 : x1.length = l1.length * R.n := elemsV_len R (elemsO_view R he1)
  have hlc : c.length = R.n := R.len (R.view hc)
  have hpos : 0 < (x1 ++ (c ++ x2)).length := by rw [List.length_append, List.length_append]; omega
  obtain ⟨b, off, rfl⟩ := SlAt.some h4 hpos
  subst h6
  have hn' := hn
  simp only [ablk, List.cons_append, List.nil_append, List.nodup_cons, List.mem_append, List.nodup_append, not_or] at hn'
  obtain ⟨⟨hb1, hb2, hb3⟩, hf1, ⟨hfx, hf2, hd2⟩, hd1⟩ := hn'
  have hget : ∀ j u, c[j]? = some u → (x1 ++ (c ++ x2))[l1.length * R.n + j]? = some u := by
    intro j u hj
    have hlt := (List.getElem?_eq_some_iff.1 hj).1
    rw [List.getElem?_append_right (by omega), hlx1, Nat.add_sub_cancel_left, List.getElem?_append_left hlt]
    exact hj
  have hfrz : ∀ j, w.frozen? ⟨b, j, none⟩ = false := by
    rcases h4 with ⟨h, _⟩ | ⟨b', off', C, E, ha, hb, _⟩
    · cases h
    · cases ha; exact fun j => unfrozen hb
  refine ⟨b, off, c, fx, rfl, hc, hfx, fun i hi => by simp [hi], by simp [ablk], hb2, ?_, hfrz, ?_, ?_⟩
  · intro j u hj
    obtain ⟨b', off', ha, hcell⟩ := h4.cells (l1.length * R.n + j) u (hget j u hj)
    cases ha
    rw [Nat.add_assoc]; exact hcell
  · intro w' x' hw hx'
    refine ⟨_, cap, x1 ++ (c ++ x2), f1 ++ (fx ++ f2), by simp, by simpa using h2, h3, h4.frame (fun i hi => hw.block i ?_), (elemsO_append R).2 ⟨x1, c ++ x2, f1, fx ++ f2, rfl, rfl, elemsO_frame R he1 (fun i hi => hw.block i ?_), c, x2, fx, f2, rfl, rfl, hx', elemsO_frame R he2 (fun i hi => hw.block i ?_)⟩, rfl⟩
    · simp [ablk] at hi; subst hi; exact hb2
    · exact fun hm => hd1 i hi i (Or.inl hm) rfl
    · exact fun hm => hd2 i hm i hi rfl
  · intro j u x' hj hx'
    have hst := SlAt.store h4 (j := l1.length * R.n + j) (by rw [List.length_append, List.length_append]; omega) u
    rw [Nat.add_assoc]
    have hset : (x1 ++ (c ++ x2)).set (l1.length * R.n + j) u = x1 ++ (c.set j u ++ x2) := by
      rw [List.set_append_right _ _ (by omega), hlx1, Nat.add_sub_cancel_left, List.set_append_left _ _ hj]
    rw [hset] at hst
    have hfr : ∀ i, i ≠ b → (w.setCell ⟨b, off + (l1.length * R.n + j), none⟩ u).heap[i]? = w.heap[i]? := fun i hi => Below.heap_setCell _ _ _ _ hi
    refine ⟨_, cap, _, f1 ++ (fx ++ f2), by simp, by simpa using h2, h3, hst.2.1, (elemsO_append R).2 ⟨x1, c.set j u ++ x2, f1, fx ++ f2, rfl, rfl, elemsO_frame R he1 (fun i hi => hfr i (fun e => hb1 (e ▸ hi))), c.set j u, x2, fx, f2, rfl, rfl, hx' _ (R.frame hc (fun i hi => hfr i (fun e => hb2 (e ▸ hi)))), elemsO_frame R he2 (fun i hi => hfr i (fun e => hb3 (e ▸ hi)))⟩, rfl⟩

end

/-! ## counts and marks -/

def cntL {α : Type} (cnt : α → Nat) : List α → Nat
  | [] => 0
  | x :: l => cnt x + cntL cnt l
def mkL {α : Type} (cnt : α → Nat) (mk : Int → α → α) : Int → List α → List α
  | _, [] => []
  | q, x :: l => mk q x :: mkL cnt mk (q + cnt x) l
section
variable {α : Type} (cnt : α → Nat) (mk : Int → α → α)
theorem mkL_len (q : Int) (l : List α) : (mkL cnt mk q l).length = l.length := by
  induction l generalizing q with
  | nil => rfl
  | cons x l ih => simp [mkL, ih]
theorem cntL_append (l m : List α) : cntL cnt (l ++ m) = cntL cnt l + cntL cnt m := by
  induction l with
  | nil => simp [cntL]
  | cons x l ih => simp [cntL, ih]; omega
theorem cntL_snoc (l : List α) (x : α) : cntL cnt (l ++ [x]) = cntL cnt l + cnt x := by rw [cntL_append]; simp [cntL]
theorem mkL_snoc (q : Int) (l : List α) (x : α) : mkL cnt mk q (l ++ [x]) = mkL cnt mk q l ++ [mk (q + cntL cnt l) x] := by
  induction l generalizing q with
  | nil => simp [mkL, cntL]
  | cons y l ih => simp only [List.cons_append, mkL, cntL, ih]; congr 3; congr 1; push_cast; omega
theorem cntL_take_le (l : List α) (k : Nat) (h : k < l.length) : cntL cnt (l.take k) + cnt l[k] ≤ cntL cnt l := by
  have e := List.take_append_drop (k + 1) l
  have : cntL cnt l = cntL cnt (l.take (k + 1)) + cntL cnt (l.drop (k + 1)) := by rw [← cntL_append, e]
  rw [← List.take_append_getElem h, cntL_snoc] at this
  omega
theorem mkL_get (q : Int) (l : List α) (k : Nat) (h : k < l.length) : (mkL cnt mk q l)[k]? = some (mk (q + cntL cnt (l.take k)) l[k]) := by
  induction l generalizing q k with
  | nil => simp at h
  | cons x l ih =>
    cases k with
    | zero => simp [mkL, cntL]
    | succ k => simp only [mkL, List.getElem?_cons_succ, List.take_succ_cons, cntL, List.getElem_cons_succ]; rw [ih _ k (by simpa using h), show q + (cnt x : Int) + (cntL cnt (l.take k) : Int) = q + ((cnt x + cntL cnt (l.take k) : Nat) : Int) by omega]
end

/-! ## filling a slice that was made -/

section
variable {α : Type} {R : Cd α}

/-- The first elements of a slice in block g are filled; the others are still as made. -/
def Filled (R : Cd α) (w : World) (g N : Nat) (l : List α) : Prop :=
  ∃ xs zs fps, SlAt w R.n (some ⟨g, 0, none⟩) N (xs ++ zs) ∧ zs.length = (N - l.length) * R.n ∧ l.length ≤ N ∧ elemsO (R.O w) xs l fps ∧ fps.Nodup ∧ ∀ b ∈ fps, g < b

theorem Filled.start {w : World} {g N : Nat} {zs : List Value} (h : SlAt w R.n (some ⟨g, 0, none⟩) N zs) (hz : zs.length = N * R.n) : Filled R w g N [] :=
  ⟨[], zs, [], h, by simpa using hz, Nat.zero_le _, ⟨rfl, rfl⟩, List.nodup_nil, by simp⟩

theorem Filled.ext {w w' : World} {g N : Nat} {l : List α} (h : Filled R w g N l) (he : Ext w w') : Filled R w' g N l := by
  obtain ⟨xs, zs, fps, h1, h2, h3, h4, h5, h6⟩ := h
  exact ⟨xs, zs, fps, h1.frame (fun b hb => he.block b (h1.lt b hb)), h2, h3, elemsO_frame R h4 (fun b hb => he.block b (elemsO_lt R h4 b hb)), h5, h6⟩

/-- What the store of the next element finds. -/
theorem Filled.room {w : World} {g N : Nat} {l : List α} (h : Filled R w g N l) (hlt : l.length < N) : ∀ j, j < R.n → (∃ u, w.cell? ⟨g, l.length * R.n + j, none⟩ = some u) ∧ w.frozen? ⟨g, l.length * R.n + j, none⟩ = false := by
  obtain ⟨xs, zs, fps, h1, h2, h3, h4, h5, h6⟩ := h
  have hl := elemsV_len R (elemsO_view R h4)
  intro j hj
  have hm : R.n ≤ (N - l.length) * R.n := Nat.le_mul_of_pos_left _ (by omega)
  have hlt' : l.length * R.n + j < (xs ++ zs).length := by rw [List.length_append, hl, h2]; omega
  have := SlAt.cell h1 hlt'
  rw [Nat.zero_add] at this
  have hf := (SlAt.store h1 hlt' (.bool true)).1
  rw [Nat.zero_add] at hf
  exact ⟨⟨_, this⟩, hf⟩

theorem setCells_other {w : World} {g o : Nat} {vs : List Value} {k : Nat} (h : k ≠ g) : (w.setCells g o vs).heap[k]? = w.heap[k]? := by
  induction vs generalizing o w with
  | nil => rfl
  | cons v vs ih => rw [World.setCells, ih]; exact Below.heap_setCell _ _ _ _ h

/-- The store of the next element. -/
theorem Filled.next {w : World} {g N : Nat} {l : List α} {x : α} {c : List Value} {lo hi : Nat} (h : Filled R w g N l) (hlt : l.length < N) (ho : R.own lo hi w c x) (hg : g < lo) 
    (hd : ∃ w0, Filled R w0 g N l ∧ Ext w0 w ∧ w0.heap.size ≤ lo) : Filled R (w.setCells g (l.length * R.n) c) g N (l ++ [x]) := by
  obtain ⟨w0, ⟨xs, zs, fps, h1, h2, h3, h4, h5, h6⟩, he, hz⟩ := hd
  obtain ⟨fx, hx, hxn, hxb⟩ := ho
  have hl := elemsV_len R (elemsO_view R h4)
  have hlc := R.len (R.view hx)
  have h1' := h1.frame (fun b hb => he.block b (h1.lt b hb))
  have h4' := elemsO_frame R h4 (fun b hb => he.block b (elemsO_lt R h4 b hb))
  have hsz : (w.setCells g (l.length * R.n) c).heap.size = w.heap.size := setCells_size _ _ _ _
  have hm : R.n ≤ (N - l.length) * R.n := Nat.le_mul_of_pos_left _ (by omega)
  have hrest : (N - l.length) * R.n = R.n + (N - (l.length + 1)) * R.n := by rw [show N - l.length = (N - (l.length + 1)) + 1 by omega, Nat.add_mul]; omega
  rcases h1' with ⟨h, _⟩ | ⟨b, off, C, E, ha, hb, hfit, hle, htake⟩
  · cases h
  cases ha
  have hlen : (xs ++ zs).length = l.length * R.n + (N - l.length) * R.n := by rw [List.length_append, hl, h2]
  obtain ⟨C', hC', hl'⟩ := setCells_block (E := E) c (l.length * R.n) w C hb (by omega)
  have hCs : C'.size = C.size := by
    have := congrArg List.length hl'
    simp at this
    omega
  have ht0 : C.toList.take (l.length * R.n) = xs := by
    rw [List.drop_zero] at htake
    have := congrArg (List.take xs.length) htake
    rw [List.take_take, List.take_left, Nat.min_eq_left (by rw [List.length_append]; omega), hl] at this
    exact this
  refine ⟨xs ++ c, zs.drop R.n, fps ++ fx, .inr ⟨g, 0, C', E, rfl, hC', by omega, ?_, ?_⟩, ?_, by simp; omega, (elemsO_append R).2 ⟨xs, c, fps, fx, rfl, rfl, elemsO_frame R h4' (fun b hb => setCells_other (by have := h6 b hb; omega)), c, [], fx, [], by simp, by simp, R.frame hx (fun b hb => setCells_other (by have := hxb b hb; omega)), rfl, rfl⟩, ?_, ?_⟩
  · rw [List.length_append, List.length_append, List.length_drop, hl, hlc, h2]; rw [hlen] at hle; omega
  · rw [List.drop_zero, hl', ht0]
    rw [List.drop_zero] at htake
    have e1 : (C.toList.drop (xs.length + R.n)).take ((xs ++ zs).length - (xs.length + R.n)) = zs.drop R.n := by
      have := congrArg (List.drop (xs.length + R.n)) htake
      rw [List.drop_take] at this
      rw [this, ← List.drop_drop, List.drop_left]
    have e2 : l.length * R.n + c.length = xs.length + R.n := by omega
    have e3 : (zs.drop R.n).length = (xs ++ zs).length - (xs.length + R.n) := by rw [List.length_drop, List.length_append]; omega
    rw [List.length_append (as := xs ++ c), List.take_length_add_append, e2, e3, e1]
  · rw [List.length_drop, h2, List.length_append]
    simp only [List.length_cons, List.length_nil, Nat.zero_add]
    omega
  · rw [List.nodup_append]
    refine ⟨h5, hxn, fun b hb c hc e => ?_⟩
    subst e
    have h7 := elemsO_lt R h4 b hb
    have h8 := hxb b hc
    omega
  · intro b hb
    rcases List.mem_append.1 hb with hb | hb
    · exact h6 b hb
    · have := hxb b hb; omega

theorem Filled.done {w : World} {g N lo : Nat} {l : List α} (h : Filled R w g N l) (hN : l.length = N) (hlo : lo ≤ g) (hm : N ≤ 4194304) : (sliceC R).own lo w.heap.size w [.slice (some ⟨g, 0, none⟩) N N] l := by
  obtain ⟨xs, zs, fps, h1, h2, h3, h4, h5, h6⟩ := h
  have hz : zs = [] := List.eq_nil_of_length_eq_zero (by rw [h2, hN, Nat.sub_self, Nat.zero_mul])
  subst hz
  rw [List.append_nil] at h1
  refine ⟨g :: fps, ⟨_, N, xs, fps, by rw [hN], by omega, by simp only [maxLen]; omega, h1, h4, rfl⟩, ?_, ?_⟩
  · rw [List.nodup_cons]
    exact ⟨fun hm => by have := h6 g hm; omega, h5⟩
  · intro b hb
    rcases List.mem_cons.1 hb with rfl | hb
    · exact ⟨hlo, h1.lt _ (by simp [ablk])⟩
    · have := h6 b hb; exact ⟨by omega, elemsO_lt R h4 b hb⟩
end

end Go.Sl
