/- Slices of rows: to, eq, mark, held, sz. -/
import Derived.Test.YtkigfmkdbgcpeaaRow3
import Derived.Test.YtkigfmkdbgcpeaaGen
set_option linter.unusedVariables false
set_option linter.unusedSimpArgs false
namespace Go.Proofs.Ytkigfmkdbgcpeaa
open Go.RowKit Go.Sl

abbrev rowsC : Cd (List (List Int)) := sliceC rowC
def rcnt (r : List Int) : Nat := r.length
def rmk (q : Int) (r : List Int) : List Int := iota q r.length

theorem u_slice {w : World} {u : Value} {x : List Int} (h : rowC.V w [u] x) : ∃ a c, u = .slice a x.length c := let ⟨a, c, h, _⟩ := row_open h; ⟨a, c, h⟩

theorem markInt64S_o (v : Value) (l : List Int) (q : Int) (w : World) (fp : List Nat) (h : rowC.O w [v] l fp) (hn : fp.Nodup) (hq0 : 0 ≤ q) (hq : q + rcnt l ≤ 4611686018427387904) :
    Calls Try.prog 28 #[v, .int .i64 q] w fun e w' => e = .returned (.int .i64 (q + rcnt l)) ∧ ChgF fp w w' ∧ rowC.O w' [v] (rmk q l) fp := by
  obtain ⟨a, cap, xs, fps, h1, h2, h3, h4, h5, h6⟩ := h
  obtain ⟨rfl, rfl⟩ := elemsO_int.1 h5
  simp only [List.cons.injEq, and_true] at h1
  subst h1
  rw [List.append_nil] at h6
  subst h6
  have fin : ∀ lo hi w', Chg lo hi w w' → w'.heap.size = w.heap.size → rowC.own lo hi w' [.slice a l.length cap] (iota q l.length) → (∀ k, ¬ k ∈ ablk a → ¬ (lo ≤ k ∧ k < hi)) → ChgF (ablk a) w w' ∧ rowC.O w' [.slice a l.length cap] (rmk q l) (ablk a) := by
    intro lo hi w' hc hz ho hb
    refine ⟨⟨hc.os, hc.tape, hc.output, hz, fun k hk => ?_⟩, ?_⟩
    · by_cases hlt : k < w.heap.size
      · exact hc.block k hlt (hb k hk)
      · rw [Array.getElem?_eq_none (by omega), Array.getElem?_eq_none (by omega)]
    · obtain ⟨fp, ⟨a', cap', xs', fps', e1, e2, e3, e4, e5, e6⟩, _, _⟩ := ho
      obtain ⟨rfl, rfl⟩ := elemsO_int.1 e5
      simp only [List.cons.injEq, Value.slice.injEq, and_true] at e1
      obtain ⟨rfl, e1, rfl⟩ := e1
      exact ⟨a, cap, _, [], by simp [rmk, iota_length], e2, e3, e4, elemsO_int.2 ⟨rfl, rfl⟩, by simp⟩
  cases a with
  | none =>
    have ho : rowC.own 0 0 w [.slice none l.length cap] l := row_own.2 ⟨none, cap, rfl, h2, by simpa [maxLen] using h3, h4, by simp [ablk]⟩
    exact (markInt64S_c _ l q w 0 0 ho hq0 hq).mono fun e w' ⟨he, hc, hz, ho'⟩ => ⟨he, fin 0 0 w' hc hz ho' (by omega)⟩
  | some ad =>
    have ho : rowC.own ad.block (ad.block + 1) w [.slice (some ad) l.length cap] l := row_own.2 ⟨some ad, cap, rfl, h2, by simpa [maxLen] using h3, h4, by simp [ablk]⟩
    exact (markInt64S_c _ l q w _ _ ho hq0 hq).mono fun e w' ⟨he, hc, hz, ho'⟩ => ⟨he, fin _ _ w' hc hz ho' (by simp [ablk]; omega)⟩

theorem heldInt64S_e (v : Value) (l : List Int) (q : Int) (w : World) (h : rowC.V w [v] (rmk q l)) (hq0 : 0 ≤ q) (hq : q + rcnt l ≤ 4611686018427387904) :
    Calls Try.prog 29 #[v, .int .i64 q] w fun e w' => e = .returned (.int .i64 (q + rcnt l)) ∧ Ext w w' :=
  heldInt64S_c v l q w h hq0 hq

theorem szInt64S_e (v : Value) (l : List Int) (q : Int) (w : World) (h : rowC.V w [v] l) (h0 : -1 ≤ q) (h1 : q ≤ 1048576) :
    Calls Try.prog 75 #[v, .int .i64 q] w fun e w' => e = .returned (.int .i64 (szI (rcnt l) q)) ∧ Ext w w' :=
  (szInt64S_c v l q w h h0 h1).mono fun _ _ ⟨he, hw⟩ => ⟨he, Ext.of_eq hw⟩






end Go.Proofs.Ytkigfmkdbgcpeaa
