/- The law FnExactDiceOf is true for every input: it returns true, and what it was given reads as before. -/
import Derived.Test.YthgpghgcjjejhaaTied
set_option linter.unusedVariables false
set_option linter.unusedSimpArgs false
namespace Go.Proofs.Ythgpghgcjjejhaa
open Go.RowKit Go.Sl

set_option maxHeartbeats 4000000 in
set_option maxRecDepth 100000 in
theorem exactdiceof_c (W : World) (args : Array Value) (hs : args.size = 1) (h : ∀ (j : Nat) t v, Try.f6.params[j]? = some t → args[j]? = some v → ArgOk Try.prog W t v) :
    Calls Try.prog 6 args W fun e W' => e = .returned (.bool true) ∧ Ext W W' := by
  match args, hs with
  | ⟨[a0]⟩, _ =>
    obtain ⟨d_S, rfl⟩ := (h 0 _ a0 rfl rfl).int Try.underlying2
    clear h
    go_enter Try.func6, Try.ntmps6
    have X : Ext W W := Ext.refl W
    go_wp2_with fail
    refine (specDiceOf_c _ _ ).mono ?_
    rintro e w1 ⟨rfl, Ew1⟩
    have Ew1c : Ext W w1 := Ew1
    have Sw1 : W.heap.size ≤ w1.heap.size := by have := Ew1.size; (try simp at this); omega
    replace X := X.trans Ew1c
    clear Ew1 Ew1c
    go_wp2_with fail
    refine (implDiceOf_c _ _ ).mono ?_
    rintro e w2 ⟨rfl, Ew2⟩
    have Ew2c : Ext w1 w2 := Ext.trans (Ext.pAlloc (Ext.refl _) _) Ew2
    have B_w0r0_0 : w2.cell? ⟨(w1.heap.size), 0, none⟩ = some (.int .i64 (d_S.tmod 999999937 % 999999937)) := cell_ext (by simp [go_sem]) Ew2
    have Sw2 : w1.heap.size + 1 ≤ w2.heap.size := by have := Ew2.size; (try simp at this); omega
    replace X := X.trans Ew2c
    clear Ew2 Ew2c
    have N_w0r0_0 : (w1.heap.size) < w2.heap.size := by omega
    go_wp2_with fail
    refine (eqDice_c _ _ _).mono ?_
    rintro e w3 ⟨rfl, Ew3⟩
    have Ew3c : Ext w2 w3 := Ext.trans (Ext.pAlloc (Ext.refl _) _) Ew3
    replace B_w0r0_0 := cell_ext B_w0r0_0 Ew3c
    have B_g0r0_0 : w3.cell? ⟨(w2.heap.size), 0, none⟩ = some (.int .i64 (d_S.tmod 999999937 % 999999937)) := cell_ext (by simp [go_sem]) Ew3
    have Sw3 : w2.heap.size + 1 ≤ w3.heap.size := by have := Ew3.size; (try simp at this); omega
    replace X := X.trans Ew3c
    clear Ew3 Ew3c
    go_wp2
    go_ret
    exact ⟨rfl, X⟩

set_option maxRecDepth 100000 in
theorem exactdiceof_holds : Rows.FnExactDiceOfSaid :=
  OpenClaim.holds_of_wide 6 Try.f6 rfl rfl rfl rfl rfl rfl rfl ⟨rfl, rfl, rfl, rfl, rfl⟩ rfl rfl rfl rfl rfl (by kernel_rfl) Try.func6 (by kernel_rfl)
    (of_decide_eq_true (by kernel_rfl)) (by unfold Func.isWrapper; rw [if_neg (of_decide_eq_false (by kernel_rfl))]; exact ⟨rfl, rfl⟩)
    (fun os started H enc _ => law_lifted (C := Try.checked) (f := 6) (fn := Try.f6) (s := Rows.fnExactDiceOfSpec) (tb := 4) Try.own started (by kernel_rfl) Try.func6 Try.laidOut (of_decide_eq_true (by kernel_rfl)) rfl Try.underlying4 rfl
      (fun ds h => by match ds, h with | [_], _ => exact ⟨rfl, rfl, rfl⟩)
      (ChangeSpec.witness6 (enc := enc) (C := Try.checked) false ⟨#[], #[.int .i64 0], []⟩ 8 (by kernel_rfl) (by kernel_rfl) (by kernel_rfl) (by kernel_rfl))
      exactdiceof_c)

end Go.Proofs.Ythgpghgcjjejhaa
