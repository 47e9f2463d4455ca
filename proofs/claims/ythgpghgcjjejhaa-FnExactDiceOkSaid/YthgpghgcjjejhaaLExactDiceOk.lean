/- The law FnExactDiceOk is true for every input: it returns true, and what it was given reads as before. -/
import Derived.Test.YthgpghgcjjejhaaTied
set_option linter.unusedVariables false
set_option linter.unusedSimpArgs false
namespace Go.Proofs.Ythgpghgcjjejhaa
open Go.RowKit Go.Sl

set_option maxHeartbeats 4000000 in
set_option maxRecDepth 100000 in
theorem exactdiceok_c (W : World) (args : Array Value) (hs : args.size = 1) (h : ∀ (j : Nat) t v, Try.f5.params[j]? = some t → args[j]? = some v → ArgOk Try.prog W t v) :
    Calls Try.prog 5 args W fun e W' => e = .returned (.bool true) ∧ Ext W W' := by
  match args, hs with
  | ⟨[a0]⟩, _ =>
    obtain ⟨d_D, rfl⟩ := arg_dice (h 0 _ a0 rfl rfl)
    clear h
    go_enter Try.func5, Try.ntmps5
    have X : Ext W W := Ext.refl W
    go_wp2_with fail
    refine (toDice_c _ _).mono ?_
    rintro e w1 ⟨rfl, Ew1⟩
    have Ew1c : Ext W w1 := Ext.trans (Ext.pAlloc (Ext.refl _) _) Ew1
    have B_AD_0 : w1.cell? ⟨(W.heap.size), 0, none⟩ = some (.int .i64 (d_D)) := cell_ext (by simp [go_sem]) Ew1
    have Sw1 : W.heap.size + 1 ≤ w1.heap.size := by have := Ew1.size; (try simp at this); omega
    replace X := X.trans Ew1c
    clear Ew1 Ew1c
    go_wp2_with fail
    refine (specDiceOk_c _ _ ).mono ?_
    rintro e w2 ⟨rfl, Ew2⟩
    have Ew2c : Ext w1 w2 := Ew2
    replace B_AD_0 := cell_ext B_AD_0 Ew2c
    have Sw2 : w1.heap.size ≤ w2.heap.size := by have := Ew2.size; (try simp at this); omega
    replace X := X.trans Ew2c
    clear Ew2 Ew2c
    go_wp2_with fail
    refine (toDice_c _ _).mono ?_
    rintro e w3 ⟨rfl, Ew3⟩
    have Ew3c : Ext w2 w3 := Ew3
    replace B_AD_0 := cell_ext B_AD_0 Ew3c
    have Sw3 : w2.heap.size ≤ w3.heap.size := by have := Ew3.size; (try simp at this); omega
    replace X := X.trans Ew3c
    clear Ew3 Ew3c
    go_wp2_with fail
    refine (implDiceOk_c _ _ ).mono ?_
    rintro e w4 ⟨rfl, Ew4⟩
    have Ew4c : Ext w3 w4 := Ew4
    replace B_AD_0 := cell_ext B_AD_0 Ew4c
    have Sw4 : w3.heap.size ≤ w4.heap.size := by have := Ew4.size; (try simp at this); omega
    replace X := X.trans Ew4c
    clear Ew4 Ew4c
    go_wp2
    go_ret
    exact ⟨rfl, X⟩

set_option maxRecDepth 100000 in
theorem exactdiceok_holds : Rows.FnExactDiceOkSaid :=
  OpenClaim.holds_of_wide 5 Try.f5 rfl rfl rfl rfl rfl rfl rfl ⟨rfl, rfl, rfl, rfl, rfl⟩ rfl rfl rfl rfl rfl (by kernel_rfl) Try.func5 (by kernel_rfl)
    (of_decide_eq_true (by kernel_rfl)) (by unfold Func.isWrapper; rw [if_neg (of_decide_eq_false (by kernel_rfl))]; exact ⟨rfl, rfl⟩)
    (fun os started H enc _ => law_lifted (C := Try.checked) (f := 5) (fn := Try.f5) (s := Rows.fnExactDiceOkSpec) (tb := 4) Try.own started (by kernel_rfl) Try.func5 Try.laidOut (of_decide_eq_true (by kernel_rfl)) rfl Try.underlying4 rfl
      (fun ds h => by match ds, h with | [_], _ => exact ⟨rfl, rfl, rfl⟩)
      (ChangeSpec.witness6 (enc := enc) (C := Try.checked) false ⟨#[], #[.agg #[.int .i64 0]], []⟩ 8 (by kernel_rfl) (by kernel_rfl) (by kernel_rfl) (by kernel_rfl))
      exactdiceok_c)

end Go.Proofs.Ythgpghgcjjejhaa
