/- The law FnExactConstants is true: it returns true. -/
import Derived.Test.YthgpghgcjjejhaaTied
set_option linter.unusedVariables false
set_option linter.unusedSimpArgs false
namespace Go.Proofs.Ythgpghgcjjejhaa
open Go.RowKit Go.Sl

set_option maxHeartbeats 4000000 in
set_option maxRecDepth 100000 in
theorem exactconstants_c (W : World) (args : Array Value) (hs : args.size = 0) (h : ∀ (j : Nat) t v, Try.f3.params[j]? = some t → args[j]? = some v → ArgOk Try.prog W t v) :
    Calls Try.prog 3 args W fun e W' => e = .returned (.bool true) ∧ Ext W W' := by
  match args, hs with
  | ⟨[]⟩, _ =>
    clear h
    go_enter Try.func3, Try.ntmps3
    go_wp2
    go_ret
    exact ⟨rfl, Ext.refl _⟩
set_option maxRecDepth 100000 in
theorem exactconstants_holds : Rows.FnExactConstantsSaid :=
  OpenClaim.holds_of_wide 3 Try.f3 rfl rfl rfl rfl rfl rfl rfl ⟨rfl, rfl, rfl, rfl, rfl⟩ rfl rfl rfl rfl rfl (by kernel_rfl) Try.func3 (by kernel_rfl)
    (of_decide_eq_true (by kernel_rfl)) (by unfold Func.isWrapper; rw [if_neg (of_decide_eq_false (by kernel_rfl))]; exact ⟨rfl, rfl⟩)
    (fun os started H enc _ => law_lifted (C := Try.checked) (f := 3) (fn := Try.f3) (s := Rows.fnExactConstantsSpec) (tb := 4) Try.own started (by kernel_rfl) Try.func3 Try.laidOut (of_decide_eq_true (by kernel_rfl)) rfl Try.underlying4 rfl
      (fun ds h => by match ds, h with | [], _ => exact ⟨rfl, rfl, rfl⟩)
      (ChangeSpec.witness6 (enc := enc) (C := Try.checked) false ⟨#[], #[], []⟩ 8 (by kernel_rfl) (by kernel_rfl) (by kernel_rfl) (by kernel_rfl))
      exactconstants_c)

end Go.Proofs.Ythgpghgcjjejhaa
