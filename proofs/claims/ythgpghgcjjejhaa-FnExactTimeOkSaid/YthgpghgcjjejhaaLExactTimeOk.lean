/- The law FnExactTimeOk is true for every input: it returns true, and what it was given reads as before. -/
import Derived.Test.YthgpghgcjjejhaaTied
set_option linter.unusedVariables false
set_option linter.unusedSimpArgs false
namespace Go.Proofs.Ythgpghgcjjejhaa
open Go.RowKit Go.Sl

set_option maxHeartbeats 4000000 in
set_option maxRecDepth 100000 in
theorem exacttimeok_c (W : World) (args : Array Value) (hs : args.size = 1) (h : ∀ (j : Nat) t v, Try.f4.params[j]? = some t → args[j]? = some v → ArgOk Try.prog W t v) :
    Calls Try.prog 4 args W fun e W' => e = .returned (.bool true) ∧ Ext W W' := by
  match args, hs with
  | ⟨[a0]⟩, _ =>
    obtain ⟨d_T, rfl⟩ := (h 0 _ a0 rfl rfl).int Try.underlying2
    clear h
    go_enter Try.func4, Try.ntmps4
    have X : Ext W W := Ext.refl W
    go_wp2_with fail
    refine (specTimeOk_c _ _ ).mono ?_
    rintro e w1 ⟨rfl, Ew1⟩
    replace Ew1 := Ext.of_eq Ew1
    have Ew1c : Ext W w1 := Ew1
    have Sw1 : W.heap.size ≤ w1.heap.size := by have := Ew1.size; (try simp at this); omega
    replace X := X.trans Ew1c
    clear Ew1 Ew1c
    go_wp2_with fail
    refine (implTimeOk_c _ _ ).mono ?_
    rintro e w2 ⟨rfl, Ew2⟩
    replace Ew2 := Ext.of_eq Ew2
    have Ew2c : Ext w1 w2 := Ew2
    have Sw2 : w1.heap.size ≤ w2.heap.size := by have := Ew2.size; (try simp at this); omega
    replace X := X.trans Ew2c
    clear Ew2 Ew2c
    go_wp2
    go_ret
    exact ⟨rfl, X⟩

set_option maxRecDepth 100000 in
theorem exacttimeok_holds : Rows.FnExactTimeOkSaid :=
  OpenClaim.holds_of_wide 4 Try.f4 rfl rfl rfl rfl rfl rfl rfl ⟨rfl, rfl, rfl, rfl, rfl⟩ rfl rfl rfl rfl rfl (by kernel_rfl) Try.func4 (by kernel_rfl)
    (of_decide_eq_true (by kernel_rfl)) (by unfold Func.isWrapper; rw [if_neg (of_decide_eq_false (by kernel_rfl))]; exact ⟨rfl, rfl⟩)
    (fun os started H enc _ => law_lifted (C := Try.checked) (f := 4) (fn := Try.f4) (s := Rows.fnExactTimeOkSpec) (tb := 4) Try.own started (by kernel_rfl) Try.func4 Try.laidOut (of_decide_eq_true (by kernel_rfl)) rfl Try.underlying4 rfl
      (fun ds h => by match ds, h with | [_], _ => exact ⟨rfl, rfl, rfl⟩)
      (ChangeSpec.witness6 (enc := enc) (C := Try.checked) false ⟨#[], #[.int .i64 0], []⟩ 8 (by kernel_rfl) (by kernel_rfl) (by kernel_rfl) (by kernel_rfl))
      exacttimeok_c)

end Go.Proofs.Ythgpghgcjjejhaa
