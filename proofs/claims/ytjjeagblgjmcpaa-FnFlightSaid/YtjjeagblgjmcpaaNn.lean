/- A new network; the form of a network that is owned. -/
import Derived.Test.YtjjeagblgjmcpaaNt7
set_option linter.unusedVariables false
set_option linter.unusedSimpArgs false
namespace Go.Proofs.Ytjjeagblgjmcpaa
open Go.RowKit Go.Sl

set_option maxHeartbeats 400000 in
theorem newNet_c (w : World) : Calls Try.prog 7 #[] w fun e w' => e = .returned (.agg #[.slice none 0 0, .slice none 0 0]) ∧ Ext w w' := by
  go_enter Try.func7, Try.ntmps7
  go_wp2
  refine bodyPost_ret (v := .agg #[.slice none 0 0, .slice none 0 0]) (by simp [results, Try.results7, go_sem]) rfl ⟨rfl, ?_⟩
  repeat (first | with_reducible exact Ext.refl _ | with_reducible refine Ext.pAlloc ?_ _ | ((with_reducible refine Ext.pSet ?_ ?_ _); rotate_left; (simp <;> omega)) | with_reducible refine Ext.pDrew ?_)
theorem net_form {lo hi : Nat} {w : World} {u v : Value} {m : NetD} (h : netC.own lo hi w [u, v] m) : (∃ a c, u = .slice a m.1.length c) ∧ ∃ a c, v = .slice a m.2.length c := by
  obtain ⟨u', v', e, hu, hv⟩ := net_V.1 h.view
  cases e
  exact ⟨sl_form hu, sl_form hv⟩
end Go.Proofs.Ytjjeagblgjmcpaa
