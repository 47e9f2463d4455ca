/- A region that draws its order: either of two may be next. -/
import Derived.Test.YtbapomhoipdanaaTill
set_option linter.unusedVariables false
set_option linter.unusedSimpArgs false
namespace Go.Sl
section
variable {P : Program} {ops : Array Oper} {Q : Exit → Act → World → Prop} {md : Region.Mode} {S : World → Prop} {n : Nat}
theorem wpT_step2 {i j : Nat} {o o' : Oper} {fuel : Nat} {listed : Array Bool} {a : Act} {w : World} (hr : Region.ready md ops listed = [i, j]) (hin : i < n) (hjn : j < n) (ho : ops[i]? = some o) (ho' : ops[j]? = some o')
    (h : ∀ K' : Act → World → Prop, Shut (∀ a w, S w → (S w → wpT P md ops Q S n fuel (listed.setIfInBounds i true) a w) → K' a w) → if Region.wanted o (yielded ops a.tmps) = true then Oper.wp P o a w K' Q else K' (a.put o.dst undef) w)
    (h' : ∀ K' : Act → World → Prop, Shut (∀ a w, S w → (S w → wpT P md ops Q S n fuel (listed.setIfInBounds j true) a w) → K' a w) → if Region.wanted o' (yielded ops a.tmps) = true then Oper.wp P o' a w K' Q else K' (a.put o'.dst undef) w) :
    wpT P md ops Q S n (fuel + 1) listed a w := by
  intro inv
  have inv1 : HeadInv md ops n (listed.setIfInBounds i true) := inv.set (by rw [hr]; simp) hin
  have inv2 : HeadInv md ops n (listed.setIfInBounds j true) := inv.set (by rw [hr]; simp) hjn
  refine ⟨fun h0 => (by rw [hr] at h0; cases h0), fun k hk => ?_⟩
  rw [hr] at hk
  rcases List.mem_cons.1 hk with rfl | hk
  · refine wpOp_step ho (fun K' hK => h K' (fun a w hS hW => hK a w ?_))
    rw [if_neg (by omega)]
    exact ⟨hS, hW hS inv1⟩
  · rw [List.mem_singleton.1 hk]
    refine wpOp_step ho' (fun K' hK => h' K' (fun a w hS hW => hK a w ?_))
    rw [if_neg (by omega)]
    exact ⟨hS, hW hS inv2⟩
end
end Go.Sl
