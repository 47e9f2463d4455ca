/- Two disks in a box that is only read. -/
import Derived.Test.YtbapomhoipdanaaTs2
set_option linter.unusedVariables false
set_option linter.unusedSimpArgs false
namespace Go.Proofs.Ytbapomhoipdanaa
open Go.RowKit Go.Sl

structure TM (w : World) (b : Nat) (u v u' v' : Value) (t : TwoD) : Prop where
  view : twoC.V w [u, v, u', v'] t
  box : Bx w b [u, v, u', v']
theorem TM.grow {w w' : World} {b : Nat} {u v u' v' : Value} {t : TwoD} (h : TM w b u v u' v' t) (he : Ext w w') : TM w' b u v u' v' t := ⟨twoC.vext h.view he, h.box.ext he⟩
theorem TM.new {w : World} {u v u' v' : Value} {t : TwoD} (h : twoC.V w [u, v, u', v'] t) (E : TypeId) : TM (w.alloc (.cells #[u, v, u', v'] E)) w.heap.size u v u' v' t := ⟨twoC.vext h (Ext.alloc _ _), Bx.new _ _ _ _ rfl⟩
/-- A waiting write. -/
theorem waitV {w : World} {n c j : Nat} {a : Option Addr} {u : Value} {d : DiskD} (h : diskC.V w [u, .slice a n c] d) (hj : j < d.2.length) :
    ∃ wb wo x, a = some ⟨wb, wo, none⟩ ∧ Hid (d.2[j]? = some x) ∧ w.cell? ⟨wb, wo + j * 2, none⟩ = some (.int .i64 x.1) := by
  obtain ⟨_, _, e, _, h1⟩ := disk_V.1 h
  cases e
  obtain ⟨a', c', e, h1, h2, h3⟩ := slice_open (R := writeC) (by decide) h1
  cases e
  obtain ⟨wb, wo, x, cs, rfl, hx, hv, hc⟩ := h3 j hj
  obtain ⟨v, rfl, _⟩ := write_V.1 hv
  exact ⟨wb, wo, x, rfl, hx, hc 0 _ rfl⟩
end Go.Proofs.Ytbapomhoipdanaa
