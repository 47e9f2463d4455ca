/- The laws over disks: a box that holds a disk; what a fall leaves. Plain. -/
import Derived.Test.YtbapomhoipdanaaDsk2
import Derived.Test.YtbapomhoipdanaaDsk3
import Derived.Test.YtbapomhoipdanaaFl3
set_option linter.unusedVariables false
set_option linter.unusedSimpArgs false
namespace Go.Proofs.Ytbapomhoipdanaa
open Go.RowKit Go.Sl

/-- A disk in a box of its own, read only. -/
structure DM (w : World) (b : Nat) (u v : Value) (d : DiskD) : Prop where
  view : diskC.V w [u, v] d
  box : Bx w b [u, v]
theorem DM.grow {w w' : World} {b : Nat} {u v : Value} {d : DiskD} (h : DM w b u v d) (he : Ext w w') : DM w' b u v d := ⟨diskC.vext h.view he, h.box.ext he⟩
theorem DM.new {w : World} {u v : Value} {d : DiskD} (h : diskC.V w [u, v] d) (E : TypeId) : DM (w.alloc (.cells #[u, v] E)) w.heap.size u v d := ⟨diskC.vext h (Ext.alloc _ _), Bx.new _ _ _ _ rfl⟩
theorem DM.kept {w : World} {b : Nat} {u v : Value} {d : DiskD} (h : DM w b u v d) : rowsC.V w [u] d.1 := by
  obtain ⟨_, _, e, h1, _⟩ := disk_V.1 h.view
  cases e; exact h1
theorem disk_formV {w : World} {u v : Value} {m : DiskD} (h : diskC.V w [u, v] m) : (∃ a c, u = .slice a m.1.length c) ∧ ∃ a c, v = .slice a m.2.length c := by
  obtain ⟨u', v', e, hu, hv⟩ := disk_V.1 h
  cases e
  exact ⟨sl_form hu, sl_form hv⟩
theorem synced_no {d : DiskD} (h : diskOk d = false) : synced d = ([], []) := by unfold synced; rw [h]; rfl
theorem fallen_no {d : DiskD} (h : diskOk d = false) (f : List Int) : fallen d f = ([], []) := by unfold fallen; rw [h]; rfl
theorem fallen_ones {d : DiskD} (h : diskOk d = true) : fallen d (List.replicate 60 1) = synced d := by
  unfold fallen synced
  rw [if_pos h, if_pos h]
  unfold fallD
  have hl := (diskOk_len h).2.2
  rw [fallK_same (g := fateOf true []) (fun i hi => ?_)]
  unfold fateOf
  simp only [Bool.false_eq_true, if_false, if_true]
  rw [List.getD_eq_getElem?_getD, List.getElem?_replicate, if_pos (by omega)]; rfl
theorem fallen_none {d : DiskD} (h : diskOk d = true) : fallen d [] = (d.1, []) := by
  unfold fallen
  rw [if_pos h]
  unfold fallD
  rw [fallK_none (fun i hi => ?_)]
  unfold fateOf
  simp
theorem synced_len {d : DiskD} (h : diskOk d = true) : (synced d).1.length = d.1.length := by
  unfold synced; rw [if_pos h]; exact fallK_len _ _ _ _
theorem fallen_len {d : DiskD} (h : diskOk d = true) (f : List Int) : (fallen d f).1.length = d.1.length := by
  unfold fallen; rw [if_pos h]; exact fallK_len _ _ _ _
end Go.Proofs.Ytbapomhoipdanaa
