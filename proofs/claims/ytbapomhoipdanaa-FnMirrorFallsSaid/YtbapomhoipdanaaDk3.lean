/- Disks: safe, new, read. -/
import Derived.Test.YtbapomhoipdanaaDk2
set_option linter.unusedVariables false
set_option linter.unusedSimpArgs false
namespace Go.Sl
open Go.RowKit
theorem nil_O {α : Type} {R : Cd α} (w : World) : (sliceC R).O w [.slice none 0 0] [] [] := ⟨none, 0, [], [], rfl, Nat.le_refl _, Nat.zero_le _, .inl ⟨rfl, rfl, rfl⟩, ⟨rfl, rfl⟩, rfl⟩
theorem sl_nil {α : Type} {R : Cd α} (lo hi : Nat) (w : World) : (sliceC R).own lo hi w [.slice none 0 0] [] := ⟨[], nil_O w, List.nodup_nil, by simp⟩
theorem rows_made {w : World} {b n lo hi : Nat} (h : SlAt w 1 (some ⟨b, 0, none⟩) n (List.replicate n (.slice none 0 0))) (hn : n ≤ 4194304) (hlo : lo ≤ b) (hhi : b < hi) : (sliceC rowC).own lo hi w [.slice (some ⟨b, 0, none⟩) n n] (List.replicate n []) := by
  have key : ∀ n, elemsO (rowC.O w) (List.replicate n (.slice none 0 0)) (List.replicate n []) [] := by
    intro n
    induction n with
    | zero => exact ⟨rfl, rfl⟩
    | succ n ih => exact ⟨[_], _, [], [], rfl, rfl, nil_O w, ih⟩
  refine ⟨[b], ⟨_, n, _, [], by rw [List.length_replicate], by rw [List.length_replicate]; exact Nat.le_refl _, by simp only [maxLen]; omega, h, key n, rfl⟩, by simp, ?_⟩
  intro x hx
  rw [List.mem_singleton.1 hx]
  exact ⟨hlo, hhi⟩
end Go.Sl
namespace Go.Proofs.Ytbapomhoipdanaa
open Go.RowKit Go.Sl

def safeIn (d : DiskD) : Bool := diskOk d && decide (d.2.length = 0)
def newDisk (n : Int) : DiskD := if inB n 1 40 = true then (List.replicate n.toNat [], []) else ([], [])

set_option maxHeartbeats 800000 in
set_option maxRecDepth 20000 in
theorem implSafeIn_c (cs : List Value) (d : DiskD) (w : World) (h : diskC.V w cs d) :
    Calls Try.prog 48 #[.agg cs.toArray] w fun e w' => e = .returned (.bool (safeIn d)) ∧ Ext w w' := by
  have HD := Lib.hid h
  obtain ⟨u, v, rfl, hu, hv⟩ := disk_V.1 h
  obtain ⟨rs, ws⟩ := d
  obtain ⟨a, cap, rfl⟩ := sl_form hv
  clear hu hv h
  cases hd : diskOk (rs, ws)
  all_goals
    have Hd := Lib.hid hd; clear hd
    go_enter Try.func48, Try.ntmps48
    go_wp2_with fail
    refine (implDiskOk_c _ (rs, ws) _ (diskC.vext HD.out (Ext.alloc _ _))).mono ?_
    rw [Hd.out]
    rintro e w1 ⟨rfl, hE⟩
    have c1 : w1.cell? ⟨w.heap.size, 1, none⟩ = some (.slice a ws.length cap) := cell_ext (by simp [go_sem]) hE
    go_wp2
    go_ret
    exact ⟨retB (by rw [Bool.eq_iff_iff]; simp [safeIn, Hd.out]), by repeat (first | with_reducible exact Ext.refl _ | with_reducible assumption | with_reducible refine Ext.pAlloc ?_ _ | ((with_reducible refine Ext.pSet ?_ ?_ _); rotate_left; (simp <;> omega)) | with_reducible refine Ext.pDrew ?_ | with_reducible refine Ext.pDrewN ?_ _ | with_reducible refine Ext.trans ?_ (by with_reducible assumption))⟩

set_option maxHeartbeats 800000 in
set_option maxRecDepth 20000 in
theorem specSafeIn_c (cs : List Value) (d : DiskD) (w : World) (h : diskC.V w cs d) :
    Calls Try.prog 45 #[.agg cs.toArray] w fun e w' => e = .returned (.bool (safeIn d)) ∧ Ext w w' := by
  have HD := Lib.hid h
  obtain ⟨u, v, rfl, hu, hv⟩ := disk_V.1 h
  obtain ⟨rs, ws⟩ := d
  obtain ⟨a, cap, rfl⟩ := sl_form hv
  clear hu hv h
  cases hd : diskOk (rs, ws)
  all_goals
    have Hd := Lib.hid hd; clear hd
    go_enter Try.func45, Try.ntmps45
    go_wp2_with fail
    refine (specDiskOk_c _ (rs, ws) _ (diskC.vext HD.out (Ext.alloc _ _))).mono ?_
    rw [Hd.out]
    rintro e w1 ⟨rfl, hE⟩
    have c1 : w1.cell? ⟨w.heap.size, 1, none⟩ = some (.slice a ws.length cap) := cell_ext (by simp [go_sem]) hE
    go_wp2
    go_ret
    exact ⟨retB (by rw [Bool.eq_iff_iff]; simp [safeIn, Hd.out]), by repeat (first | with_reducible exact Ext.refl _ | with_reducible assumption | with_reducible refine Ext.pAlloc ?_ _ | ((with_reducible refine Ext.pSet ?_ ?_ _); rotate_left; (simp <;> omega)) | with_reducible refine Ext.pDrew ?_ | with_reducible refine Ext.pDrewN ?_ _ | with_reducible refine Ext.trans ?_ (by with_reducible assumption))⟩


set_option maxHeartbeats 800000 in
set_option maxRecDepth 20000 in
theorem specNewDisk_c (n : Int) (w : World) :
    Calls Try.prog 117 #[.int .i64 n] w fun e w' => ∃ u v, e = .returned (.agg #[u, v]) ∧ Ext w w' ∧ diskC.own w.heap.size w'.heap.size w' [u, v] (newDisk n) := by
  have hinf : (Try.prog.info? 44).map (fun i => (i.zero, i.size, i.bytes)) = some (some (.slice none 0 0), 1, 24) := by kernel_rfl
  have Hinf := Lib.hid hinf; clear hinf
  cases hin : inB n 1 40
  · have Hin := Lib.hid hin
    go_enter Try.func117, Try.ntmps117
    go_wp2_with (go_at_call 87; refine (l1In_c _ _ _ _).mono ?_; rintro e w' ⟨rfl, rfl⟩)
    refine bodyPost_ret (v := .agg #[.slice none 0 0, .slice none 0 0]) (by simp [results, Try.results117, go_sem]) rfl ⟨_, _, rfl, ?_, ?_⟩
    · repeat (first | with_reducible exact Ext.refl _ | with_reducible assumption | with_reducible refine Ext.pAlloc ?_ _ | ((with_reducible refine Ext.pSet ?_ ?_ _); rotate_left; (simp <;> omega)) | with_reducible refine Ext.pDrew ?_ | with_reducible refine Ext.pDrewN ?_ _ | with_reducible refine Ext.trans ?_ (by with_reducible assumption))
    · unfold newDisk
      rw [Hin.out]
      exact prod_own (c := [_]) (d := [_]) (mid := w.heap.size) (sl_nil _ _ _) (sl_nil _ _ _) (Nat.le_refl _) (by simp)
  · have Hin := Lib.hid hin
    have hn := hin
    simp only [inB, Bool.and_eq_true, decide_eq_true_eq] at hn
    obtain ⟨m, rfl⟩ : ∃ m : Nat, n = m := ⟨n.toNat, by omega⟩
    go_enter Try.func117, Try.ntmps117
    go_wp2_with (first | (go_at_call 87; refine (l1In_c _ _ _ _).mono ?_; rintro e w' ⟨rfl, rfl⟩) | (at_make; refine wpList_make_sl _ rfl _ _ _ rfl 44 Try.underlying22 _ 1 24 Hinf.out m rfl rfl ?b ?b2 ?_))
    case b => omega
    case b2 => omega
    intro w1 zs hsl hzl hzz hE hz
    obtain ⟨hc, hf, _⟩ := hE.rules
    have c1 : w1.cell? ⟨w.heap.size, 0, none⟩ = some (.slice none 0 0) := by rw [hc _ _ (by simp <;> omega)]; simp [go_sem]
    have c2 : w1.cell? ⟨w.heap.size, 1, none⟩ = some (.slice none 0 0) := by rw [hc _ _ (by simp <;> omega)]; simp [go_sem]
    have f1 : ∀ o, w1.frozen? ⟨w.heap.size, o, none⟩ = false := fun o => by rw [hf _ _ (by simp <;> omega)]; simp [go_sem]
    rw [toList_madeCells_one] at hzz
    subst hzz
    have HS := Lib.hid hsl
    have Hin' := Lib.hid hin
    clear hsl hzl hc hf hin
    go_wp2
    refine bodyPost_ret (v := .agg #[.slice (some ⟨w.heap.size + 1, 0, none⟩) m m, .slice none 0 0]) (by simp [results, Try.results117, go_sem, c1, c2]) rfl ⟨_, _, rfl, ?_, ?_⟩
    · repeat (first | with_reducible exact Ext.refl _ | with_reducible assumption | with_reducible refine Ext.pAlloc ?_ _ | ((with_reducible refine Ext.pSet ?_ ?_ _); rotate_left; (simp <;> omega)) | with_reducible refine Ext.pDrew ?_ | with_reducible refine Ext.pDrewN ?_ _ | with_reducible refine Ext.trans ?_ (by with_reducible assumption))
    · unfold newDisk
      rw [Hin'.out, if_pos rfl, Int.toNat_natCast]
      refine Cd.own.wide (lo := w.heap.size + 1) (hi := w1.heap.size) ?_ (by omega) (by simp)
      refine prod_own (c := [_]) (d := [_]) (mid := w1.heap.size) ?_ (sl_nil _ _ _) (by omega) (Nat.le_refl _)
      repeat (refine own_set ?_ (by simp <;> omega) _)
      exact rows_made HS.out (by omega) (Nat.le_refl _) (by omega)

end Go.Proofs.Ytbapomhoipdanaa
