/- What a sync and a fall leave at one sector: the plain law of FnFallenDisk. -/
import Derived.Test.YtbapomhoipdanaaDkw
import Derived.Test.YtbapomhoipdanaaDk4
set_option linter.unusedVariables false
set_option linter.unusedSimpArgs false
namespace Go.Proofs.Ytbapomhoipdanaa
open Go.RowKit Go.Sl

theorem lastW_take {n : Int} {ws : List WriteD} {j : Nat} (hj : j < ws.length) : lastW n (ws.take (j + 1)) = if ws[j].1 == n then some ws[j] else lastW n (ws.take j) := by
  unfold lastW
  rw [List.take_add_one, List.getElem?_eq_getElem hj]
  simp only [Option.toList_some, List.reverse_append, List.reverse_cons, List.reverse_nil, List.nil_append, List.singleton_append, List.find?_cons]
  split <;> simp_all
theorem fallK_ones {f : Nat → Int} (hf : ∀ i, f i = 1) {ks : List (List Int)} {ws : List WriteD} {k : Nat} (hk : k < ks.length) (hw : ∀ x ∈ ws, 0 ≤ x.1) {j : Nat} (hj : j ≤ ws.length) :
    (fallK f ks ws j)[k]? = some (match lastW (k : Int) (ws.take j) with | some x => x.2 | none => ks.getD k []) := by
  induction j with
  | zero => simp [fallK, lastW, List.getD_eq_getElem?_getD, List.getElem?_eq_getElem hk]
  | succ j ih =>
    have hjl : j < ws.length := by omega
    rw [lastW_take hjl, fallK_snoc f ks ws j (x := ws[j]) (List.getElem?_eq_getElem hjl), fallW, if_pos (hf j)]
    have h0 := hw ws[j] (List.getElem_mem hjl)
    by_cases he : ws[j].1 = k
    · have h1 : ws[j].1.toNat = k := by omega
      rw [h1, List.getElem?_set_self (by rw [fallK_len]; exact hk)]
      simp [he]
    · have h1 : ws[j].1.toNat ≠ k := by omega
      rw [List.getElem?_set_ne h1, ih (by omega)]
      simp [he]
theorem inB_iff {x lo hi : Int} : inB x lo hi = true ↔ lo ≤ x ∧ x ≤ hi := by simp [inB]
theorem disk_at0 {d : DiskD} (h : diskOk d = true) : ∀ x ∈ d.2, 0 ≤ x.1 := by
  obtain ⟨rs, ws⟩ := d
  obtain ⟨_, h2, _⟩ := diskOk_parts h
  exact fun x hx => (inB_iff.1 (h2 x hx).1).1
theorem synced_get {d : DiskD} (h : diskOk d = true) {k : Nat} (hk : k < d.1.length) : (synced d).1[k]? = some (readRow d k) := by
  unfold synced
  rw [if_pos h]
  unfold fallD readRow
  dsimp only
  rw [fallK_ones (f := fateOf true []) (fun i => rfl) hk (disk_at0 h) (Nat.le_refl _), List.take_length, Int.toNat_natCast]
  rfl
theorem fallen_get {d : DiskD} (h : diskOk d = true) (f : List Int) {k : Nat} (hn : ∀ x ∈ d.2, x.1 ≠ (k : Int)) : (fallen d f).1[k]? = d.1[k]? := by
  unfold fallen
  rw [if_pos h]
  unfold fallD
  dsimp only
  exact fallK_other (Nat.le_refl _) (fun x hx => by have := disk_at0 h x hx; have := hn x hx; omega)
theorem readAt_ok {d : DiskD} (h : diskOk d = true) {k : Nat} (hk : k < d.1.length) : readAt d k = (readRow d k, true) := by
  unfold readAt
  rw [if_pos ⟨h, inB_iff.2 ⟨by omega, by omega⟩⟩]
theorem synced_safe {d : DiskD} (h : diskOk d = true) : safeIn (synced d) = true := by unfold synced; rw [if_pos h]; exact safe_fall h _
theorem fallen_safe {d : DiskD} (h : diskOk d = true) (f : List Int) : safeIn (fallen d f) = true := by unfold fallen; rw [if_pos h]; exact safe_fall h _
theorem fallen_two {d : DiskD} (h : diskOk d = true) (f : List Int) : (fallen d f).2 = [] := by unfold fallen; rw [if_pos h]; rfl
theorem wrote78 {d : DiskD} (h : diskOk d = true) (h2 : d.2 = []) : wrote d 0 [7, 8] = ((d.1, [(0, [7, 8])]), true) := by
  have hl := diskOk_len h
  unfold wrote
  rw [if_pos h, if_pos ⟨inB_iff.2 ⟨by omega, by omega⟩, by rfl, by rw [h2]; simp⟩, h2]
  rfl
theorem read78 {d : DiskD} (h : diskOk d = true) (h2 : d.2 = []) : readAt (d.1, [(0, [7, 8])]) 0 = ([7, 8], true) := by
  have hl := diskOk_len h
  have hw := diskOk_wrote h 0 [7, 8]
  rw [wrote78 h h2] at hw
  unfold readAt
  rw [if_pos ⟨hw, inB_iff.2 ⟨by omega, by dsimp only; omega⟩⟩]
  rfl
/-- Writes counted so far. -/
def NoW (ws : List WriteD) (j k c : Nat) : Prop := c ≤ j ∧ (c = 0 → ∀ x ∈ ws.take j, x.1 ≠ (k : Int))
theorem NoW.start (ws : List WriteD) (k : Nat) : NoW ws 0 k 0 := ⟨Nat.le_refl _, fun _ x hx => by simp at hx⟩
theorem NoW.hit {ws : List WriteD} {j k c : Nat} (h : NoW ws j k c) : NoW ws (j + 1) k (c + 1) := ⟨by have := h.1; omega, fun h => by omega⟩
theorem NoW.miss {ws : List WriteD} {j k c : Nat} {x : WriteD} (h : NoW ws j k c) (hx : Hid (ws[j]? = some x)) (hn : x.1 ≠ (k : Int)) : NoW ws (j + 1) k c := by
  refine ⟨by have := h.1; omega, fun h0 y hy => ?_⟩
  rw [take_snoc hx] at hy
  rcases List.mem_append.1 hy with hy | hy
  · exact h.2 h0 y hy
  · rw [List.mem_singleton.1 hy]; exact hn
/-- A kept row of a disk in its box. -/
theorem DM.row {w : World} {b n c k : Nat} {a : Option Addr} {v : Value} {d : DiskD} {r : List Int} (h : DM w b (.slice a n c) v d) (hk : d.1[k]? = some r) :
    ∃ kb ko ra rc, a = some ⟨kb, ko, none⟩ ∧ w.cell? ⟨kb, ko + k, none⟩ = some (.slice ra r.length rc) ∧ rowC.V w [.slice ra r.length rc] r := by
  obtain ⟨a', c', e, h1, h2, h3⟩ := slice_open1 (R := rowC) rfl h.kept
  cases e
  obtain ⟨hlt, -⟩ := List.getElem?_eq_some_iff.1 hk
  obtain ⟨kb, ko, x, u, rfl, hx, hv, hc⟩ := h3 k hlt
  have e := hx.out
  rw [hk] at e
  cases e
  obtain ⟨ra, rc, rfl⟩ := sl_form hv
  exact ⟨kb, ko, ra, rc, rfl, hc, hv⟩
/-- A waiting write of a disk in its box. -/
theorem DM.wait {w : World} {b n c j : Nat} {a : Option Addr} {u : Value} {d : DiskD} (h : DM w b u (.slice a n c) d) (hj : j < d.2.length) :
    ∃ wb wo x, a = some ⟨wb, wo, none⟩ ∧ Hid (d.2[j]? = some x) ∧ w.cell? ⟨wb, wo + j * 2, none⟩ = some (.int .i64 x.1) := by
  obtain ⟨_, _, e, _, h1⟩ := disk_V.1 h.view
  cases e
  obtain ⟨a', c', e, h1, h2, h3⟩ := slice_open (R := writeC) (by decide) h1
  cases e
  obtain ⟨wb, wo, x, cs, rfl, hx, hv, hc⟩ := h3 j hj
  obtain ⟨v, rfl, _⟩ := write_V.1 hv
  exact ⟨wb, wo, x, rfl, hx, hc 0 _ rfl⟩
theorem row_bx2 {w : World} {b : Nat} {x y : Int} (h : Bx w b [.int .i64 x, .int .i64 y]) : rowC.V w [.slice (some ⟨b, 0, none⟩) 2 2] [x, y] := by
  refine ⟨some ⟨b, 0, none⟩, 2, [.int .i64 x, .int .i64 y], rfl, Nat.le_refl _, by simp [maxLen], fun j u hj => ⟨b, 0, rfl, ?_⟩, elemsV_int.2 rfl⟩
  rw [Nat.zero_add]
  exact h.cell j u hj
end Go.Proofs.Ytbapomhoipdanaa
