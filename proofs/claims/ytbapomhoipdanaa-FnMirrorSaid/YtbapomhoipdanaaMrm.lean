/- The memory of the law FnMirror: the dice, the box of the two disks, the row. -/
import Derived.Test.YtbapomhoipdanaaMrp
import Derived.Test.YtbapomhoipdanaaDdm
import Derived.Test.YtbapomhoipdanaaApd
set_option linter.unusedVariables false
set_option linter.unusedSimpArgs false
namespace Go.Proofs.Ytbapomhoipdanaa
open Go.RowKit Go.Sl

theorem rows_at {w : World} {ka : Option Addr} {n kc m : Nat} {rs : List (List Int)} {s : List Int} {fp : List Nat} (h : rowsC.O w [.slice ka n kc] rs fp) (hs : rs[m]? = some s) :
    ∃ kb ko sa sc, ka = some ⟨kb, ko, none⟩ ∧ kb ∈ fp ∧ w.cell? ⟨kb, ko + m, none⟩ = some (.slice sa s.length sc) ∧ (∀ b ∈ ablk sa, b ∈ fp) ∧ rowC.V w [.slice sa s.length sc] s := by
  obtain ⟨a, cap, xs, fps, e, h1, h2, h3, h4, rfl⟩ := h
  cases e
  obtain ⟨hlt, rfl⟩ := List.getElem?_eq_some_iff.1 hs
  have e : rs = rs.take m ++ rs[m] :: rs.drop (m + 1) := by rw [← List.drop_eq_getElem_cons hlt, List.take_append_drop]
  have h4' := h4
  rw [e] at h4'
  obtain ⟨x1, y, f1, fy, rfl, rfl, he1, c, x2, fx, f2, rfl, rfl, hc, he2⟩ := (elemsO_append rowC).1 h4'
  have hl1 : x1.length = m := by rw [elemsV_len rowC (elemsO_view rowC he1), List.length_take, Nat.min_eq_left (by omega)]; exact Nat.mul_one m
  obtain ⟨u, rfl⟩ := List.length_eq_one_iff.1 (show c.length = 1 from rowC.len (rowC.view hc))
  have hv := rowC.view hc
  obtain ⟨sa, sc, xs', fps', hu, g1, g2, g3, g4, rfl⟩ := hc
  simp only [List.cons.injEq, and_true] at hu
  subst hu
  obtain ⟨b, off, rfl, hcell⟩ := h3.cells m (.slice sa rs[m].length sc) (by rw [List.getElem?_append_right (by omega), hl1, Nat.sub_self]; rfl)
  exact ⟨b, off, sa, sc, rfl, by simp [ablk], hcell, fun z hz => by simp [hz], hv⟩

theorem two_form {lo hi k k' : Nat} {w : World} {u v u' v' : Value} {s t : List Int} {ws ws' : List WriteD} (h : twoC.own lo hi w [u, v, u', v'] ((mrow s, ws), (mrow t, ws'))) (hk : ws.length = k) (hk' : ws'.length = k') :
    ∃ pa pc qa qc pa' pc' qa' qc', u = .slice pa 4 pc ∧ v = .slice qa k qc ∧ u' = .slice pa' 4 pc' ∧ v' = .slice qa' k' qc' := by
  subst hk; subst hk'
  obtain ⟨a, b, c, d, e, h1, h2⟩ := two_V.1 h.view
  cases e
  obtain ⟨_, _, e1, h3, h4⟩ := disk_V.1 h1
  cases e1
  obtain ⟨_, _, e1, h5, h6⟩ := disk_V.1 h2
  cases e1
  obtain ⟨a1, c1, e1⟩ := sl_form h3
  obtain ⟨a2, c2, e2⟩ := sl_form h4
  obtain ⟨a3, c3, e3⟩ := sl_form h5
  obtain ⟨a4, c4, e4⟩ := sl_form h6
  exact ⟨a1, c1, a2, c2, a3, c3, a4, c4, e1, e2, e3, e4⟩
theorem disk_form4 {lo hi k : Nat} {w : World} {u v : Value} {s : List Int} {ws : List WriteD} (h : diskC.own lo hi w [u, v] (mrow s, ws)) (hk : ws.length = k) : ∃ pa pc qa qc, u = .slice pa 4 pc ∧ v = .slice qa k qc := by
  subst hk
  obtain ⟨_, _, e1, h3, h4⟩ := disk_V.1 h.view
  cases e1
  obtain ⟨a1, c1, e1⟩ := sl_form h3
  obtain ⟨a2, c2, e2⟩ := sl_form h4
  exact ⟨a1, c1, a2, c2, e1, e2⟩

theorem put4 (w : World) (b : Nat) (p q r s : Value) : Chg b (b + 1) w ((((w.setCell ⟨b, 0, none⟩ p).setCell ⟨b, 1, none⟩ q).setCell ⟨b, 2, none⟩ r).setCell ⟨b, 3, none⟩ s) :=
  (((Chg.setCell w ⟨b, 0, none⟩ p (Nat.le_refl _) (Nat.lt_succ_self _)).trans (Chg.setCell _ ⟨b, 1, none⟩ q (Nat.le_refl _) (Nat.lt_succ_self _))).trans (Chg.setCell _ ⟨b, 2, none⟩ r (Nat.le_refl _) (Nat.lt_succ_self _))).trans (Chg.setCell _ ⟨b, 3, none⟩ s (Nat.le_refl _) (Nat.lt_succ_self _))
theorem put2 (w : World) (b i j : Nat) (p q : Value) : Chg b (b + 1) w ((w.setCell ⟨b, i, none⟩ p).setCell ⟨b, j, none⟩ q) :=
  (Chg.setCell w ⟨b, i, none⟩ p (Nat.le_refl _) (Nat.lt_succ_self _)).trans (Chg.setCell _ ⟨b, j, none⟩ q (Nat.le_refl _) (Nat.lt_succ_self _))

/-- The memory of the law: the dice, the box of the two disks, what they lead to. -/
structure MM (W : World) (a : Option Addr) (n cc db tb : Nat) (w : World) (u v u' v' : Value) (t : TwoD) : Prop where
  dd : Dd W a n cc db w
  box : Bx w tb [u, v, u', v']
  no : ∃ fp, twoC.O w [u, v, u', v'] t fp ∧ ∀ b ∈ fp, db < b ∧ b ≠ tb
  lt : db < tb
section
variable {W w w' : World} {a : Option Addr} {n cc db tb lo hi : Nat} {u v u' v' x y x' y' : Value} {t t' : TwoD}
theorem MM.view (h : MM W a n cc db tb w u v u' v' t) : twoC.V w [u, v, u', v'] t := let ⟨_, hO, _⟩ := h.no; twoC.view hO
theorem MM.viewB (h : MM W a n cc db tb w u v u' v' t) : diskC.V w [u', v'] t.2 := by
  obtain ⟨_, _, _, _, e, _, h2⟩ := two_V.1 h.view
  cases e; exact h2
theorem MM.grow (h : MM W a n cc db tb w u v u' v' t) (he : Ext w w') : MM W a n cc db tb w' u v u' v' t :=
  let ⟨fp, h1, h2⟩ := h.no; ⟨h.dd.grow he, h.box.ext he, ⟨fp, twoC.frame h1 (fun b hb => he.block b (twoC.lt h1 b hb)), h2⟩, h.lt⟩
theorem MM.dice (h : MM W a n cc db tb w u v u' v' t) (hC : Chg db (db + 1) w w') (hD : Dd W a n cc db w') : MM W a n cc db tb w' u v u' v' t := by
  obtain ⟨fp, h1, h2⟩ := h.no
  have := h.lt
  exact ⟨hD, h.box.chg hC (by omega), ⟨fp, twoC.frame h1 (fun b hb => hC.block b (twoC.lt h1 b hb) (by have := (h2 b hb).1; omega)), h2⟩, h.lt⟩
theorem MM.put (h : MM W a n cc db tb w u v u' v' t) (hO : twoC.own lo hi w [x, y, x', y'] t') (hlo : tb < lo) :
    MM W a n cc db tb ((((w.setCell ⟨tb, 0, none⟩ x).setCell ⟨tb, 1, none⟩ y).setCell ⟨tb, 2, none⟩ x').setCell ⟨tb, 3, none⟩ y') x y x' y' t' := by
  have hC := put4 w tb x y x' y'
  have := h.lt
  obtain ⟨fp, h1, h2⟩ := Cd.own.chg hO hC (by omega)
  exact ⟨h.dd.chg hC h.lt, Bx.set43 (Bx.set42 (Bx.set41 (Bx.set40 h.box x) y) x') y', ⟨fp, h1, fun b hb => by have := h2.2 b hb; omega⟩, h.lt⟩
theorem MM.putB (h : MM W a n cc db tb w u v u' v' t) {d : DiskD} (hO : diskC.own lo hi w [x', y'] d) (hlo : tb < lo) :
    MM W a n cc db tb ((w.setCell ⟨tb, 2, none⟩ x').setCell ⟨tb, 3, none⟩ y') u v x' y' (t.1, d) := by
  have hC := put2 w tb 2 3 x' y'
  have := h.lt
  obtain ⟨g, h1, h2⟩ := Cd.own.chg hO hC (by omega)
  obtain ⟨fp, h3, h4⟩ := h.no
  obtain ⟨_, _, _, _, f1, f2, e, rfl, h5, h6⟩ := two_O.1 h3
  cases e
  exact ⟨h.dd.chg hC h.lt, Bx.set43 (Bx.set42 h.box x') y', ⟨f1 ++ g, two_O.2 ⟨_, _, _, _, f1, g, rfl, rfl, diskC.frame h5 (fun b hb => hC.block b (diskC.lt h5 b hb) (by have := (h4 b (List.mem_append_left _ hb)).2; omega)), h1⟩, fun b hb => by
    rcases List.mem_append.1 hb with h9 | h9
    · exact h4 b (List.mem_append_left _ h9)
    · have := h2.2 b h9; omega⟩, h.lt⟩
/-- The second disk's third sector. -/
theorem MM.peek {pa' : Option Addr} {k' kc' : Nat} {ws : List WriteD} {s : List Int} {d : DiskD} (h : MM W a n cc db tb w u v (.slice pa' k' kc') v' (d, (mrow s, ws))) :
    ∃ kb ko sa sc, pa' = some ⟨kb, ko, none⟩ ∧ db < kb ∧ kb ≠ tb ∧ w.cell? ⟨kb, ko + 2, none⟩ = some (.slice sa s.length sc) ∧ (∀ b ∈ ablk sa, db < b ∧ b ≠ tb) ∧ rowC.V w [.slice sa s.length sc] s := by
  obtain ⟨fp, h3, h4⟩ := h.no
  obtain ⟨_, _, _, _, f1, f2, e, rfl, h5, h6⟩ := two_O.1 h3
  cases e
  obtain ⟨_, _, g1, g2, e, rfl, h7, h8⟩ := disk_O.1 h6
  cases e
  obtain ⟨kb, ko, sa, sc, rfl, hk, hc, hb, hv⟩ := rows_at (m := 2) (s := s) h7 rfl
  have hin : ∀ b ∈ g1, db < b ∧ b ≠ tb := fun b hb => h4 b (by simp [hb])
  exact ⟨kb, ko, sa, sc, rfl, (hin kb hk).1, (hin kb hk).2, hc, fun b hz => hin b (hb b hz), hv⟩
end
theorem row_bx {w : World} {b : Nat} {x y z : Int} (h : Bx w b [.int .i64 x, .int .i64 y, .int .i64 z]) : rowC.V w [.slice (some ⟨b, 0, none⟩) 3 3] [x, y, z] := by
  refine ⟨some ⟨b, 0, none⟩, 3, [.int .i64 x, .int .i64 y, .int .i64 z], rfl, Nat.le_refl _, by simp [maxLen], fun j u hj => ⟨b, 0, rfl, ?_⟩, elemsV_int.2 rfl⟩
  rw [Nat.zero_add]
  exact h.cell j u hj
end Go.Proofs.Ytbapomhoipdanaa
