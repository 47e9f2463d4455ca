/- A letter twice. -/
import Derived.Test.YtjjeagblgjmcpaaNt7
set_option linter.unusedVariables false
set_option linter.unusedSimpArgs false
namespace Go.Sl
open Go.RowKit
theorem run_append_kept {P : Program} (w : World) (t ty e : TypeId) (i : TypeInfo) (z : Value) (n bytes : Nat) (ht : P.underlying t = some (.slice e)) (hi : P.info? e = some i) (hz : i.zero = some z)
    (hsize : i.size = n) (hby : i.bytes = bytes) (hzs : z.cells.size = n)
    (a : Option Addr) (len cap : Nat) (xs : List Value) (hl : xs.length = len * n) (hsl : SlAt w n a cap xs) (hlc : len ≤ cap)
    (ax : Option Addr) (m c : Nat) (news : List Value) (hnl : news.length = m * n) (hnews : CellsAt w ax news) (h1 : ∀ u ∈ news, u.oneCell' = true)
    (hcap : cap ≤ maxLen) (h63 : len + m ≤ maxLen) (hbytes : (len + m) * bytes ≤ 140737488355328) :
    ∃ a' cap' w', (Builtin.append_ #[t, t] ty #[.slice a len cap, .slice ax m c]).run P w = .ok (.slice a' (len + m) cap') w' ∧ SlAt w' n a' cap' (xs ++ news) ∧ len + m ≤ cap' ∧ cap' ≤ maxLen ∧ AppW w w' a a' ∧ (a' = a ∨ ∀ k, k < w.heap.size → w'.heap[k]? = w.heap[k]?) := by
  subst hsize
  subst hby
  have hsrc : Src P i.size t (.slice ax m c) m news w := ⟨.inl ⟨e, ht⟩, fun _ => rfl, firstCells_at hnews hnl, firstCells_at hnews.drew hnl, hnl, h1⟩
  by_cases hroom : len + m ≤ cap
  · rcases hsl with ⟨rfl, rfl, rfl⟩ | ⟨b, off, C, E, rfl, hb, hfit, hle, htake⟩
    · have hm : m = 0 := by omega
      have hn : len = 0 := by omega
      subst hm; subst hn
      have : news = [] := List.eq_nil_of_length_eq_zero (by simpa using hnl)
      subst this
      refine ⟨none, 0, w, ?_, .inl ⟨rfl, rfl, rfl⟩, by omega, by omega, ⟨rfl, rfl, rfl, Nat.le_refl _, fun _ _ _ => rfl, .inl rfl⟩, .inl rfl⟩
      simp [Builtin.append_, run_underlying ht, sizeOf, typeInfo, hi, Builtin.lenOf, hsrc.cells]
    · have hmul : (len + m) * i.size ≤ cap * i.size := Nat.mul_le_mul_right _ hroom
      rw [Nat.add_mul] at hmul
      have hr := run_append_room_src (P := P) w t t ty e i ht hi b off len cap (.slice ax m c) m news hsrc hroom
        (fun j hj => by rw [cell_of_row w b _ C E (0, 0) hb]; simp; omega) (fun j hj => unfrozen hb)
      obtain ⟨C', hC', hl'⟩ := setCells_block (E := E) news (off + len * i.size) w C hb (by omega)
      refine ⟨_, _, _, hr, .inr ⟨b, off, C', E, rfl, hC', ?_, ?_, ?_⟩, hroom, hcap, ⟨(setCells_chg w b _ news).os, (setCells_chg w b _ news).tape, (setCells_chg w b _ news).output, by rw [setCells_size]; exact Nat.le_refl _, ?_, .inl rfl⟩, .inl rfl⟩
      · have : C'.size = C.size := by
          have := congrArg List.length hl'
          simp at this
          omega
        omega
      · rw [List.length_append]; omega
      · rw [hl', List.append_assoc, List.drop_append_of_le_length (by simp; omega), List.length_append]
        have e1 : (C.toList.take (off + len * i.size)).drop off = xs := by
          rw [List.drop_take, show off + len * i.size - off = xs.length by omega, htake]
        rw [e1, ← List.append_assoc, ← List.length_append, List.take_left]
      · intro k hk hn
        exact (setCells_chg w b _ news).block k hk (by simp [ablk] at hn; omega)
  · have hr := run_append_grow_src (P := P) w t t ty e i z ht hi hz a len cap xs (firstCells_at hsl.cells.drew hl) (.slice ax m c) m news hsrc (by omega) (by simp only [maxLen] at h63; omega) (growslice_fits (by omega) hbytes)
    have hge := grownCap_ge w (len + m) cap e
    have hcm := grownCap_le_maxLen w (len + m) cap e h63
    refine ⟨_, _, _, hr, .inr ⟨w.heap.size, 0, _, e, rfl, heap_alloc_new w.drew _, ?_, ?_, ?_⟩, hge, hcm, ⟨rfl, rfl, rfl, by simp, fun k hk _ => Below.heap_alloc w.drew _ k hk, .inr ⟨rfl, by simp⟩⟩, .inr (fun k hk => Below.heap_alloc w.drew _ k hk)⟩
    · simp only [Array.size_append, List.size_toArray, List.length_append, size_zeroCells, hzs, hl, hnl, ← Nat.add_mul]
      rw [show len + m + (grownCap w (len + m) cap e - (len + m)) = grownCap w (len + m) cap e by omega]
      omega
    · rw [List.length_append, hl, hnl, ← Nat.add_mul]; exact Nat.mul_le_mul_right _ hge
    · simp only [List.drop_zero, Array.toList_append]
      exact List.take_left


theorem opwp_append_kept {P : Program} {w : World} {o : Oper} {ac : Act} {K : Act → World → Prop} {Q : Exit → Act → World → Prop} (s x : Operand) (t : TypeId)
    (ho : o.op = .call { callee := .builtin .append, args := #[s, x], argTypes := #[t, t] })
    (e : TypeId) (z : Value) (n bytes : Nat) (ht : P.underlying t = some (.slice e)) (hinfo : (P.info? e).map (fun i => (i.zero, i.size, i.bytes)) = some (some z, n, bytes)) (hzs : z.cells.size = n)
    (a : Option Addr) (len cap : Nat) (xs : List Value) (hs : ac.eval s = .slice a len cap) (hl : xs.length = len * n) (hsl : SlAt w n a cap xs) (hlc : len ≤ cap) (hcap : cap ≤ 9223372036854775807)
    (ax : Option Addr) (m c : Nat) (news : List Value) (hx : ac.eval x = .slice ax m c) (hnl : news.length = m * n) (hnews : CellsAt w ax news) (h1 : ∀ u ∈ news, u.oneCell' = true)
    (hbytes : (len + m) * bytes ≤ 140737488355328 ∧ len + m ≤ 9223372036854775807)
    (h : ∀ a' cap' w', SlAt w' n a' cap' (xs ++ news) → len + m ≤ cap' → cap' ≤ 9223372036854775807 → AppW w w' a a' → (a' = a ∨ ∀ k, k < w.heap.size → w'.heap[k]? = w.heap[k]?) → K (ac.put o.dst (.slice a' (len + m) cap')) w') : Oper.wp P o ac w K Q := by
  obtain ⟨i, hi, hz, hsize, hby⟩ := info_parts hinfo
  obtain ⟨a', cap', w', hr, h2, h3, h4, h5, h6⟩ := run_append_kept (P := P) w t o.type e i z n bytes ht hi hz hsize hby hzs a len cap xs hl hsl hlc ax m c news hnl hnews h1 (by simpa [maxLen] using hcap) (by simpa [maxLen] using hbytes.2) hbytes.1
  unfold Oper.wp execOp
  simp only [ho, resolve, invoke, builtin, Sem.run_bind, Sem.run_pure, Result.andThen_ok, List.map_toArray, List.map_cons, List.map_nil, hs, hx, hr]
  exact h a' cap' w' h2 h3 (by simpa [maxLen] using h4) h5 h6
theorem kept_cell {w w' : World} {a' : Option Addr} {n cap' b off j : Nat} {xs news : List Value} {u : Value} (hs : SlAt w' n a' cap' (xs ++ news)) (hk : a' = some ⟨b, off, none⟩ ∨ ∀ k, k < w.heap.size → w'.heap[k]? = w.heap[k]?) (hx : xs[j]? = some u) (hc : w.cell? ⟨b, off + j, none⟩ = some u) : w'.cell? ⟨b, off + j, none⟩ = some u := by
  rcases hk with rfl | hk
  · obtain ⟨b', off', e, h⟩ := hs.cells j u (by rw [List.getElem?_append_left (List.getElem?_eq_some_iff.1 hx).1]; exact hx)
    cases e
    exact h
  · rw [World.cell?_of_block (w := w) (hk b (World.block_lt_of_cell? w _ hc))]; exact hc
theorem cell_set2 {w : World} {b o b1 o1 b2 o2 : Nat} {v u1 u2 : Value} (h : w.cell? ⟨b, o, none⟩ = some v) (hn : b ≠ b1 ∧ b ≠ b2) : ((w.setCell ⟨b1, o1, none⟩ u1).setCell ⟨b2, o2, none⟩ u2).cell? ⟨b, o, none⟩ = some v := by
  rw [World.cell?_setCell_other _ _ _ _ (by intro e; (try simp at e); (try omega)), World.cell?_setCell_other _ _ _ _ (by intro e; (try simp at e); (try omega))]; exact h
end Go.Sl
namespace Go.Proofs.Ytjjeagblgjmcpaa
open Go.RowKit Go.Sl

set_option maxHeartbeats 8000000 in
set_option maxRecDepth 20000 in
theorem implDoubled_c (cs : List Value) (d : NetD) (n : Int) (w : World) (h : netC.V w cs d) :
    Calls Try.prog 16 #[.agg cs.toArray, .int .i64 n] w fun e w' => ∃ u v, e = .returned (.tuple #[.agg #[u, v], .bool (doubled d n).2]) ∧ Ext w w' ∧ netC.own w.heap.size w'.heap.size w' [u, v] (doubled d n).1 := by
  have HD := Lib.hid h
  obtain ⟨u, v, rfl, hu, hv⟩ := net_V.1 h
  obtain ⟨ms, ls⟩ := d
  simp only at hu hv
  obtain ⟨a, cap, rfl, h1, h2, hc⟩ := slice_open (R := msgC) (by decide) hu
  obtain ⟨va, vc, rfl⟩ := sl_form hv
  clear hu hv h
  try simp only at h1 hc
  have Hinf := Lib.hid Try.infoM
  cases hd : netOk (ms, ls)
  · have hr : doubled (ms, ls) n = (([], []), false) := by unfold doubled; rw [if_neg (by rw [hd]; simp)]
    rw [hr]
    have Hd := Lib.hid hd; clear hd hr hc
    go_enter Try.func16, Try.ntmps16
    go_wp2_with fail
    refine (implNetOk_c _ (ms, ls) _ (netC.vext HD.out (by repeat (first | with_reducible exact Ext.refl _ | with_reducible assumption | with_reducible refine Ext.pAlloc ?_ _ | ((with_reducible refine Ext.pSet ?_ ?_ _); rotate_left; (simp <;> omega)) | with_reducible refine Ext.pDrew ?_ | with_reducible refine Ext.pDrewN ?_ _)))).mono ?_
    rw [Hd.out]
    rintro e w1 ⟨rfl, Ew1⟩
    have Xw1 : Ext w w1 := Ext.trans (by repeat (first | with_reducible exact Ext.refl _ | with_reducible assumption | with_reducible refine Ext.pAlloc ?_ _ | ((with_reducible refine Ext.pSet ?_ ?_ _); rotate_left; (simp <;> omega)) | with_reducible refine Ext.pDrew ?_ | with_reducible refine Ext.pDrewN ?_ _)) Ew1
    have zw1 : w.heap.size + 1 + 1 ≤ w1.heap.size := by have := Ew1.size; (try simp at this); omega
    have B_d' : Bx w1 w.heap.size [.slice a ms.length cap, .slice va ls.length vc] := Bx.ext (by repeat (first | with_reducible assumption | with_reducible exact Bx.new _ _ _ _ rfl | ((with_reducible refine Bx.new _ _ _ _ ?_); simp; done) | with_reducible refine Bx.pAlloc ?_ _ | with_reducible refine Bx.pDrew ?_ | with_reducible refine Bx.pDrewN ?_ _ | with_reducible apply Bx.set10 | with_reducible apply Bx.set20 | with_reducible apply Bx.set21 | with_reducible apply Bx.set30 | with_reducible apply Bx.set31 | with_reducible apply Bx.set32 | with_reducible apply Bx.set40 | with_reducible apply Bx.set41 | with_reducible apply Bx.set42 | with_reducible apply Bx.set43 | ((with_reducible refine Bx.set_other ?_ ?_ _); rotate_left; (simp <;> omega)))) Ew1
    have B_r' : Bx w1 (w.heap.size + 1) [.slice none 0 0, .slice none 0 0] := Bx.ext (by repeat (first | with_reducible assumption | with_reducible exact Bx.new _ _ _ _ rfl | ((with_reducible refine Bx.new _ _ _ _ ?_); simp; done) | with_reducible refine Bx.pAlloc ?_ _ | with_reducible refine Bx.pDrew ?_ | with_reducible refine Bx.pDrewN ?_ _ | with_reducible apply Bx.set10 | with_reducible apply Bx.set20 | with_reducible apply Bx.set21 | with_reducible apply Bx.set30 | with_reducible apply Bx.set31 | with_reducible apply Bx.set32 | with_reducible apply Bx.set40 | with_reducible apply Bx.set41 | with_reducible apply Bx.set42 | with_reducible apply Bx.set43 | ((with_reducible refine Bx.set_other ?_ ?_ _); rotate_left; (simp <;> omega)))) Ew1
    have B_d := B_d'; clear B_d'
    have B_r := B_r'; clear B_r'
    clear Ew1
    have c_d_0 := B_d.cell 0 _ rfl
    have c_d_1 := B_d.cell 1 _ rfl
    have n_d := B_d.lt
    have c_r_0 := B_r.cell 0 _ rfl
    have c_r_1 := B_r.cell 1 _ rfl
    have n_r := B_r.lt
    have f_r := B_r.fr
    go_wp2
    refine bodyPost_ret (v := .tuple #[.agg #[.slice none 0 0, .slice none 0 0], .bool false]) (by simp [results, Try.results16, go_sem, c_r_0, c_r_1, n_r]) rfl ⟨_, _, rfl, ?_, ?_⟩
    · repeat (first | with_reducible exact Ext.refl _ | with_reducible assumption | with_reducible refine Ext.pAlloc ?_ _ | ((with_reducible refine Ext.pSet ?_ ?_ _); rotate_left; (simp <;> omega)) | with_reducible refine Ext.pDrew ?_ | with_reducible refine Ext.pDrewN ?_ _)
    · exact net_nil _ _ _
  · cases ht : thereAt (ms, ls) n
    · have hr : doubled (ms, ls) n = ((ms, ls), false) := by unfold doubled; rw [if_pos hd, if_neg (by rw [ht]; simp)]
      rw [hr]
      have Hd := Lib.hid hd; have Ht := Lib.hid ht; clear hd ht hr hc
      go_enter Try.func16, Try.ntmps16
      go_wp2_with fail
      refine (implNetOk_c _ (ms, ls) _ (netC.vext HD.out (by repeat (first | with_reducible exact Ext.refl _ | with_reducible assumption | with_reducible refine Ext.pAlloc ?_ _ | ((with_reducible refine Ext.pSet ?_ ?_ _); rotate_left; (simp <;> omega)) | with_reducible refine Ext.pDrew ?_ | with_reducible refine Ext.pDrewN ?_ _)))).mono ?_
      rw [Hd.out]
      rintro e w1 ⟨rfl, Ew1⟩
      have Xw1 : Ext w w1 := Ext.trans (by repeat (first | with_reducible exact Ext.refl _ | with_reducible assumption | with_reducible refine Ext.pAlloc ?_ _ | ((with_reducible refine Ext.pSet ?_ ?_ _); rotate_left; (simp <;> omega)) | with_reducible refine Ext.pDrew ?_ | with_reducible refine Ext.pDrewN ?_ _)) Ew1
      have zw1 : w.heap.size + 1 + 1 ≤ w1.heap.size := by have := Ew1.size; (try simp at this); omega
      have B_d' : Bx w1 w.heap.size [.slice a ms.length cap, .slice va ls.length vc] := Bx.ext (by repeat (first | with_reducible assumption | with_reducible exact Bx.new _ _ _ _ rfl | ((with_reducible refine Bx.new _ _ _ _ ?_); simp; done) | with_reducible refine Bx.pAlloc ?_ _ | with_reducible refine Bx.pDrew ?_ | with_reducible refine Bx.pDrewN ?_ _ | with_reducible apply Bx.set10 | with_reducible apply Bx.set20 | with_reducible apply Bx.set21 | with_reducible apply Bx.set30 | with_reducible apply Bx.set31 | with_reducible apply Bx.set32 | with_reducible apply Bx.set40 | with_reducible apply Bx.set41 | with_reducible apply Bx.set42 | with_reducible apply Bx.set43 | ((with_reducible refine Bx.set_other ?_ ?_ _); rotate_left; (simp <;> omega)))) Ew1
      have B_r' : Bx w1 (w.heap.size + 1) [.slice none 0 0, .slice none 0 0] := Bx.ext (by repeat (first | with_reducible assumption | with_reducible exact Bx.new _ _ _ _ rfl | ((with_reducible refine Bx.new _ _ _ _ ?_); simp; done) | with_reducible refine Bx.pAlloc ?_ _ | with_reducible refine Bx.pDrew ?_ | with_reducible refine Bx.pDrewN ?_ _ | with_reducible apply Bx.set10 | with_reducible apply Bx.set20 | with_reducible apply Bx.set21 | with_reducible apply Bx.set30 | with_reducible apply Bx.set31 | with_reducible apply Bx.set32 | with_reducible apply Bx.set40 | with_reducible apply Bx.set41 | with_reducible apply Bx.set42 | with_reducible apply Bx.set43 | ((with_reducible refine Bx.set_other ?_ ?_ _); rotate_left; (simp <;> omega)))) Ew1
      have B_d := B_d'; clear B_d'
      have B_r := B_r'; clear B_r'
      clear Ew1
      have c_d_0 := B_d.cell 0 _ rfl
      have c_d_1 := B_d.cell 1 _ rfl
      have n_d := B_d.lt
      have c_r_0 := B_r.cell 0 _ rfl
      have c_r_1 := B_r.cell 1 _ rfl
      have n_r := B_r.lt
      have f_r := B_r.fr
      go_wp2_with fail
      refine (copyNet_c _ (ms, ls) _ (netC.vext HD.out (by repeat (first | with_reducible exact Ext.refl _ | with_reducible assumption | with_reducible refine Ext.pAlloc ?_ _ | ((with_reducible refine Ext.pSet ?_ ?_ _); rotate_left; (simp <;> omega)) | with_reducible refine Ext.pDrew ?_ | with_reducible refine Ext.pDrewN ?_ _))) Hd.out).mono ?_
      rintro e w2 ⟨u1, v1, rfl, Ew2, a1, b1, a2, b2, p1, p2, p3, p4, p5, p6, p7, O_cm, O_cl⟩
      simp only at O_cm O_cl
      obtain ⟨ka, kc, rfl⟩ := sl_form O_cm.view
      obtain ⟨la, lc, rfl⟩ := sl_form O_cl.view
      replace p1 : w1.heap.size ≤ a1 := by have h9 := p1; (try simp at h9); omega
      replace p4 : w1.heap.size ≤ a2 := by have h9 := p4; (try simp at h9); omega
      have Xw2 : Ext w w2 := Ext.trans (by repeat (first | with_reducible exact Ext.refl _ | with_reducible assumption | with_reducible refine Ext.pAlloc ?_ _ | ((with_reducible refine Ext.pSet ?_ ?_ _); rotate_left; (simp <;> omega)) | with_reducible refine Ext.pDrew ?_ | with_reducible refine Ext.pDrewN ?_ _)) Ew2
      have zw2 : w1.heap.size ≤ w2.heap.size := by have := Ew2.size; (try simp at this); omega
      have B_d' : Bx w2 w.heap.size [.slice a ms.length cap, .slice va ls.length vc] := Bx.ext (by repeat (first | with_reducible assumption | with_reducible exact Bx.new _ _ _ _ rfl | ((with_reducible refine Bx.new _ _ _ _ ?_); simp; done) | with_reducible refine Bx.pAlloc ?_ _ | with_reducible refine Bx.pDrew ?_ | with_reducible refine Bx.pDrewN ?_ _ | with_reducible apply Bx.set10 | with_reducible apply Bx.set20 | with_reducible apply Bx.set21 | with_reducible apply Bx.set30 | with_reducible apply Bx.set31 | with_reducible apply Bx.set32 | with_reducible apply Bx.set40 | with_reducible apply Bx.set41 | with_reducible apply Bx.set42 | with_reducible apply Bx.set43 | ((with_reducible refine Bx.set_other ?_ ?_ _); rotate_left; (simp <;> omega)))) Ew2
      have B_r' : Bx w2 (w.heap.size + 1) [.slice none 0 0, .slice none 0 0] := Bx.ext (by repeat (first | with_reducible assumption | with_reducible exact Bx.new _ _ _ _ rfl | ((with_reducible refine Bx.new _ _ _ _ ?_); simp; done) | with_reducible refine Bx.pAlloc ?_ _ | with_reducible refine Bx.pDrew ?_ | with_reducible refine Bx.pDrewN ?_ _ | with_reducible apply Bx.set10 | with_reducible apply Bx.set20 | with_reducible apply Bx.set21 | with_reducible apply Bx.set30 | with_reducible apply Bx.set31 | with_reducible apply Bx.set32 | with_reducible apply Bx.set40 | with_reducible apply Bx.set41 | with_reducible apply Bx.set42 | with_reducible apply Bx.set43 | ((with_reducible refine Bx.set_other ?_ ?_ _); rotate_left; (simp <;> omega)))) Ew2
      clear c_d_0 c_d_1 n_d c_r_0 c_r_1 n_r f_r
      clear B_d
      have B_d := B_d'; clear B_d'
      clear B_r
      have B_r := B_r'; clear B_r'
      clear Ew2 Xw1
      have c_d_0 := B_d.cell 0 _ rfl
      have c_d_1 := B_d.cell 1 _ rfl
      have n_d := B_d.lt
      have c_r_0 := B_r.cell 0 _ rfl
      have c_r_1 := B_r.cell 1 _ rfl
      have n_r := B_r.lt
      have f_r := B_r.fr
      go_wp2_with fail
      refine (letterOk_c _ (ms, ls) _ _ (netC.vext HD.out (by repeat (first | with_reducible exact Ext.refl _ | with_reducible assumption | with_reducible refine Ext.pAlloc ?_ _ | ((with_reducible refine Ext.pSet ?_ ?_ _); rotate_left; (simp <;> omega)) | with_reducible refine Ext.pDrew ?_ | with_reducible refine Ext.pDrewN ?_ _)))).mono ?_
      rw [Ht.out]
      rintro e w3 ⟨rfl, Ew3⟩
      have Xw3 : Ext w w3 := Ext.trans (by repeat (first | with_reducible exact Ext.refl _ | with_reducible assumption | with_reducible refine Ext.pAlloc ?_ _ | ((with_reducible refine Ext.pSet ?_ ?_ _); rotate_left; (simp <;> omega)) | with_reducible refine Ext.pDrew ?_ | with_reducible refine Ext.pDrewN ?_ _)) Ew3
      have zw3 : w2.heap.size + 1 ≤ w3.heap.size := by have := Ew3.size; (try simp at this); omega
      have B_d' : Bx w3 w.heap.size [.slice a ms.length cap, .slice va ls.length vc] := Bx.ext (by repeat (first | with_reducible assumption | with_reducible exact Bx.new _ _ _ _ rfl | ((with_reducible refine Bx.new _ _ _ _ ?_); simp; done) | with_reducible refine Bx.pAlloc ?_ _ | with_reducible refine Bx.pDrew ?_ | with_reducible refine Bx.pDrewN ?_ _ | with_reducible apply Bx.set10 | with_reducible apply Bx.set20 | with_reducible apply Bx.set21 | with_reducible apply Bx.set30 | with_reducible apply Bx.set31 | with_reducible apply Bx.set32 | with_reducible apply Bx.set40 | with_reducible apply Bx.set41 | with_reducible apply Bx.set42 | with_reducible apply Bx.set43 | ((with_reducible refine Bx.set_other ?_ ?_ _); rotate_left; (simp <;> omega)))) Ew3
      have B_r' : Bx w3 (w.heap.size + 1) [.slice none 0 0, .slice none 0 0] := Bx.ext (by repeat (first | with_reducible assumption | with_reducible exact Bx.new _ _ _ _ rfl | ((with_reducible refine Bx.new _ _ _ _ ?_); simp; done) | with_reducible refine Bx.pAlloc ?_ _ | with_reducible refine Bx.pDrew ?_ | with_reducible refine Bx.pDrewN ?_ _ | with_reducible apply Bx.set10 | with_reducible apply Bx.set20 | with_reducible apply Bx.set21 | with_reducible apply Bx.set30 | with_reducible apply Bx.set31 | with_reducible apply Bx.set32 | with_reducible apply Bx.set40 | with_reducible apply Bx.set41 | with_reducible apply Bx.set42 | with_reducible apply Bx.set43 | ((with_reducible refine Bx.set_other ?_ ?_ _); rotate_left; (simp <;> omega)))) Ew3
      have B_o' : Bx w3 w2.heap.size [.slice ka ms.length kc, .slice la ls.length lc] := Bx.ext (by repeat (first | with_reducible assumption | with_reducible exact Bx.new _ _ _ _ rfl | ((with_reducible refine Bx.new _ _ _ _ ?_); simp; done) | with_reducible refine Bx.pAlloc ?_ _ | with_reducible refine Bx.pDrew ?_ | with_reducible refine Bx.pDrewN ?_ _ | with_reducible apply Bx.set10 | with_reducible apply Bx.set20 | with_reducible apply Bx.set21 | with_reducible apply Bx.set30 | with_reducible apply Bx.set31 | with_reducible apply Bx.set32 | with_reducible apply Bx.set40 | with_reducible apply Bx.set41 | with_reducible apply Bx.set42 | with_reducible apply Bx.set43 | ((with_reducible refine Bx.set_other ?_ ?_ _); rotate_left; (simp <;> omega)))) Ew3
      have O_cm' : (msgsC).own (a1) (b1) w3 [.slice ka ms.length kc] (ms) := Cd.own.ext (by repeat (first | with_reducible assumption | with_reducible refine Cd.own.pAlloc ?_ _ | with_reducible refine Cd.own.pDrew ?_ | with_reducible refine Cd.own.pDrewN ?_ _ | ((with_reducible refine Cd.own.pSet ?_ ?_ _); rotate_left; (simp <;> omega)))) Ew3
      have O_cl' : (linksC).own (a2) (b2) w3 [.slice la ls.length lc] (ls) := Cd.own.ext (by repeat (first | with_reducible assumption | with_reducible refine Cd.own.pAlloc ?_ _ | with_reducible refine Cd.own.pDrew ?_ | with_reducible refine Cd.own.pDrewN ?_ _ | ((with_reducible refine Cd.own.pSet ?_ ?_ _); rotate_left; (simp <;> omega)))) Ew3
      clear c_d_0 c_d_1 n_d c_r_0 c_r_1 n_r f_r
      clear B_d
      have B_d := B_d'; clear B_d'
      clear B_r
      have B_r := B_r'; clear B_r'
      have B_o := B_o'; clear B_o'
      clear O_cm; have O_cm := O_cm'; clear O_cm'
      clear O_cl; have O_cl := O_cl'; clear O_cl'
      clear Ew3 Xw2
      have c_d_0 := B_d.cell 0 _ rfl
      have c_d_1 := B_d.cell 1 _ rfl
      have n_d := B_d.lt
      have c_r_0 := B_r.cell 0 _ rfl
      have c_r_1 := B_r.cell 1 _ rfl
      have n_r := B_r.lt
      have f_r := B_r.fr
      have c_o_0 := B_o.cell 0 _ rfl
      have c_o_1 := B_o.cell 1 _ rfl
      have n_o := B_o.lt
      have f_o := B_o.fr
      go_wp2
      refine bodyPost_ret (v := .tuple #[.agg #[.slice ka ms.length kc, .slice la ls.length lc], .bool false]) (by simp [results, Try.results16, go_sem, c_r_0, c_r_1, n_r]) rfl ⟨_, _, rfl, ?_, ?_⟩
      · repeat (first | with_reducible exact Ext.refl _ | with_reducible assumption | with_reducible refine Ext.pAlloc ?_ _ | ((with_reducible refine Ext.pSet ?_ ?_ _); rotate_left; (simp <;> omega)) | with_reducible refine Ext.pDrew ?_ | with_reducible refine Ext.pDrewN ?_ _)
      · exact net_join (by repeat (first | with_reducible assumption | with_reducible refine Cd.own.pAlloc ?_ _ | with_reducible refine Cd.own.pDrew ?_ | with_reducible refine Cd.own.pDrewN ?_ _ | ((with_reducible refine Cd.own.pSet ?_ ?_ _); rotate_left; (simp <;> omega)))) (by repeat (first | with_reducible assumption | with_reducible refine Cd.own.pAlloc ?_ _ | with_reducible refine Cd.own.pDrew ?_ | with_reducible refine Cd.own.pDrewN ?_ _ | ((with_reducible refine Cd.own.pSet ?_ ?_ _); rotate_left; (simp <;> omega)))) p7 ⟨(by first | omega | (simp <;> omega)), (by first | (simp [World.setCell]; done) | (simp [World.setCell]; omega) | omega), (by first | omega | (simp <;> omega)), (by first | (simp [World.setCell]; done) | (simp [World.setCell]; omega) | omega)⟩
    · obtain ⟨k, rfl, hk⟩ := there_nat ht
      simp only at hk
      have hmo : msgOk ms[k] = true := netOk_msgs hd _ (List.getElem_mem hk)
      have hg : ms.getD k (0, 0, []) = ms[k] := by rw [List.getD_eq_getElem?_getD, List.getElem?_eq_getElem hk]; rfl
      have hi1 : (0 : Int) ≤ k := by omega
      have hi2 : (k : Int) < ms.length := by omega
      have hlen := (netOk_lens hd).1
      simp only at hlen
      by_cases hf : ms.length = 60
      · have hr : doubled (ms, ls) (k : Int) = ((ms, ls), false) := by unfold doubled; rw [if_pos hd, if_neg (by intro h9; exact h9.2 hf)]
        rw [hr]
        have hlq : ((ms.length : Int) == 60) = true := by rw [beq_iff_eq]; omega
        have Hd := Lib.hid hd; have Ht := Lib.hid ht; clear hd ht hr hc hf hmo hg
        go_enter Try.func16, Try.ntmps16
        go_wp2_with fail
        refine (implNetOk_c _ (ms, ls) _ (netC.vext HD.out (by repeat (first | with_reducible exact Ext.refl _ | with_reducible assumption | with_reducible refine Ext.pAlloc ?_ _ | ((with_reducible refine Ext.pSet ?_ ?_ _); rotate_left; (simp <;> omega)) | with_reducible refine Ext.pDrew ?_ | with_reducible refine Ext.pDrewN ?_ _)))).mono ?_
        rw [Hd.out]
        rintro e w1 ⟨rfl, Ew1⟩
        have Xw1 : Ext w w1 := Ext.trans (by repeat (first | with_reducible exact Ext.refl _ | with_reducible assumption | with_reducible refine Ext.pAlloc ?_ _ | ((with_reducible refine Ext.pSet ?_ ?_ _); rotate_left; (simp <;> omega)) | with_reducible refine Ext.pDrew ?_ | with_reducible refine Ext.pDrewN ?_ _)) Ew1
        have zw1 : w.heap.size + 1 + 1 ≤ w1.heap.size := by have := Ew1.size; (try simp at this); omega
        have B_d' : Bx w1 w.heap.size [.slice a ms.length cap, .slice va ls.length vc] := Bx.ext (by repeat (first | with_reducible assumption | with_reducible exact Bx.new _ _ _ _ rfl | ((with_reducible refine Bx.new _ _ _ _ ?_); simp; done) | with_reducible refine Bx.pAlloc ?_ _ | with_reducible refine Bx.pDrew ?_ | with_reducible refine Bx.pDrewN ?_ _ | with_reducible apply Bx.set10 | with_reducible apply Bx.set20 | with_reducible apply Bx.set21 | with_reducible apply Bx.set30 | with_reducible apply Bx.set31 | with_reducible apply Bx.set32 | with_reducible apply Bx.set40 | with_reducible apply Bx.set41 | with_reducible apply Bx.set42 | with_reducible apply Bx.set43 | ((with_reducible refine Bx.set_other ?_ ?_ _); rotate_left; (simp <;> omega)))) Ew1
        have B_r' : Bx w1 (w.heap.size + 1) [.slice none 0 0, .slice none 0 0] := Bx.ext (by repeat (first | with_reducible assumption | with_reducible exact Bx.new _ _ _ _ rfl | ((with_reducible refine Bx.new _ _ _ _ ?_); simp; done) | with_reducible refine Bx.pAlloc ?_ _ | with_reducible refine Bx.pDrew ?_ | with_reducible refine Bx.pDrewN ?_ _ | with_reducible apply Bx.set10 | with_reducible apply Bx.set20 | with_reducible apply Bx.set21 | with_reducible apply Bx.set30 | with_reducible apply Bx.set31 | with_reducible apply Bx.set32 | with_reducible apply Bx.set40 | with_reducible apply Bx.set41 | with_reducible apply Bx.set42 | with_reducible apply Bx.set43 | ((with_reducible refine Bx.set_other ?_ ?_ _); rotate_left; (simp <;> omega)))) Ew1
        have B_d := B_d'; clear B_d'
        have B_r := B_r'; clear B_r'
        clear Ew1
        have c_d_0 := B_d.cell 0 _ rfl
        have c_d_1 := B_d.cell 1 _ rfl
        have n_d := B_d.lt
        have c_r_0 := B_r.cell 0 _ rfl
        have c_r_1 := B_r.cell 1 _ rfl
        have n_r := B_r.lt
        have f_r := B_r.fr
        go_wp2_with fail
        refine (copyNet_c _ (ms, ls) _ (netC.vext HD.out (by repeat (first | with_reducible exact Ext.refl _ | with_reducible assumption | with_reducible refine Ext.pAlloc ?_ _ | ((with_reducible refine Ext.pSet ?_ ?_ _); rotate_left; (simp <;> omega)) | with_reducible refine Ext.pDrew ?_ | with_reducible refine Ext.pDrewN ?_ _))) Hd.out).mono ?_
        rintro e w2 ⟨u1, v1, rfl, Ew2, a1, b1, a2, b2, p1, p2, p3, p4, p5, p6, p7, O_cm, O_cl⟩
        simp only at O_cm O_cl
        obtain ⟨ka, kc, rfl⟩ := sl_form O_cm.view
        obtain ⟨la, lc, rfl⟩ := sl_form O_cl.view
        replace p1 : w1.heap.size ≤ a1 := by have h9 := p1; (try simp at h9); omega
        replace p4 : w1.heap.size ≤ a2 := by have h9 := p4; (try simp at h9); omega
        have Xw2 : Ext w w2 := Ext.trans (by repeat (first | with_reducible exact Ext.refl _ | with_reducible assumption | with_reducible refine Ext.pAlloc ?_ _ | ((with_reducible refine Ext.pSet ?_ ?_ _); rotate_left; (simp <;> omega)) | with_reducible refine Ext.pDrew ?_ | with_reducible refine Ext.pDrewN ?_ _)) Ew2
        have zw2 : w1.heap.size ≤ w2.heap.size := by have := Ew2.size; (try simp at this); omega
        have B_d' : Bx w2 w.heap.size [.slice a ms.length cap, .slice va ls.length vc] := Bx.ext (by repeat (first | with_reducible assumption | with_reducible exact Bx.new _ _ _ _ rfl | ((with_reducible refine Bx.new _ _ _ _ ?_); simp; done) | with_reducible refine Bx.pAlloc ?_ _ | with_reducible refine Bx.pDrew ?_ | with_reducible refine Bx.pDrewN ?_ _ | with_reducible apply Bx.set10 | with_reducible apply Bx.set20 | with_reducible apply Bx.set21 | with_reducible apply Bx.set30 | with_reducible apply Bx.set31 | with_reducible apply Bx.set32 | with_reducible apply Bx.set40 | with_reducible apply Bx.set41 | with_reducible apply Bx.set42 | with_reducible apply Bx.set43 | ((with_reducible refine Bx.set_other ?_ ?_ _); rotate_left; (simp <;> omega)))) Ew2
        have B_r' : Bx w2 (w.heap.size + 1) [.slice none 0 0, .slice none 0 0] := Bx.ext (by repeat (first | with_reducible assumption | with_reducible exact Bx.new _ _ _ _ rfl | ((with_reducible refine Bx.new _ _ _ _ ?_); simp; done) | with_reducible refine Bx.pAlloc ?_ _ | with_reducible refine Bx.pDrew ?_ | with_reducible refine Bx.pDrewN ?_ _ | with_reducible apply Bx.set10 | with_reducible apply Bx.set20 | with_reducible apply Bx.set21 | with_reducible apply Bx.set30 | with_reducible apply Bx.set31 | with_reducible apply Bx.set32 | with_reducible apply Bx.set40 | with_reducible apply Bx.set41 | with_reducible apply Bx.set42 | with_reducible apply Bx.set43 | ((with_reducible refine Bx.set_other ?_ ?_ _); rotate_left; (simp <;> omega)))) Ew2
        clear c_d_0 c_d_1 n_d c_r_0 c_r_1 n_r f_r
        clear B_d
        have B_d := B_d'; clear B_d'
        clear B_r
        have B_r := B_r'; clear B_r'
        clear Ew2 Xw1
        have c_d_0 := B_d.cell 0 _ rfl
        have c_d_1 := B_d.cell 1 _ rfl
        have n_d := B_d.lt
        have c_r_0 := B_r.cell 0 _ rfl
        have c_r_1 := B_r.cell 1 _ rfl
        have n_r := B_r.lt
        have f_r := B_r.fr
        go_wp2_with fail
        refine (letterOk_c _ (ms, ls) _ _ (netC.vext HD.out (by repeat (first | with_reducible exact Ext.refl _ | with_reducible assumption | with_reducible refine Ext.pAlloc ?_ _ | ((with_reducible refine Ext.pSet ?_ ?_ _); rotate_left; (simp <;> omega)) | with_reducible refine Ext.pDrew ?_ | with_reducible refine Ext.pDrewN ?_ _)))).mono ?_
        rw [Ht.out]
        rintro e w3 ⟨rfl, Ew3⟩
        have Xw3 : Ext w w3 := Ext.trans (by repeat (first | with_reducible exact Ext.refl _ | with_reducible assumption | with_reducible refine Ext.pAlloc ?_ _ | ((with_reducible refine Ext.pSet ?_ ?_ _); rotate_left; (simp <;> omega)) | with_reducible refine Ext.pDrew ?_ | with_reducible refine Ext.pDrewN ?_ _)) Ew3
        have zw3 : w2.heap.size + 1 ≤ w3.heap.size := by have := Ew3.size; (try simp at this); omega
        have B_d' : Bx w3 w.heap.size [.slice a ms.length cap, .slice va ls.length vc] := Bx.ext (by repeat (first | with_reducible assumption | with_reducible exact Bx.new _ _ _ _ rfl | ((with_reducible refine Bx.new _ _ _ _ ?_); simp; done) | with_reducible refine Bx.pAlloc ?_ _ | with_reducible refine Bx.pDrew ?_ | with_reducible refine Bx.pDrewN ?_ _ | with_reducible apply Bx.set10 | with_reducible apply Bx.set20 | with_reducible apply Bx.set21 | with_reducible apply Bx.set30 | with_reducible apply Bx.set31 | with_reducible apply Bx.set32 | with_reducible apply Bx.set40 | with_reducible apply Bx.set41 | with_reducible apply Bx.set42 | with_reducible apply Bx.set43 | ((with_reducible refine Bx.set_other ?_ ?_ _); rotate_left; (simp <;> omega)))) Ew3
        have B_r' : Bx w3 (w.heap.size + 1) [.slice none 0 0, .slice none 0 0] := Bx.ext (by repeat (first | with_reducible assumption | with_reducible exact Bx.new _ _ _ _ rfl | ((with_reducible refine Bx.new _ _ _ _ ?_); simp; done) | with_reducible refine Bx.pAlloc ?_ _ | with_reducible refine Bx.pDrew ?_ | with_reducible refine Bx.pDrewN ?_ _ | with_reducible apply Bx.set10 | with_reducible apply Bx.set20 | with_reducible apply Bx.set21 | with_reducible apply Bx.set30 | with_reducible apply Bx.set31 | with_reducible apply Bx.set32 | with_reducible apply Bx.set40 | with_reducible apply Bx.set41 | with_reducible apply Bx.set42 | with_reducible apply Bx.set43 | ((with_reducible refine Bx.set_other ?_ ?_ _); rotate_left; (simp <;> omega)))) Ew3
        have B_o' : Bx w3 w2.heap.size [.slice ka ms.length kc, .slice la ls.length lc] := Bx.ext (by repeat (first | with_reducible assumption | with_reducible exact Bx.new _ _ _ _ rfl | ((with_reducible refine Bx.new _ _ _ _ ?_); simp; done) | with_reducible refine Bx.pAlloc ?_ _ | with_reducible refine Bx.pDrew ?_ | with_reducible refine Bx.pDrewN ?_ _ | with_reducible apply Bx.set10 | with_reducible apply Bx.set20 | with_reducible apply Bx.set21 | with_reducible apply Bx.set30 | with_reducible apply Bx.set31 | with_reducible apply Bx.set32 | with_reducible apply Bx.set40 | with_reducible apply Bx.set41 | with_reducible apply Bx.set42 | with_reducible apply Bx.set43 | ((with_reducible refine Bx.set_other ?_ ?_ _); rotate_left; (simp <;> omega)))) Ew3
        have O_cm' : (msgsC).own (a1) (b1) w3 [.slice ka ms.length kc] (ms) := Cd.own.ext (by repeat (first | with_reducible assumption | with_reducible refine Cd.own.pAlloc ?_ _ | with_reducible refine Cd.own.pDrew ?_ | with_reducible refine Cd.own.pDrewN ?_ _ | ((with_reducible refine Cd.own.pSet ?_ ?_ _); rotate_left; (simp <;> omega)))) Ew3
        have O_cl' : (linksC).own (a2) (b2) w3 [.slice la ls.length lc] (ls) := Cd.own.ext (by repeat (first | with_reducible assumption | with_reducible refine Cd.own.pAlloc ?_ _ | with_reducible refine Cd.own.pDrew ?_ | with_reducible refine Cd.own.pDrewN ?_ _ | ((with_reducible refine Cd.own.pSet ?_ ?_ _); rotate_left; (simp <;> omega)))) Ew3
        clear c_d_0 c_d_1 n_d c_r_0 c_r_1 n_r f_r
        clear B_d
        have B_d := B_d'; clear B_d'
        clear B_r
        have B_r := B_r'; clear B_r'
        have B_o := B_o'; clear B_o'
        clear O_cm; have O_cm := O_cm'; clear O_cm'
        clear O_cl; have O_cl := O_cl'; clear O_cl'
        clear Ew3 Xw2
        have c_d_0 := B_d.cell 0 _ rfl
        have c_d_1 := B_d.cell 1 _ rfl
        have n_d := B_d.lt
        have c_r_0 := B_r.cell 0 _ rfl
        have c_r_1 := B_r.cell 1 _ rfl
        have n_r := B_r.lt
        have f_r := B_r.fr
        have c_o_0 := B_o.cell 0 _ rfl
        have c_o_1 := B_o.cell 1 _ rfl
        have n_o := B_o.lt
        have f_o := B_o.fr
        go_wp2
        refine bodyPost_ret (v := .tuple #[.agg #[.slice ka ms.length kc, .slice la ls.length lc], .bool false]) (by simp [results, Try.results16, go_sem, c_r_0, c_r_1, n_r]) rfl ⟨_, _, rfl, ?_, ?_⟩
        · repeat (first | with_reducible exact Ext.refl _ | with_reducible assumption | with_reducible refine Ext.pAlloc ?_ _ | ((with_reducible refine Ext.pSet ?_ ?_ _); rotate_left; (simp <;> omega)) | with_reducible refine Ext.pDrew ?_ | with_reducible refine Ext.pDrewN ?_ _)
        · exact net_join (by repeat (first | with_reducible assumption | with_reducible refine Cd.own.pAlloc ?_ _ | with_reducible refine Cd.own.pDrew ?_ | with_reducible refine Cd.own.pDrewN ?_ _ | ((with_reducible refine Cd.own.pSet ?_ ?_ _); rotate_left; (simp <;> omega)))) (by repeat (first | with_reducible assumption | with_reducible refine Cd.own.pAlloc ?_ _ | with_reducible refine Cd.own.pDrew ?_ | with_reducible refine Cd.own.pDrewN ?_ _ | ((with_reducible refine Cd.own.pSet ?_ ?_ _); rotate_left; (simp <;> omega)))) p7 ⟨(by first | omega | (simp <;> omega)), (by first | (simp [World.setCell]; done) | (simp [World.setCell]; omega) | omega), (by first | omega | (simp <;> omega)), (by first | (simp [World.setCell]; done) | (simp [World.setCell]; omega) | omega)⟩
      · have hr : doubled (ms, ls) (k : Int) = ((ms ++ [ms[k]], ls), true) := by unfold doubled; rw [if_pos hd, if_pos ⟨ht, hf⟩, Int.toNat_natCast]; simp only [hg]
        rw [hr]
        have hlq : ((ms.length : Int) == 60) = false := by rw [beq_eq_false_iff_ne]; omega
        have hrl := msgOk_len hmo
        obtain ⟨x, hxk⟩ : ∃ x, ms[k] = x := ⟨_, rfl⟩
        rw [hxk] at hrl ⊢
        have HXK := Lib.hid hxk
        have Hd := Lib.hid hd; have Ht := Lib.hid ht; clear hd ht hr hc hf hmo hg hxk
        go_enter Try.func16, Try.ntmps16
        go_wp2_with fail
        refine (implNetOk_c _ (ms, ls) _ (netC.vext HD.out (by repeat (first | with_reducible exact Ext.refl _ | with_reducible assumption | with_reducible refine Ext.pAlloc ?_ _ | ((with_reducible refine Ext.pSet ?_ ?_ _); rotate_left; (simp <;> omega)) | with_reducible refine Ext.pDrew ?_ | with_reducible refine Ext.pDrewN ?_ _)))).mono ?_
        rw [Hd.out]
        rintro e w1 ⟨rfl, Ew1⟩
        have Xw1 : Ext w w1 := Ext.trans (by repeat (first | with_reducible exact Ext.refl _ | with_reducible assumption | with_reducible refine Ext.pAlloc ?_ _ | ((with_reducible refine Ext.pSet ?_ ?_ _); rotate_left; (simp <;> omega)) | with_reducible refine Ext.pDrew ?_ | with_reducible refine Ext.pDrewN ?_ _)) Ew1
        have zw1 : w.heap.size + 1 + 1 ≤ w1.heap.size := by have := Ew1.size; (try simp at this); omega
        have B_d' : Bx w1 w.heap.size [.slice a ms.length cap, .slice va ls.length vc] := Bx.ext (by repeat (first | with_reducible assumption | with_reducible exact Bx.new _ _ _ _ rfl | ((with_reducible refine Bx.new _ _ _ _ ?_); simp; done) | with_reducible refine Bx.pAlloc ?_ _ | with_reducible refine Bx.pDrew ?_ | with_reducible refine Bx.pDrewN ?_ _ | with_reducible apply Bx.set10 | with_reducible apply Bx.set20 | with_reducible apply Bx.set21 | with_reducible apply Bx.set30 | with_reducible apply Bx.set31 | with_reducible apply Bx.set32 | with_reducible apply Bx.set40 | with_reducible apply Bx.set41 | with_reducible apply Bx.set42 | with_reducible apply Bx.set43 | ((with_reducible refine Bx.set_other ?_ ?_ _); rotate_left; (simp <;> omega)))) Ew1
        have B_r' : Bx w1 (w.heap.size + 1) [.slice none 0 0, .slice none 0 0] := Bx.ext (by repeat (first | with_reducible assumption | with_reducible exact Bx.new _ _ _ _ rfl | ((with_reducible refine Bx.new _ _ _ _ ?_); simp; done) | with_reducible refine Bx.pAlloc ?_ _ | with_reducible refine Bx.pDrew ?_ | with_reducible refine Bx.pDrewN ?_ _ | with_reducible apply Bx.set10 | with_reducible apply Bx.set20 | with_reducible apply Bx.set21 | with_reducible apply Bx.set30 | with_reducible apply Bx.set31 | with_reducible apply Bx.set32 | with_reducible apply Bx.set40 | with_reducible apply Bx.set41 | with_reducible apply Bx.set42 | with_reducible apply Bx.set43 | ((with_reducible refine Bx.set_other ?_ ?_ _); rotate_left; (simp <;> omega)))) Ew1
        have B_d := B_d'; clear B_d'
        have B_r := B_r'; clear B_r'
        clear Ew1
        have c_d_0 := B_d.cell 0 _ rfl
        have c_d_1 := B_d.cell 1 _ rfl
        have n_d := B_d.lt
        have c_r_0 := B_r.cell 0 _ rfl
        have c_r_1 := B_r.cell 1 _ rfl
        have n_r := B_r.lt
        have f_r := B_r.fr
        go_wp2_with fail
        refine (copyNet_c _ (ms, ls) _ (netC.vext HD.out (by repeat (first | with_reducible exact Ext.refl _ | with_reducible assumption | with_reducible refine Ext.pAlloc ?_ _ | ((with_reducible refine Ext.pSet ?_ ?_ _); rotate_left; (simp <;> omega)) | with_reducible refine Ext.pDrew ?_ | with_reducible refine Ext.pDrewN ?_ _))) Hd.out).mono ?_
        rintro e w2 ⟨u1, v1, rfl, Ew2, a1, b1, a2, b2, p1, p2, p3, p4, p5, p6, p7, O_cm, O_cl⟩
        simp only at O_cm O_cl
        obtain ⟨ka, kc, rfl⟩ := sl_form O_cm.view
        obtain ⟨la, lc, rfl⟩ := sl_form O_cl.view
        replace p1 : w1.heap.size ≤ a1 := by have h9 := p1; (try simp at h9); omega
        replace p4 : w1.heap.size ≤ a2 := by have h9 := p4; (try simp at h9); omega
        have Xw2 : Ext w w2 := Ext.trans (by repeat (first | with_reducible exact Ext.refl _ | with_reducible assumption | with_reducible refine Ext.pAlloc ?_ _ | ((with_reducible refine Ext.pSet ?_ ?_ _); rotate_left; (simp <;> omega)) | with_reducible refine Ext.pDrew ?_ | with_reducible refine Ext.pDrewN ?_ _)) Ew2
        have zw2 : w1.heap.size ≤ w2.heap.size := by have := Ew2.size; (try simp at this); omega
        have B_d' : Bx w2 w.heap.size [.slice a ms.length cap, .slice va ls.length vc] := Bx.ext (by repeat (first | with_reducible assumption | with_reducible exact Bx.new _ _ _ _ rfl | ((with_reducible refine Bx.new _ _ _ _ ?_); simp; done) | with_reducible refine Bx.pAlloc ?_ _ | with_reducible refine Bx.pDrew ?_ | with_reducible refine Bx.pDrewN ?_ _ | with_reducible apply Bx.set10 | with_reducible apply Bx.set20 | with_reducible apply Bx.set21 | with_reducible apply Bx.set30 | with_reducible apply Bx.set31 | with_reducible apply Bx.set32 | with_reducible apply Bx.set40 | with_reducible apply Bx.set41 | with_reducible apply Bx.set42 | with_reducible apply Bx.set43 | ((with_reducible refine Bx.set_other ?_ ?_ _); rotate_left; (simp <;> omega)))) Ew2
        have B_r' : Bx w2 (w.heap.size + 1) [.slice none 0 0, .slice none 0 0] := Bx.ext (by repeat (first | with_reducible assumption | with_reducible exact Bx.new _ _ _ _ rfl | ((with_reducible refine Bx.new _ _ _ _ ?_); simp; done) | with_reducible refine Bx.pAlloc ?_ _ | with_reducible refine Bx.pDrew ?_ | with_reducible refine Bx.pDrewN ?_ _ | with_reducible apply Bx.set10 | with_reducible apply Bx.set20 | with_reducible apply Bx.set21 | with_reducible apply Bx.set30 | with_reducible apply Bx.set31 | with_reducible apply Bx.set32 | with_reducible apply Bx.set40 | with_reducible apply Bx.set41 | with_reducible apply Bx.set42 | with_reducible apply Bx.set43 | ((with_reducible refine Bx.set_other ?_ ?_ _); rotate_left; (simp <;> omega)))) Ew2
        clear c_d_0 c_d_1 n_d c_r_0 c_r_1 n_r f_r
        clear B_d
        have B_d := B_d'; clear B_d'
        clear B_r
        have B_r := B_r'; clear B_r'
        clear Ew2 Xw1
        have c_d_0 := B_d.cell 0 _ rfl
        have c_d_1 := B_d.cell 1 _ rfl
        have n_d := B_d.lt
        have c_r_0 := B_r.cell 0 _ rfl
        have c_r_1 := B_r.cell 1 _ rfl
        have n_r := B_r.lt
        have f_r := B_r.fr
        go_wp2_with fail
        refine (letterOk_c _ (ms, ls) _ _ (netC.vext HD.out (by repeat (first | with_reducible exact Ext.refl _ | with_reducible assumption | with_reducible refine Ext.pAlloc ?_ _ | ((with_reducible refine Ext.pSet ?_ ?_ _); rotate_left; (simp <;> omega)) | with_reducible refine Ext.pDrew ?_ | with_reducible refine Ext.pDrewN ?_ _)))).mono ?_
        rw [Ht.out]
        rintro e w3 ⟨rfl, Ew3⟩
        have Xw3 : Ext w w3 := Ext.trans (by repeat (first | with_reducible exact Ext.refl _ | with_reducible assumption | with_reducible refine Ext.pAlloc ?_ _ | ((with_reducible refine Ext.pSet ?_ ?_ _); rotate_left; (simp <;> omega)) | with_reducible refine Ext.pDrew ?_ | with_reducible refine Ext.pDrewN ?_ _)) Ew3
        have zw3 : w2.heap.size + 1 ≤ w3.heap.size := by have := Ew3.size; (try simp at this); omega
        have B_d' : Bx w3 w.heap.size [.slice a ms.length cap, .slice va ls.length vc] := Bx.ext (by repeat (first | with_reducible assumption | with_reducible exact Bx.new _ _ _ _ rfl | ((with_reducible refine Bx.new _ _ _ _ ?_); simp; done) | with_reducible refine Bx.pAlloc ?_ _ | with_reducible refine Bx.pDrew ?_ | with_reducible refine Bx.pDrewN ?_ _ | with_reducible apply Bx.set10 | with_reducible apply Bx.set20 | with_reducible apply Bx.set21 | with_reducible apply Bx.set30 | with_reducible apply Bx.set31 | with_reducible apply Bx.set32 | with_reducible apply Bx.set40 | with_reducible apply Bx.set41 | with_reducible apply Bx.set42 | with_reducible apply Bx.set43 | ((with_reducible refine Bx.set_other ?_ ?_ _); rotate_left; (simp <;> omega)))) Ew3
        have B_r' : Bx w3 (w.heap.size + 1) [.slice none 0 0, .slice none 0 0] := Bx.ext (by repeat (first | with_reducible assumption | with_reducible exact Bx.new _ _ _ _ rfl | ((with_reducible refine Bx.new _ _ _ _ ?_); simp; done) | with_reducible refine Bx.pAlloc ?_ _ | with_reducible refine Bx.pDrew ?_ | with_reducible refine Bx.pDrewN ?_ _ | with_reducible apply Bx.set10 | with_reducible apply Bx.set20 | with_reducible apply Bx.set21 | with_reducible apply Bx.set30 | with_reducible apply Bx.set31 | with_reducible apply Bx.set32 | with_reducible apply Bx.set40 | with_reducible apply Bx.set41 | with_reducible apply Bx.set42 | with_reducible apply Bx.set43 | ((with_reducible refine Bx.set_other ?_ ?_ _); rotate_left; (simp <;> omega)))) Ew3
        have B_o' : Bx w3 w2.heap.size [.slice ka ms.length kc, .slice la ls.length lc] := Bx.ext (by repeat (first | with_reducible assumption | with_reducible exact Bx.new _ _ _ _ rfl | ((with_reducible refine Bx.new _ _ _ _ ?_); simp; done) | with_reducible refine Bx.pAlloc ?_ _ | with_reducible refine Bx.pDrew ?_ | with_reducible refine Bx.pDrewN ?_ _ | with_reducible apply Bx.set10 | with_reducible apply Bx.set20 | with_reducible apply Bx.set21 | with_reducible apply Bx.set30 | with_reducible apply Bx.set31 | with_reducible apply Bx.set32 | with_reducible apply Bx.set40 | with_reducible apply Bx.set41 | with_reducible apply Bx.set42 | with_reducible apply Bx.set43 | ((with_reducible refine Bx.set_other ?_ ?_ _); rotate_left; (simp <;> omega)))) Ew3
        have O_cm' : (msgsC).own (a1) (b1) w3 [.slice ka ms.length kc] (ms) := Cd.own.ext (by repeat (first | with_reducible assumption | with_reducible refine Cd.own.pAlloc ?_ _ | with_reducible refine Cd.own.pDrew ?_ | with_reducible refine Cd.own.pDrewN ?_ _ | ((with_reducible refine Cd.own.pSet ?_ ?_ _); rotate_left; (simp <;> omega)))) Ew3
        have O_cl' : (linksC).own (a2) (b2) w3 [.slice la ls.length lc] (ls) := Cd.own.ext (by repeat (first | with_reducible assumption | with_reducible refine Cd.own.pAlloc ?_ _ | with_reducible refine Cd.own.pDrew ?_ | with_reducible refine Cd.own.pDrewN ?_ _ | ((with_reducible refine Cd.own.pSet ?_ ?_ _); rotate_left; (simp <;> omega)))) Ew3
        clear c_d_0 c_d_1 n_d c_r_0 c_r_1 n_r f_r
        clear B_d
        have B_d := B_d'; clear B_d'
        clear B_r
        have B_r := B_r'; clear B_r'
        have B_o := B_o'; clear B_o'
        clear O_cm; have O_cm := O_cm'; clear O_cm'
        clear O_cl; have O_cl := O_cl'; clear O_cl'
        clear Ew3 Xw2
        have c_d_0 := B_d.cell 0 _ rfl
        have c_d_1 := B_d.cell 1 _ rfl
        have n_d := B_d.lt
        have c_r_0 := B_r.cell 0 _ rfl
        have c_r_1 := B_r.cell 1 _ rfl
        have n_r := B_r.lt
        have f_r := B_r.fr
        have c_o_0 := B_o.cell 0 _ rfl
        have c_o_1 := B_o.cell 1 _ rfl
        have n_o := B_o.lt
        have f_o := B_o.fr
        obtain ⟨fp, hfO, gn, gi⟩ := O_cm
        have hVw := msgsC.view hfO
        obtain ⟨a9, c9, xs, fps, g1, g2, g3, g4, g5, rfl⟩ := hfO
        simp only [List.cons.injEq, Value.slice.injEq, true_and, and_true] at g1
        obtain ⟨rfl, rfl⟩ := g1
        obtain ⟨qa, qc, qe, q1, q2, hcc⟩ := slice_open (R := msgC) (by decide) hVw
        obtain ⟨b, off, x9, c, e9, hx, hvx, hcell⟩ := hcc k hk
        cases qe
        subst e9
        clear hcc hVw
        have hxk := HXK.out
        have e7 : x = x9 := by have := hx.out; rw [List.getElem?_eq_getElem hk, hxk] at this; exact Option.some.inj this
        obtain rfl := e7
        obtain ⟨c8, hc8, hv8⟩ := elemsV_get msgC (elemsO_view msgC g5) hk
        rw [hxk] at hv8
        clear hxk
        have HV := Lib.hid hvx
        obtain ⟨y, rfl, hvy⟩ := msg_V.1 hvx
        obtain ⟨xa, xc, rfl⟩ := u_slice hvy
        have hcw0 : w3.cell? ⟨b, off + k * 3, none⟩ = some (.int .i64 x.1) := hcell 0 _ rfl
        have hcw1 : w3.cell? ⟨b, off + k * 3 + 1, none⟩ = some (.int .i64 x.2.1) := hcell 1 _ rfl
        have hcw2 : w3.cell? ⟨b, off + k * 3 + 2, none⟩ = some (.slice xa x.2.2.length xc) := hcell 2 _ rfl
        have hlx : xs.length = ms.length * 3 := elemsV_len msgC (elemsO_view msgC g5)
        have hxs : ∀ j u, c8[j]? = some u → xs[k * 3 + j]? = some u := fun j u hj => by
          have h8 : c8.length = 3 := msgC.len hv8
          have hl8 : j < 3 := by have := (List.getElem?_eq_some_iff.1 hj).1; omega
          rw [← hc8, show msgC.n = 3 from rfl, List.getElem?_take, if_pos hl8, List.getElem?_drop] at hj
          exact hj
        have hcl8 : ∀ j u, c8[j]? = some u → j < 3 → w3.cell? ⟨b, off + k * 3 + j, none⟩ = some u := fun j u hj h3 => by
          obtain ⟨b7, o7, e7, h7⟩ := g4.cells (k * 3 + j) u (hxs j u hj)
          cases e7
          rw [Nat.add_assoc]; exact h7
        have e8 : c8 = [.int .i64 x.1, .int .i64 x.2.1, .slice xa x.2.2.length xc] := by
          obtain ⟨y8, rfl, _⟩ := msg_V.1 hv8
          have := hcl8 2 _ rfl (by omega)
          rw [hcw2] at this
          rw [Option.some.inj this]
        subst e8
        have HXS := Lib.hid (And.intro hxs (And.intro hlx hv8))
        have HG := Lib.hid (And.intro (And.intro g4 g5) (And.intro gn gi))
        have nb := World.block_lt_of_cell? _ _ hcw0
        have hbb := gi b (by simp [ablk])
        clear hcell hvx hvy hxs hlx hcl8 hc8 hv8 g4 g5 gn gi
        go_wp2
        refine wp_region_T (S := fun ω => ω.cell? ⟨w2.heap.size, 0, none⟩ = some (.slice (some ⟨b, off, none⟩) ms.length kc) ∧ ω.cell? ⟨b, off + k * 3, none⟩ = some (.int .i64 x.1) ∧ ω.cell? ⟨b, off + k * 3 + 1, none⟩ = some (.int .i64 x.2.1) ∧ ω.cell? ⟨b, off + k * 3 + 2, none⟩ = some (.slice xa x.2.2.length xc) ∧ Bx ω (w.heap.size + 1) [.slice none 0 0, .slice none 0 0] ∧ Bx ω (w2.heap.size) [.slice (some ⟨b, off, none⟩) ms.length kc, .slice la ls.length lc] ∧ Ext w ω) 11 (by kernel_rfl) ?_ (fun hHeld => ?_) (by decide)
        · (try dsimp only); (refine ⟨?_, ?_, ?_, ?_, ?_, ?_, ?_⟩ <;> first | (simp [go_sem]; done) | (simp [*, go_sem]; done) | ((repeat (first | with_reducible assumption | with_reducible exact Bx.new _ _ _ _ rfl | ((with_reducible refine Bx.new _ _ _ _ ?_); simp; done) | with_reducible refine Bx.pAlloc ?_ _ | with_reducible refine Bx.pDrew ?_ | with_reducible refine Bx.pDrewN ?_ _ | with_reducible apply Bx.set10 | with_reducible apply Bx.set20 | with_reducible apply Bx.set21 | with_reducible apply Bx.set30 | with_reducible apply Bx.set31 | with_reducible apply Bx.set32 | with_reducible apply Bx.set40 | with_reducible apply Bx.set41 | with_reducible apply Bx.set42 | with_reducible apply Bx.set43 | ((with_reducible refine Bx.set_other ?_ ?_ _); rotate_left; (simp <;> omega)))); done) | ((repeat (first | with_reducible exact Ext.refl _ | with_reducible assumption | with_reducible refine Ext.pAlloc ?_ _ | ((with_reducible refine Ext.pSet ?_ ?_ _); rotate_left; (simp <;> omega)) | with_reducible refine Ext.pDrew ?_ | with_reducible refine Ext.pDrewN ?_ _)); done))
        refine wpT_take (i := 0) (v := ?_) rfl (by kernel_rfl) (by decide) (by kernel_rfl) (by kernel_rfl) (by kernel_rfl) (fun _ _ _ h => h) (Or.inl ⟨by rfl, ?_⟩) (by assumption) ?_
        rotate_left
        · intro w9 hSw; (try dsimp only at hSw); go_simp; (first | done | with_reducible rfl)
        (try simp only [List.getElem_toArray, List.getElem_cons_succ, List.getElem_cons_zero, Act.put, List.setIfInBounds_toArray, List.set_cons_zero, List.set_cons_succ])
        refine wpT_take (i := 1) (v := ?_) rfl (by kernel_rfl) (by decide) (by kernel_rfl) (by kernel_rfl) (by kernel_rfl) (fun _ _ _ h => h) (Or.inl ⟨by rfl, ?_⟩) (by assumption) ?_
        rotate_left
        · intro w9 hSw; (try dsimp only at hSw); go_simp; (first | done | with_reducible rfl)
        (try simp only [List.getElem_toArray, List.getElem_cons_succ, List.getElem_cons_zero, Act.put, List.setIfInBounds_toArray, List.set_cons_zero, List.set_cons_succ])
        refine wpT_take (i := 2) (v := ?_) rfl (by kernel_rfl) (by decide) (by kernel_rfl) (by kernel_rfl) (by kernel_rfl) (fun _ _ _ h => h) (Or.inl ⟨by rfl, ?_⟩) (by assumption) ?_
        rotate_left
        · intro w9 hSw; (try dsimp only at hSw); go_simp; (first | done | with_reducible rfl)
        (try simp only [List.getElem_toArray, List.getElem_cons_succ, List.getElem_cons_zero, Act.put, List.setIfInBounds_toArray, List.set_cons_zero, List.set_cons_succ])
        refine wpT_take (i := 3) (v := ?_) rfl (by kernel_rfl) (by decide) (by kernel_rfl) (by kernel_rfl) (by kernel_rfl) (fun _ _ _ h => h) (Or.inl ⟨by rfl, ?_⟩) (by assumption) ?_
        rotate_left
        · intro w9 hSw; (try dsimp only at hSw); go_simp; (first | done | with_reducible rfl)
        (try simp only [List.getElem_toArray, List.getElem_cons_succ, List.getElem_cons_zero, Act.put, List.setIfInBounds_toArray, List.set_cons_zero, List.set_cons_succ])
        refine wpT_take (i := 4) (v := ?_) rfl (by kernel_rfl) (by decide) (by kernel_rfl) (by kernel_rfl) (by kernel_rfl) (fun _ _ _ h => h) (Or.inl ⟨by rfl, ?_⟩) (by assumption) ?_
        rotate_left
        · intro w9 hSw; (try dsimp only at hSw); go_simp; (first | done | with_reducible rfl)
        (try simp only [List.getElem_toArray, List.getElem_cons_succ, List.getElem_cons_zero, Act.put, List.setIfInBounds_toArray, List.set_cons_zero, List.set_cons_succ])
        refine wpT_take (i := 5) (v := ?_) rfl (by kernel_rfl) (by decide) (by kernel_rfl) (by kernel_rfl) (by kernel_rfl) (fun _ _ _ h => h) (Or.inl ⟨by rfl, ?_⟩) (by assumption) ?_
        rotate_left
        · intro w9 hSw; (try dsimp only at hSw); go_simp; (first | done | with_reducible rfl)
        (try simp only [List.getElem_toArray, List.getElem_cons_succ, List.getElem_cons_zero, Act.put, List.setIfInBounds_toArray, List.set_cons_zero, List.set_cons_succ])
        refine wpT_take (i := 6) (v := ?_) rfl (by kernel_rfl) (by decide) (by kernel_rfl) (by kernel_rfl) (by kernel_rfl) (fun _ _ _ h => h) (Or.inl ⟨by rfl, ?_⟩) (by assumption) ?_
        rotate_left
        · intro w9 hSw; (try dsimp only at hSw); go_simp; (first | done | with_reducible rfl)
        (try simp only [List.getElem_toArray, List.getElem_cons_succ, List.getElem_cons_zero, Act.put, List.setIfInBounds_toArray, List.set_cons_zero, List.set_cons_succ])
        refine wpT_step (i := 7) (by kernel_rfl) (by decide) rfl (fun K hK => ?_)
        go_simp
        refine (copyMsg_c _ x _ (msgC.vext HV.out (by repeat (first | with_reducible exact Ext.refl _ | with_reducible assumption | with_reducible refine Ext.pAlloc ?_ _ | ((with_reducible refine Ext.pSet ?_ ?_ _); rotate_left; (simp <;> omega)) | with_reducible refine Ext.pDrew ?_ | with_reducible refine Ext.pDrewN ?_ _))) (by omega)).mono ?_
        rintro e w12 ⟨u2, rfl, hE2, hO2⟩
        have hEw : Ext w3 w12 := Ext.trans (by repeat (first | with_reducible exact Ext.refl _ | with_reducible assumption | with_reducible refine Ext.pAlloc ?_ _ | ((with_reducible refine Ext.pSet ?_ ?_ _); rotate_left; (simp <;> omega)) | with_reducible refine Ext.pDrew ?_ | with_reducible refine Ext.pDrewN ?_ _)) hE2
        obtain ⟨u3, e3, hO2r⟩ := msg_own.1 hO2
        cases e3
        obtain ⟨ua2, uc2, rfl⟩ := u_slice hO2r.view
        clear hO2r
        have hz2 : w3.heap.size ≤ w12.heap.size := by have := hE2.size; (try simp at this); omega
        replace hO2 := hO2.wide (lo' := w3.heap.size) (by first | omega | (simp <;> omega)) (Nat.le_refl _)
        (try go_wp2_with fail)
        refine hK.out _ _ ?_ (fun hHeld2 => ?_)
        · (try dsimp only); (obtain ⟨s0, s1, s2, s3, s4, s5, s6⟩ := hHeld; exact ⟨cell_ext s0 hE2, cell_ext s1 hE2, cell_ext s2 hE2, cell_ext s3 hE2, Bx.ext s4 hE2, Bx.ext s5 hE2, s6.trans hE2⟩)
        clear hK K hHeld
        rename _ => hHeld
        (try simp only [List.getElem_toArray, List.getElem_cons_succ, List.getElem_cons_zero, Act.put, List.setIfInBounds_toArray, List.set_cons_zero, List.set_cons_succ])
        refine wpT_step (i := 8) (by kernel_rfl) (by decide) rfl (fun K hK => ?_)
        go_simp
        refine hK.out _ _ ?_ (fun hHeld2 => ?_)
        · (try dsimp only); (obtain ⟨s0, s1, s2, s3, s4, s5, s6⟩ := hHeld; exact ⟨cell_ext s0 (Ext.alloc _ _), cell_ext s1 (Ext.alloc _ _), cell_ext s2 (Ext.alloc _ _), cell_ext s3 (Ext.alloc _ _), Bx.ext s4 (Ext.alloc _ _), Bx.ext s5 (Ext.alloc _ _), s6.trans (Ext.alloc _ _)⟩)
        clear hK K hHeld
        rename _ => hHeld
        (try simp only [List.getElem_toArray, List.getElem_cons_succ, List.getElem_cons_zero, Act.put, List.setIfInBounds_toArray, List.set_cons_zero, List.set_cons_succ])
        refine wpT_step (i := 9) (by kernel_rfl) (by decide) rfl (fun K hK => ?_)
        rw [if_pos (by rfl)]
        refine opwp_append_kept _ _ _ (by rfl) 40 _ 3 40 Try.underlying27 Hinf.out (by rfl) _ ms.length kc xs (by rfl) HXS.out.2.1 (SlAt.ext HG.out.1.1 (hEw.trans (Ext.alloc _ _))) q1 q2 _ 1 _ [.int .i64 x.1, .int .i64 x.2.1, .slice ua2 x.2.2.length uc2] (by rfl) rfl (CellsAt.lit _ _ _) (msgC.one hO2.view) (by omega) ?_
        intro a4 c4 w4 hs4 hl4 hm4 hA4 hkp
        have hC4 := hA4.chg (lo := a1) (hi := b1) (by simp [ablk]; omega)
        have hO4 : msgsC.own2 a1 b1 w3.heap.size w4.heap.size w4 [.slice a4 (ms.length + 1) c4] (ms ++ [x]) := by
          obtain ⟨fx, hx1, hxn, hxin⟩ := hO2.ext (Ext.alloc _ _)
          exact own_snoc2 (cap := kc) (elemsO_frame msgC HG.out.1.2 (fun b hb => (hEw.trans (Ext.alloc _ _)).block b (elemsO_lt msgC HG.out.1.2 b hb))) HG.out.2.1 HG.out.2.2 hx1 hxn hxin (by omega) hs4 hl4 (by simpa [maxLen] using hm4) hA4 (by simp; omega)
        have O_cl4 := (O_cl.ext (hEw.trans (Ext.alloc _ _))).chg hC4 (by omega)
        have z4 : w12.heap.size + 1 ≤ w4.heap.size := by have := hC4.size; (try simp at this); omega
        have hel : w4.cell? ⟨b, off + k * 3, none⟩ = some (.int .i64 x.1) ∧ w4.cell? ⟨b, off + k * 3 + 1, none⟩ = some (.int .i64 x.2.1) ∧ w4.cell? ⟨b, off + k * 3 + 2, none⟩ = some (.slice xa x.2.2.length xc) := ⟨by have h7 := kept_cell hs4 hkp (HXS.out.1 0 _ rfl) (by rw [← Nat.add_assoc]; exact (cell_ext hcw0 (hEw.trans (Ext.alloc _ _)))); rw [← Nat.add_assoc] at h7; exact h7, by have h7 := kept_cell hs4 hkp (HXS.out.1 1 _ rfl) (by rw [← Nat.add_assoc]; exact (cell_ext hcw1 (hEw.trans (Ext.alloc _ _)))); rw [← Nat.add_assoc] at h7; exact h7, by have h7 := kept_cell hs4 hkp (HXS.out.1 2 _ rfl) (by rw [← Nat.add_assoc]; exact (cell_ext hcw2 (hEw.trans (Ext.alloc _ _)))); rw [← Nat.add_assoc] at h7; exact h7⟩
        clear hs4 hA4 hkp
        refine hK.out _ _ ?_ (fun hHeld2 => ?_)
        · (try dsimp only); (obtain ⟨s0, s1, s2, s3, s4, s5, s6⟩ := hHeld; exact ⟨cell_chg s0 hC4 (by omega), hel.1, hel.2.1, hel.2.2, Bx.chg s4 hC4 (by omega), Bx.chg s5 hC4 (by omega), Chg.ext s6 hC4 (by omega)⟩)
        clear hK K hHeld
        rename _ => hHeld
        (try simp only [List.getElem_toArray, List.getElem_cons_succ, List.getElem_cons_zero, Act.put, List.setIfInBounds_toArray, List.set_cons_zero, List.set_cons_succ])
        refine wpT_take (i := 10) (v := ?_) rfl (by kernel_rfl) (by decide) (by kernel_rfl) (by kernel_rfl) (by kernel_rfl) (fun _ _ _ h => h) (Or.inl ⟨by rfl, ?_⟩) (by assumption) ?_
        rotate_left
        · intro w9 hSw; (try dsimp only at hSw); go_simp; (first | done | with_reducible rfl)
        (try simp only [List.getElem_toArray, List.getElem_cons_succ, List.getElem_cons_zero, Act.put, List.setIfInBounds_toArray, List.set_cons_zero, List.set_cons_succ])
        refine wpT_last (by kernel_rfl) (by kernel_rfl) rfl (fun K hK => ?_)
        obtain ⟨e0, e1, e2, e3, e4, e5, e6⟩ := hHeld
        clear c_d_0 c_d_1 n_d c_r_0 c_r_1 n_r f_r c_o_0 c_o_1 n_o f_o e0 e1 e2 e3
        have c0 := e5.cell 0 _ rfl; have c1 := e5.cell 1 _ rfl; have f1 := e5.fr; have n3 := e5.lt; have c_r_0 := e4.cell 0 _ rfl; have c_r_1 := e4.cell 1 _ rfl; have f_r := e4.fr; have n_r := e4.lt
        go_simp
        refine hK.out _ _ ?_
        clear hK K
        go_wp2
        refine bodyPost_ret (v := .tuple #[.agg #[.slice a4 (ms.length + 1) c4, .slice la ls.length lc], .bool true]) (by simp [results, Try.results16, go_sem, c_r_0, c_r_1, n_r]) rfl ⟨_, _, rfl, ?_, ?_⟩
        · repeat (first | with_reducible exact Ext.refl _ | with_reducible assumption | with_reducible refine Ext.pAlloc ?_ _ | ((with_reducible refine Ext.pSet ?_ ?_ _); rotate_left; (simp <;> omega)) | with_reducible refine Ext.pDrew ?_ | with_reducible refine Ext.pDrewN ?_ _)
        · exact net_own2 (a1 := a1) (b1 := b1) (c1 := w3.heap.size) (d1 := w4.heap.size) (by repeat (first | with_reducible assumption | ((with_reducible refine Cd.own2.set ?_ ?_ _); rotate_left; (simp <;> omega)))) (by repeat (first | with_reducible assumption | with_reducible refine Cd.own.pAlloc ?_ _ | with_reducible refine Cd.own.pDrew ?_ | with_reducible refine Cd.own.pDrewN ?_ _ | ((with_reducible refine Cd.own.pSet ?_ ?_ _); rotate_left; (simp <;> omega)))) ⟨p7, by omega⟩ ⟨⟨(by first | omega | (simp <;> omega)), (by first | (simp [World.setCell]; done) | (simp [World.setCell]; omega) | omega)⟩, ⟨(by first | omega | (simp <;> omega)), (by first | (simp [World.setCell]; done) | (simp [World.setCell]; omega) | omega)⟩, (by first | omega | (simp <;> omega)), (by first | (simp [World.setCell]; done) | (simp [World.setCell]; omega) | omega)⟩


end Go.Proofs.Ytjjeagblgjmcpaa
