/- Copies of elements of any size, an append of zero values, and what slices.Insert asks of them. Plain lemmas, over every program. -/
import Derived.Test.YtjjeagblgjmcpaaNt7b
import Derived.Lib.Overlaps
import Derived.Lib.AppendZerosOnto
import Derived.Laws.IdiomCopy
set_option linter.unusedVariables false
set_option linter.unusedSimpArgs false
namespace Go.Sl
open Go.RowKit
theorem run_copy_n {P : Program} (w : World) (dT sT ty elem : TypeId) (b o dLen dCap : Nat) (a : Addr) (sLen sCap n m : Nat) (cs : List Value)
    (hu : P.underlying dT = some (.slice elem)) (hs : (P.info? elem).map (·.size) = some n) (hm : Nat.min sLen dLen = m) (hn : cs.length = m * n)
    (hsrc : ∀ j v, cs[j]? = some v → w.cell? (a.add j) = some v) (hc : ∀ j, j < cs.length → (w.cell? ⟨b, o + j, none⟩).isSome = true) (hf : ∀ j, j < cs.length → w.frozen? ⟨b, o + j, none⟩ = false) (h1 : ∀ v ∈ cs, v.oneCell' = true) :
    (Builtin.copy_ #[dT, sT] ty #[.slice (some ⟨b, o, none⟩) dLen dCap, .slice (some a) sLen sCap]).run P w = .ok (goInt m) (w.setCells b o cs) := by
  have hl := run_loadCells_list (P := P) w a cs hsrc
  have hst := run_storeCells_cells (P := P) b o cs 0 w (by simpa using hc) (by simpa using hf) h1
  cases hq : P.info? elem with
  | none => simp [hq] at hs
  | some i =>
    have hi : i.size = n := by simpa [hq] using hs
    simp [Builtin.copy_, run_underlying hu, Builtin.lenOf, Builtin.firstCells, sizeOf, typeInfo, hq, hi, hm, ← hn, hl, hst]
theorem SlAt.more {w : World} {n b off cap : Nat} {xs : List Value} (h : SlAt w n (Option.some ⟨b, off, none⟩) cap xs) (m : Nat) (hm : xs.length + m ≤ cap * n) : ∃ r, r.length = m ∧ SlAt w n (Option.some ⟨b, off, none⟩) cap (xs ++ r) := by
  rcases h with ⟨h, _⟩ | ⟨b', off', C, E, e, h1, h2, h3, h4⟩
  · cases h
  · cases e
    have hl : (((C.toList.drop off).drop xs.length).take m).length = m := by simp; omega
    refine ⟨((C.toList.drop off).drop xs.length).take m, hl, .inr ⟨b, off, C, E, rfl, h1, h2, ?_, ?_⟩⟩
    · rw [List.length_append, hl]; omega
    · rw [List.length_append, hl, List.take_add, h4]
theorem SlAt.copied {w : World} {n b off cap j : Nat} {xs vs : List Value} (h : SlAt w n (Option.some ⟨b, off, none⟩) cap xs) (hj : j + vs.length ≤ xs.length) : SlAt (w.setCells b (off + j) vs) n (Option.some ⟨b, off, none⟩) cap (xs.take j ++ vs ++ xs.drop (j + vs.length)) := by
  rcases h with ⟨h, _⟩ | ⟨b', off', C, E, e, h1, h2, h3, h4⟩
  · cases h
  · cases e
    have hxl : off + xs.length ≤ C.toList.length := by
      have : ((C.toList.drop off).take xs.length).length = xs.length := by rw [h4]
      simp at this ⊢
      omega
    obtain ⟨C', h5, h6⟩ := setCells_block (E := E) vs (off + j) w C h1 (by simp at hxl; omega)
    have hs : C'.size = C.size := by
      have := congrArg List.length h6
      simp at this hxl
      omega
    refine .inr ⟨b, off, C', E, rfl, h5, by omega, by simp; omega, ?_⟩
    have e1 : xs.take j = (C.toList.take (off + j)).drop off := by
      rw [← h4, List.take_take, Nat.min_eq_left (by omega), List.drop_take, Nat.add_sub_cancel_left]
    have e2 : xs.drop (j + vs.length) = ((C.toList.drop (off + j + vs.length)).take (xs.length - (j + vs.length))) := by
      conv => lhs; rw [← h4, List.drop_take, List.drop_drop]
      rw [Nat.add_assoc]
    have hl1 : (C.toList.take (off + j)).length = off + j := by rw [List.length_take]; omega
    have e0 : C'.toList.drop off = xs.take j ++ vs ++ C.toList.drop (off + j + vs.length) := by
      rw [h6, List.append_assoc, List.drop_append_of_le_length (by omega), ← e1, List.append_assoc]
    have hl2 : (xs.take j).length = j := by rw [List.length_take]; omega
    have hl3 : (xs.take j ++ vs).length = j + vs.length := by rw [List.length_append, hl2]
    have hl4 : (xs.take j ++ vs ++ xs.drop (j + vs.length)).length = xs.length := by rw [List.length_append, hl3, List.length_drop]; omega
    rw [e0, hl4, List.take_append, hl3, List.take_of_length_le (by omega), e2]
theorem SlAt.cellIn {w : World} {n b off cap j : Nat} {xs : List Value} {u : Value} (h : SlAt w n (Option.some ⟨b, off, none⟩) cap xs) (hj : xs[j]? = Option.some u) : w.cell? ⟨b, off + j, none⟩ = Option.some u := by
  obtain ⟨b', o', e, hc⟩ := h.cells j u hj
  cases e
  exact hc
/-- A copy into a slice's own cells. -/
theorem run_copy_sl {P : Program} (w : World) (dT sT ty elem : TypeId) (b off j dLen dCap : Nat) (a : Addr) (sLen sCap n m cap : Nat) (xs cs : List Value)
    (hu : P.underlying dT = some (.slice elem)) (hs : (P.info? elem).map (·.size) = some n) (hm : Nat.min sLen dLen = m) (hn : cs.length = m * n)
    (hd : SlAt w n (some ⟨b, off, none⟩) cap xs) (hj : j + cs.length ≤ xs.length) (hsrc : CellsAt w (some a) cs) (h1 : ∀ v ∈ cs, v.oneCell' = true) :
    (Builtin.copy_ #[dT, sT] ty #[.slice (some ⟨b, off + j, none⟩) dLen dCap, .slice (some a) sLen sCap]).run P w = .ok (goInt m) (w.setCells b (off + j) cs) := by
  have hfr : ∀ k, w.frozen? ⟨b, k, none⟩ = false := fun k => by
    rcases hd with ⟨h, _⟩ | ⟨b', off', C, E, e, h1, _⟩
    · cases h
    · cases e; exact unfrozen h1
  refine run_copy_n w dT sT ty elem b (off + j) dLen dCap a sLen sCap n m cs hu hs hm hn (fun k v hk => ?_) (fun k hk => ?_) (fun k _ => hfr _) h1
  · obtain ⟨b', o', e, hc⟩ := hsrc k v hk
    cases e
    rw [Addr.add_lit]
    exact hc
  · have h9 : xs[j + k]? = some (xs[j + k]'(by omega)) := List.getElem?_eq_getElem (by omega)
    rw [Nat.add_assoc, hd.cellIn h9]; rfl
theorem wpList_copy_runI {P : Program} (w : World) {ops : Array Oper} {rest : List Oper} {o : Oper} {a : Act} {Q : Exit → Act → World → Prop} (hgd : o.guard = none) (d s : Operand) (t t' : TypeId)
    (ho : o.op = .call { callee := .builtin .copy, args := #[d, s], argTypes := #[t, t'] }) (v u : Value) (hd : a.eval d = v) (hs : a.eval s = u) {v' : Value} {w' : World}
    (hr : (Builtin.copy_ #[t, t'] o.type #[v, u]).run P w = .ok v' w') (h : wpList P ops Q rest (a.put o.dst v') w') : wpList P ops Q (o :: rest) a w := by
  refine wpList_plain hgd fun K hK => ?_
  unfold Oper.wp execOp
  simp only [ho, resolve, invoke, builtin, Sem.run_bind, Sem.run_pure, Result.andThen_ok, List.map_toArray, List.map_cons, List.map_nil, hd, hs, hr]
  exact hK _ _ h
theorem opwp_copy_run {P : Program} {w : World} {o : Oper} {a : Act} {K : Act → World → Prop} {Q : Exit → Act → World → Prop} (d s : Operand) (t t' : TypeId)
    (ho : o.op = .call { callee := .builtin .copy, args := #[d, s], argTypes := #[t, t'] }) (v u : Value) (hd : a.eval d = v) (hs : a.eval s = u) {v' : Value} {w' : World}
    (hr : (Builtin.copy_ #[t, t'] o.type #[v, u]).run P w = .ok v' w') (h : K (a.put o.dst v') w') : Oper.wp P o a w K Q := by
  unfold Oper.wp execOp
  simp only [ho, resolve, invoke, builtin, Sem.run_bind, Sem.run_pure, Result.andThen_ok, List.map_toArray, List.map_cons, List.map_nil, hd, hs, hr]
  exact h
/-- An append of k zero values where there is no room: a new block. -/
theorem run_append_zeros_sl {P : Program} (w : World) (t tn ty e : TypeId) (i : TypeInfo) (z : Value) (n bytes : Nat) (kq kn : IntKind) (ht : P.underlying t = some (.slice e)) (htn : P.underlying tn = some (.int kn)) (hi : P.info? e = some i) (hz : i.zero = some z)
    (hsize : i.size = n) (hby : i.bytes = bytes) (hzs : z.cells.size = n)
    (a : Option Addr) (len cap k : Nat) (xs : List Value) (hl : xs.length = len * n) (hcs : CellsAt w a xs) (h0 : 0 < k) (hn : 0 < n) (hg : cap < len + k) (hbytes : (len + k) * bytes ≤ 140737488355328) (h63 : len + k ≤ 9223372036854775807) :
    ∃ G z', (Builtin.append_ #[t, tn] ty #[.slice a len cap, .int kq k]).run P w = .ok (.slice (some ⟨w.heap.size, 0, none⟩) (len + k) G) z' ∧ len + k ≤ G ∧ G ≤ 9223372036854775807 ∧
      (∃ zs, zs.length = k * n ∧ SlAt z' n (some ⟨w.heap.size, 0, none⟩) G (xs ++ zs)) ∧ Ext w z' ∧ w.heap.size < z'.heap.size := by
  subst hsize
  subst hby
  have hkb : k * i.bytes ≤ (len + k) * i.bytes := Nat.mul_le_mul_right _ (by omega)
  have h := Lib.run_append_grow_zeros (P := P) w t tn ty e i z kq kn ht htn hi hz a len cap xs (firstCells_at hcs.drew hl) k h0 hn hg (by omega) (by omega) (growslice_fits (by omega) hbytes)
  have hge := grownCap_ge w (len + k) cap e
  have hcm := grownCap_le_maxLen w (len + k) cap e (by simpa [maxLen] using h63)
  refine ⟨_, _, h, hge, by simpa [maxLen] using hcm, ⟨(Builtin.zeroCells z.cells k).toList, by simp [size_zeroCells, hzs], .inr ⟨w.heap.size, 0, _, e, rfl, heap_alloc_new w.drew _, ?_, ?_, ?_⟩⟩, (Ext.drew w).trans (Ext.alloc _ _), by simp⟩
  · simp only [Array.size_append, List.size_toArray, size_zeroCells, hzs, hl, ← Nat.add_mul]
    rw [show len + k + (grownCap w (len + k) cap e - (len + k)) = grownCap w (len + k) cap e by omega]
    omega
  · simp only [List.length_append, Array.length_toList, size_zeroCells, hzs, hl, ← Nat.add_mul]; exact Nat.mul_le_mul_right _ hge
  · simp only [List.drop_zero, Array.toList_append]
    rw [List.take_left]
end Go.Sl
