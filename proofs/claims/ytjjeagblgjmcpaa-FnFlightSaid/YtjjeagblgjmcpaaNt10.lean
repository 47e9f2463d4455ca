/- A link healed. -/
import Derived.Test.YtjjeagblgjmcpaaNt7b
import Derived.Lib.SliceRun
set_option linter.unusedVariables false
set_option linter.unusedSimpArgs false
namespace Go.Sl
open Go.RowKit
theorem run_append_in {P : Program} (w : World) (t ty e : TypeId) (i : TypeInfo) (z : Value) (n bytes : Nat) (ht : P.underlying t = some (.slice e)) (hi : P.info? e = some i) (hz : i.zero = some z)
    (hsize : i.size = n) (hby : i.bytes = bytes) (hzs : z.cells.size = n)
    (b off len cap : Nat) (xs : List Value) (hl : xs.length = len * n) (hsl : SlAt w n (some ⟨b, off, none⟩) cap xs) (hlc : len ≤ cap)
    (ax : Option Addr) (m c : Nat) (hroom : len + m ≤ cap) (news : List Value) (hnl : news.length = m * n) (hnews : CellsAt w ax news) (h1 : ∀ u ∈ news, u.oneCell' = true)
    (hcap : cap ≤ maxLen) (h63 : len + m ≤ maxLen) (hbytes : (len + m) * bytes ≤ 140737488355328) :
    ∃ w', (Builtin.append_ #[t, t] ty #[.slice (some ⟨b, off, none⟩) len cap, .slice ax m c]).run P w = .ok (.slice (some ⟨b, off, none⟩) (len + m) cap) w' ∧ SlAt w' n (some ⟨b, off, none⟩) cap (xs ++ news) ∧ AppW w w' (some ⟨b, off, none⟩) (some ⟨b, off, none⟩) := by

  subst hsize
  subst hby
  have hsrc : Src P i.size t (.slice ax m c) m news w := ⟨.inl ⟨e, ht⟩, fun _ => rfl, firstCells_at hnews hnl, firstCells_at hnews.drew hnl, hnl, h1⟩
  rcases hsl with ⟨h, _⟩ | ⟨b', off', C, E, ha, hb, hfit, hle, htake⟩
  · cases h
  · cases ha
    have hmul : (len + m) * i.size ≤ cap * i.size := Nat.mul_le_mul_right _ hroom
    rw [Nat.add_mul] at hmul
    have hr := run_append_room_src (P := P) w t t ty e i ht hi b off len cap (.slice ax m c) m news hsrc hroom
      (fun j hj => by rw [cell_of_row w b _ C E (0, 0) hb]; simp; omega) (fun j hj => unfrozen hb)
    obtain ⟨C', hC', hl'⟩ := setCells_block (E := E) news (off + len * i.size) w C hb (by omega)
    refine ⟨_, hr, .inr ⟨b, off, C', E, rfl, hC', ?_, ?_, ?_⟩, ⟨(setCells_chg w b _ news).os, (setCells_chg w b _ news).tape, (setCells_chg w b _ news).output, by rw [setCells_size]; exact Nat.le_refl _, ?_, .inl rfl⟩⟩
    · have : C'.size = C.size := by
        have := congrArg List.length hl'
        simp at this
        omega
      omega
    · rw [List.length_append]; omega
    · rw [hl', List.append_assoc, List.drop_append_of_le_length (by simp; omega), List.length_append]
      have e1 : (C.toList.take (off + len * i.size)).drop off = xs := by
        rw [List.drop_take, show off + len * i.size - off = xs.length by omega, htake]
      rw [e1, ← List.append_assoc, ← List.length_append, List.take_left]
    · intro k hk hn
      exact (setCells_chg w b _ news).block k hk (by simp [ablk] at hn; omega)
theorem opwp_append_in {P : Program} {w : World} {o : Oper} {ac : Act} {K : Act → World → Prop} {Q : Exit → Act → World → Prop} (s x : Operand) (t : TypeId)
    (ho : o.op = .call { callee := .builtin .append, args := #[s, x], argTypes := #[t, t] })
    (e : TypeId) (z : Value) (n bytes : Nat) (ht : P.underlying t = some (.slice e)) (hinfo : (P.info? e).map (fun i => (i.zero, i.size, i.bytes)) = some (some z, n, bytes)) (hzs : z.cells.size = n)
    (b off len cap : Nat) (xs : List Value) (hs : ac.eval s = .slice (some ⟨b, off, none⟩) len cap) (hl : xs.length = len * n) (hsl : SlAt w n (some ⟨b, off, none⟩) cap xs) (hlc : len ≤ cap) 
    (ax : Option Addr) (m c : Nat) (hroom : len + m ≤ cap) (hcap : cap ≤ 9223372036854775807) (news : List Value) (hx : ac.eval x = .slice ax m c) (hnl : news.length = m * n) (hnews : CellsAt w ax news) (h1 : ∀ u ∈ news, u.oneCell' = true)
    (hbytes : (len + m) * bytes ≤ 140737488355328 ∧ len + m ≤ 9223372036854775807)
    (h : ∀ w', SlAt w' n (some ⟨b, off, none⟩) cap (xs ++ news) → AppW w w' (some ⟨b, off, none⟩) (some ⟨b, off, none⟩) → K (ac.put o.dst (.slice (some ⟨b, off, none⟩) (len + m) cap)) w') : Oper.wp P o ac w K Q := by
  obtain ⟨i, hi, hz, hsize, hby⟩ := info_parts hinfo
  obtain ⟨w', hr, h2, h5⟩ := run_append_in (P := P) w t o.type e i z n bytes ht hi hz hsize hby hzs b off len cap xs hl hsl hlc ax m c hroom news hnl hnews h1 (by simpa [maxLen] using hcap) (by simpa [maxLen] using hbytes.2) hbytes.1
  unfold Oper.wp execOp
  simp only [ho, resolve, invoke, builtin, Sem.run_bind, Sem.run_pure, Result.andThen_ok, List.map_toArray, List.map_cons, List.map_nil, hs, hx, hr]
  exact h w' h2 h5
theorem SlAt.firsts {w : World} {n b off cap : Nat} {x1 r : List Value} (h : SlAt w n (Option.some ⟨b, off, none⟩) cap (x1 ++ r)) : SlAt w n (Option.some ⟨b, off, none⟩) cap x1 := by
  rcases h with ⟨h, _⟩ | ⟨b', off', C, E, e, h1, h2, h3, h4⟩
  · cases h
  · cases e
    refine .inr ⟨b, off, C, E, rfl, h1, h2, by rw [List.length_append] at h3; omega, ?_⟩
    have := congrArg (List.take x1.length) h4
    rw [List.take_take, List.take_left, List.length_append, Nat.min_eq_left (by omega)] at this
    exact this
/-- A store behind the cells that are known. -/
theorem SlAt.after {w : World} {n b off cap j : Nat} {xs : List Value} (h : SlAt w n (Option.some ⟨b, off, none⟩) cap xs) (hj : xs.length ≤ j) (v : Value) : SlAt (w.setCell ⟨b, off + j, none⟩ v) n (Option.some ⟨b, off, none⟩) cap xs := by
  rcases h with ⟨h, _⟩ | ⟨b', off', C, E, e, h1, h2, h3, h4⟩
  · cases h
  · cases e
    refine .inr ⟨b, off, _, E, rfl, setCell_block h1 v, by simpa using h2, h3, ?_⟩
    rw [Array.toList_setIfInBounds]
    apply List.ext_getElem?
    intro i
    have h5 := congrArg (fun l => l[i]?) h4
    simp only [List.getElem?_take, List.getElem?_drop] at h5 ⊢
    by_cases hi : i < xs.length
    · rw [if_pos hi] at h5 ⊢
      rw [List.getElem?_set_ne (by omega)]
      exact h5
    · rw [if_neg hi]
      rw [List.getElem?_eq_none (by omega)]
/-- Within its room a slice's cells are there, and may be written. -/
theorem SlAt.there {w : World} {n b off cap j : Nat} {xs : List Value} (h : SlAt w n (Option.some ⟨b, off, none⟩) cap xs) (hj : j < cap * n) : (∃ u, w.cell? ⟨b, off + j, none⟩ = Option.some u) ∧ w.frozen? ⟨b, off + j, none⟩ = false := by
  rcases h with ⟨h, _⟩ | ⟨b', off', C, E, e, h1, h2, h3, h4⟩
  · cases h
  · cases e
    refine ⟨⟨C[off + j]'(by omega), ?_⟩, unfrozen h1⟩
    rw [cell_of_row w b (off + j) C E (0, 0) h1]
    exact Array.getElem?_eq_getElem (by omega)
end Go.Sl
namespace Go.Proofs.Ytjjeagblgjmcpaa
open Go.RowKit Go.Sl

/-- The network with a link healed. -/
def healed (d : NetD) (a b : Int) : NetD × Bool :=
  if netOk d = true then (if linkOf a b ∈ d.2 then ((d.1, d.2.eraseIdx (d.2.idxOf (linkOf a b))), true) else (d, false)) else (([], []), false)
theorem linkIx_in {l : List LinkD} {x : LinkD} (h : x ∈ l) : linkIx l x = (l.idxOf x : Int) ∧ l.idxOf x < l.length := ⟨by unfold linkIx; rw [if_pos h], List.idxOf_lt_length_of_mem h⟩
theorem linkIx_out {l : List LinkD} {x : LinkD} (h : ¬ x ∈ l) : linkIx l x = -1 := by unfold linkIx; rw [if_neg h]
set_option maxRecDepth 20000 in
theorem run_clear_link (w : World) (ty : TypeId) (b o c : Nat) (h0 : ∃ u, w.cell? ⟨b, o, none⟩ = some u) (h1 : ∃ u, w.cell? ⟨b, o + 1, none⟩ = some u) (hf : ∀ j, w.frozen? ⟨b, j, none⟩ = false) :
    (Builtin.clear_ #[28] ty #[.slice (some ⟨b, o, none⟩) 1 c]).run Try.prog w = .ok (.tuple #[]) ((w.setCell ⟨b, o, none⟩ (.int .i64 0)).setCell ⟨b, o + 1, none⟩ (.int .i64 0)) := by
  have hst := run_storeCells_cells (P := Try.prog) b o [.int .i64 0, .int .i64 0] 0 w (by
      intro j hj
      obtain ⟨u0, e0⟩ := h0
      obtain ⟨u1, e1⟩ := h1
      match j, hj with
      | 0, _ => simp [e0]
      | 1, _ => simp [e1]) (fun j _ => hf _) (by intro v hv; simp at hv; rw [hv]; rfl)
  simp only [Nat.add_zero] at hst
  have hz : ∀ w, (zeroValue 53).run Try.prog w = .ok (.agg #[.int .i64 0, .int .i64 0]) w := fun w => Try.zeroValue53 w
  have hzc : (Builtin.zeroCells (Value.agg #[.int .i64 0, .int .i64 0]).cells 1).toList = [.int .i64 0, .int .i64 0] := by simp [Builtin.zeroCells, Value.cells, List.range, List.range.loop]
  simp [Builtin.clear_, run_underlying Try.underlying28, hz, hzc, hst, World.setCells]

set_option maxHeartbeats 1600000 in
set_option maxRecDepth 20000 in
theorem linkDelete_c (b off cap n1 n2 : Nat) (x1 c x2 : List Value) (w : World) (hs : SlAt w 2 (some ⟨b, off, none⟩) cap (x1 ++ (c ++ x2))) (h1 : x1.length = n1 * 2) (hc : c.length = 2) (h2 : x2.length = n2 * 2) (ho : ∀ u ∈ x2, u.oneCell' = true)
    (hle : n1 + 1 + n2 ≤ cap) (hcap : cap ≤ 9223372036854775807) (h60 : n1 + 1 + n2 ≤ 60) :
    Calls Try.prog 25 #[.slice (some ⟨b, off, none⟩) (n1 + 1 + n2) cap, .int .i64 n1, .int .i64 (n1 + 1)] w fun e w' => e = .returned (.slice (some ⟨b, off, none⟩) (n1 + n2) cap) ∧ SlAt w' 2 (some ⟨b, off, none⟩) cap (x1 ++ x2) ∧ Chg b (b + 1) w w' := by
  have hsf : CellsAt w (some ⟨b, off + (n1 + 1) * 2, none⟩) x2 := by
    have hcl := hs.cells
    rw [← List.append_assoc] at hcl
    exact hcl.suf (k := (n1 + 1) * 2) (by rw [List.length_append, h1, hc]; omega)
  have HP1 : Hid (SlAt w 2 (some ⟨b, off, none⟩) cap x1) := hs.firsts
  have HS := Lib.hid hsf
  have H1 := Lib.hid h1
  have H2 := Lib.hid (And.intro h2 ho)
  have Hinf := Lib.hid Try.infoL
  clear hs hsf h1 hc h2 ho
  have hi1 : (0 : Int) ≤ n1 := by omega
  have hi2 : (n1 : Int) ≤ cap := by omega
  have hi3 : (n1 : Int) + 1 ≤ (n1 : Int) + 1 + n2 := by omega
  have hi4 : (n1 : Int) + 1 + n2 ≤ cap := by omega
  have hi5 : (0 : Int) ≤ (n1 : Int) + 1 := by omega
  have hi6 : (n1 : Int) ≤ (n1 : Int) + 1 := by omega
  have hi7 : (n1 : Int) + n2 ≤ (n1 : Int) + 1 + n2 := by omega
  have hi8 : (0 : Int) ≤ (n1 : Int) + n2 := by omega
  have hne1 : ((n1 : Int) == (n1 : Int) + 1) = false := by rw [beq_eq_false_iff_ne]; omega
  have hne2 : ¬ (n1 + 1 + n2 - n1 = 0) := by omega
  have hne3 : ¬ (n1 + 1 + n2 = n1) := by omega
  have hne4 : ¬ (cap = n1 + n2) := by omega
  have hlt4 : n1 + n2 < cap := by omega
  by_cases hm : 0 < n2
  · have hne : ¬ (cap = n1 + 1) := by omega
    have hlt : n1 + 1 < cap := by omega
    go_enter Try.func25, Try.ntmps25
    go_wp2
    refine wp_region_T (S := fun _ => True) 7 (by kernel_rfl) trivial (fun hHeld => ?_) (by decide)
    refine wpT_take (i := 0) (v := ?_) rfl (by kernel_rfl) (by decide) (by kernel_rfl) (by kernel_rfl) (by kernel_rfl) (fun _ _ _ h => h) (Or.inl ⟨by rfl, ?_⟩) (by assumption) ?_
    rotate_left
    · intro w9 hSw; (try dsimp only at hSw); go_simp; (first | done | with_reducible rfl)
    (try simp only [List.getElem_toArray, List.getElem_cons_succ, List.getElem_cons_zero, Act.put, List.setIfInBounds_toArray, List.set_cons_zero, List.set_cons_succ])
    refine wpT_take (i := 1) (v := ?_) rfl (by kernel_rfl) (by decide) (by kernel_rfl) (by kernel_rfl) (by kernel_rfl) (fun _ _ _ h => h) (Or.inl ⟨by rfl, ?_⟩) (by assumption) ?_
    rotate_left
    · intro w9 hSw; (try dsimp only at hSw); go_simp; (first | done | with_reducible rfl)
    (try simp only [List.getElem_toArray, List.getElem_cons_succ, List.getElem_cons_zero, Act.put, List.setIfInBounds_toArray, List.set_cons_zero, List.set_cons_succ])
    refine wpT_take (i := 2) (v := ?_) rfl (by kernel_rfl) (by decide) (by kernel_rfl) (by kernel_rfl) (by kernel_rfl) (fun _ _ _ h => h) (Or.inl ⟨by rfl, ?_⟩) (by assumption) ?_
    rotate_left
    · intro w9 hSw; (try dsimp only at hSw); go_simp; (first | done | with_reducible rfl)
    (try simp only [List.getElem_toArray, List.getElem_cons_succ, List.getElem_cons_zero, Act.put, List.setIfInBounds_toArray, List.set_cons_zero, List.set_cons_succ])
    refine wpT_take (i := 3) (v := ?_) rfl (by kernel_rfl) (by decide) (by kernel_rfl) (by kernel_rfl) (by kernel_rfl) (fun _ _ _ h => h) (Or.inl ⟨by rfl, ?_⟩) (by assumption) ?_
    rotate_left
    · intro w9 hSw; (try dsimp only at hSw); go_simp; (first | done | with_reducible rfl)
    (try simp only [List.getElem_toArray, List.getElem_cons_succ, List.getElem_cons_zero, Act.put, List.setIfInBounds_toArray, List.set_cons_zero, List.set_cons_succ])
    refine wpT_take (i := 4) (v := ?_) rfl (by kernel_rfl) (by decide) (by kernel_rfl) (by kernel_rfl) (by kernel_rfl) (fun _ _ _ h => h) (Or.inl ⟨by rfl, ?_⟩) (by assumption) ?_
    rotate_left
    · intro w9 hSw; (try dsimp only at hSw); go_simp; (first | done | with_reducible rfl)
    (try simp only [List.getElem_toArray, List.getElem_cons_succ, List.getElem_cons_zero, Act.put, List.setIfInBounds_toArray, List.set_cons_zero, List.set_cons_succ])
    refine wpT_take (i := 5) (v := ?_) rfl (by kernel_rfl) (by decide) (by kernel_rfl) (by kernel_rfl) (by kernel_rfl) (fun _ _ _ h => h) (Or.inl ⟨by rfl, ?_⟩) (by assumption) ?_
    rotate_left
    · intro w9 hSw; (try dsimp only at hSw); go_simp; (first | done | with_reducible rfl)
    (try simp only [List.getElem_toArray, List.getElem_cons_succ, List.getElem_cons_zero, Act.put, List.setIfInBounds_toArray, List.set_cons_zero, List.set_cons_succ])
    refine wpT_step (i := 6) (by kernel_rfl) (by decide) rfl (fun K hK => ?_)
    rw [if_pos (by rfl)]
    refine opwp_append_in _ _ _ (by rfl) 53 _ 2 16 Try.underlying28 Hinf.out (by rfl) b off n1 cap x1 (by rfl) H1.out (SlAt.ext HP1.out (Ext.drew _)) (by omega) _ n2 _ (by omega) (by omega) x2 (by rfl) H2.out.1 (HS.out.ext (Ext.drew _)) H2.out.2 (by omega) ?_
    intro w1 hs1 hA1
    refine hK.out _ _ trivial (fun _ => ?_)
    clear hK K
    (try simp only [List.getElem_toArray, List.getElem_cons_succ, List.getElem_cons_zero, Act.put, List.setIfInBounds_toArray, List.set_cons_zero, List.set_cons_succ])
    refine wpT_last (by kernel_rfl) (by kernel_rfl) rfl (fun K hK => ?_)
    go_simp
    refine hK.out _ _ ?_
    clear hK K
    have hC1 : Chg b (b + 1) w w1 := hA1.of_drew.chg (by simp [ablk])
    (try rw [List.append_nil] at hs1)
    have hlx : ((x1 ++ x2)).length = (n1 + n2) * 2 := by rw [List.length_append, H1.out, H2.out.1]; omega
    obtain ⟨hu0, hf0⟩ := SlAt.there hs1 (j := (n1 + n2) * 2) (by omega)
    obtain ⟨hu1, hf1⟩ := SlAt.there hs1 (j := (n1 + n2) * 2 + 1) (by omega)
    have hfz : ∀ j, w1.frozen? ⟨b, j, none⟩ = false := by intro j; rcases hs1 with ⟨h, _⟩ | ⟨b9, o9, C, E, e, h9, _⟩; cases h; cases e; exact unfrozen h9
    have hclr : ∀ ty c9, (Builtin.clear_ #[28] ty #[.slice (some ⟨b, off + (n1 + n2) * 2, none⟩) (n1 + 1 + n2 - (n1 + n2)) c9]).run Try.prog w1 = .ok (.tuple #[]) ((w1.setCell ⟨b, off + (n1 + n2) * 2, none⟩ (.int .i64 0)).setCell ⟨b, off + (n1 + n2) * 2 + 1, none⟩ (.int .i64 0)) := fun ty c9 => by rw [show (n1 + 1 + n2 - (n1 + n2)) = 1 by omega]; exact run_clear_link w1 ty b (off + (n1 + n2) * 2) c9 hu0 (by rw [Nat.add_assoc]; exact hu1) hfz
    have hs2 : SlAt ((w1.setCell ⟨b, off + (n1 + n2) * 2, none⟩ (.int .i64 0)).setCell ⟨b, off + (n1 + n2) * 2 + 1, none⟩ (.int .i64 0)) 2 (some ⟨b, off, none⟩) cap (x1 ++ x2) := SlAt.after (SlAt.after hs1 (j := (n1 + n2) * 2) (by omega) (.int .i64 0)) (j := (n1 + n2) * 2 + 1) (by omega) (.int .i64 0)
    have hC2 : Chg b (b + 1) w ((w1.setCell ⟨b, off + (n1 + n2) * 2, none⟩ (.int .i64 0)).setCell ⟨b, off + (n1 + n2) * 2 + 1, none⟩ (.int .i64 0)) := (hC1.trans (Chg.setCell _ _ _ (Nat.le_refl _) (Nat.lt_succ_self _))).trans (Chg.setCell _ _ _ (Nat.le_refl _) (Nat.lt_succ_self _))
    have HS2 := Lib.hid (And.intro hs2 hC2)
    clear hs1 hA1 hu0 hu1 hs2 hC2 hC1 hf0 hf1 hlx
    go_wp2
    go_ret
    refine ⟨rfl, ?_, HS2.out.2⟩
    (try simp only [List.append_nil])
    exact HS2.out.1
  · have hm0 : n2 = 0 := by omega
    subst hm0
    have hx2 : x2 = [] := List.eq_nil_of_length_eq_zero (by have := H2.out.1; omega)
    subst hx2
    by_cases hcc : cap = n1 + 1
    · subst hcc
      go_enter Try.func25, Try.ntmps25
      go_wp2
      refine wp_region_T (S := fun _ => True) 7 (by kernel_rfl) trivial (fun hHeld => ?_) (by decide)
      refine wpT_take (i := 0) (v := ?_) rfl (by kernel_rfl) (by decide) (by kernel_rfl) (by kernel_rfl) (by kernel_rfl) (fun _ _ _ h => h) (Or.inl ⟨by rfl, ?_⟩) (by assumption) ?_
      rotate_left
      · intro w9 hSw; (try dsimp only at hSw); go_simp; (first | done | with_reducible rfl)
      (try simp only [List.getElem_toArray, List.getElem_cons_succ, List.getElem_cons_zero, Act.put, List.setIfInBounds_toArray, List.set_cons_zero, List.set_cons_succ])
      refine wpT_take (i := 1) (v := ?_) rfl (by kernel_rfl) (by decide) (by kernel_rfl) (by kernel_rfl) (by kernel_rfl) (fun _ _ _ h => h) (Or.inl ⟨by rfl, ?_⟩) (by assumption) ?_
      rotate_left
      · intro w9 hSw; (try dsimp only at hSw); go_simp; (first | done | with_reducible rfl)
      (try simp only [List.getElem_toArray, List.getElem_cons_succ, List.getElem_cons_zero, Act.put, List.setIfInBounds_toArray, List.set_cons_zero, List.set_cons_succ])
      refine wpT_take (i := 2) (v := ?_) rfl (by kernel_rfl) (by decide) (by kernel_rfl) (by kernel_rfl) (by kernel_rfl) (fun _ _ _ h => h) (Or.inl ⟨by rfl, ?_⟩) (by assumption) ?_
      rotate_left
      · intro w9 hSw; (try dsimp only at hSw); go_simp; (first | done | with_reducible rfl)
      (try simp only [List.getElem_toArray, List.getElem_cons_succ, List.getElem_cons_zero, Act.put, List.setIfInBounds_toArray, List.set_cons_zero, List.set_cons_succ])
      refine wpT_take (i := 3) (v := ?_) rfl (by kernel_rfl) (by decide) (by kernel_rfl) (by kernel_rfl) (by kernel_rfl) (fun _ _ _ h => h) (Or.inl ⟨by rfl, ?_⟩) (by assumption) ?_
      rotate_left
      · intro w9 hSw; (try dsimp only at hSw); go_simp; (first | done | with_reducible rfl)
      (try simp only [List.getElem_toArray, List.getElem_cons_succ, List.getElem_cons_zero, Act.put, List.setIfInBounds_toArray, List.set_cons_zero, List.set_cons_succ])
      refine wpT_take (i := 4) (v := ?_) rfl (by kernel_rfl) (by decide) (by kernel_rfl) (by kernel_rfl) (by kernel_rfl) (fun _ _ _ h => h) (Or.inl ⟨by rfl, ?_⟩) (by assumption) ?_
      rotate_left
      · intro w9 hSw; (try dsimp only at hSw); go_simp; (first | done | with_reducible rfl)
      (try simp only [List.getElem_toArray, List.getElem_cons_succ, List.getElem_cons_zero, Act.put, List.setIfInBounds_toArray, List.set_cons_zero, List.set_cons_succ])
      refine wpT_take (i := 5) (v := ?_) rfl (by kernel_rfl) (by decide) (by kernel_rfl) (by kernel_rfl) (by kernel_rfl) (fun _ _ _ h => h) (Or.inl ⟨by rfl, ?_⟩) (by assumption) ?_
      rotate_left
      · intro w9 hSw; (try dsimp only at hSw); go_simp; (first | done | with_reducible rfl)
      (try simp only [List.getElem_toArray, List.getElem_cons_succ, List.getElem_cons_zero, Act.put, List.setIfInBounds_toArray, List.set_cons_zero, List.set_cons_succ])
      refine wpT_step (i := 6) (by kernel_rfl) (by decide) rfl (fun K hK => ?_)
      rw [if_pos (by rfl)]
      refine opwp_append_in _ _ _ (by rfl) 53 _ 2 16 Try.underlying28 Hinf.out (by rfl) b off n1 (n1 + 1) x1 (by rfl) H1.out (SlAt.ext HP1.out (Ext.drew _)) (by omega) _ 0 _ (by omega) (by omega) [] (by rfl) (by simp) CellsAt.none' (by simp) (by omega) ?_
      intro w1 hs1 hA1
      refine hK.out _ _ trivial (fun _ => ?_)
      clear hK K
      (try simp only [List.getElem_toArray, List.getElem_cons_succ, List.getElem_cons_zero, Act.put, List.setIfInBounds_toArray, List.set_cons_zero, List.set_cons_succ])
      refine wpT_last (by kernel_rfl) (by kernel_rfl) rfl (fun K hK => ?_)
      go_simp
      refine hK.out _ _ ?_
      clear hK K
      have hC1 : Chg b (b + 1) w w1 := hA1.of_drew.chg (by simp [ablk])
      (try rw [List.append_nil] at hs1)
      have hlx : (x1).length = n1 * 2 := by exact H1.out
      obtain ⟨hu0, hf0⟩ := SlAt.there hs1 (j := n1 * 2) (by omega)
      obtain ⟨hu1, hf1⟩ := SlAt.there hs1 (j := n1 * 2 + 1) (by omega)
      have hfz : ∀ j, w1.frozen? ⟨b, j, none⟩ = false := by intro j; rcases hs1 with ⟨h, _⟩ | ⟨b9, o9, C, E, e, h9, _⟩; cases h; cases e; exact unfrozen h9
      have hclr : ∀ ty c9, (Builtin.clear_ #[28] ty #[.slice (some ⟨b, off + n1 * 2, none⟩) 1 c9]).run Try.prog w1 = .ok (.tuple #[]) ((w1.setCell ⟨b, off + n1 * 2, none⟩ (.int .i64 0)).setCell ⟨b, off + n1 * 2 + 1, none⟩ (.int .i64 0)) := fun ty c9 => by rw [show 1 = 1 by omega]; exact run_clear_link w1 ty b (off + n1 * 2) c9 hu0 (by rw [Nat.add_assoc]; exact hu1) hfz
      have hs2 : SlAt ((w1.setCell ⟨b, off + n1 * 2, none⟩ (.int .i64 0)).setCell ⟨b, off + n1 * 2 + 1, none⟩ (.int .i64 0)) 2 (some ⟨b, off, none⟩) (n1 + 1) x1 := SlAt.after (SlAt.after hs1 (j := n1 * 2) (by omega) (.int .i64 0)) (j := n1 * 2 + 1) (by omega) (.int .i64 0)
      have hC2 : Chg b (b + 1) w ((w1.setCell ⟨b, off + n1 * 2, none⟩ (.int .i64 0)).setCell ⟨b, off + n1 * 2 + 1, none⟩ (.int .i64 0)) := (hC1.trans (Chg.setCell _ _ _ (Nat.le_refl _) (Nat.lt_succ_self _))).trans (Chg.setCell _ _ _ (Nat.le_refl _) (Nat.lt_succ_self _))
      have HS2 := Lib.hid (And.intro hs2 hC2)
      clear hs1 hA1 hu0 hu1 hs2 hC2 hC1 hf0 hf1 hlx
      go_wp2
      go_ret
      refine ⟨rfl, ?_, HS2.out.2⟩
      (try simp only [List.append_nil])
      exact HS2.out.1
    · have hlt : n1 + 1 < cap := by omega
      go_enter Try.func25, Try.ntmps25
      go_wp2
      refine wp_region_T (S := fun _ => True) 7 (by kernel_rfl) trivial (fun hHeld => ?_) (by decide)
      refine wpT_take (i := 0) (v := ?_) rfl (by kernel_rfl) (by decide) (by kernel_rfl) (by kernel_rfl) (by kernel_rfl) (fun _ _ _ h => h) (Or.inl ⟨by rfl, ?_⟩) (by assumption) ?_
      rotate_left
      · intro w9 hSw; (try dsimp only at hSw); go_simp; (first | done | with_reducible rfl)
      (try simp only [List.getElem_toArray, List.getElem_cons_succ, List.getElem_cons_zero, Act.put, List.setIfInBounds_toArray, List.set_cons_zero, List.set_cons_succ])
      refine wpT_take (i := 1) (v := ?_) rfl (by kernel_rfl) (by decide) (by kernel_rfl) (by kernel_rfl) (by kernel_rfl) (fun _ _ _ h => h) (Or.inl ⟨by rfl, ?_⟩) (by assumption) ?_
      rotate_left
      · intro w9 hSw; (try dsimp only at hSw); go_simp; (first | done | with_reducible rfl)
      (try simp only [List.getElem_toArray, List.getElem_cons_succ, List.getElem_cons_zero, Act.put, List.setIfInBounds_toArray, List.set_cons_zero, List.set_cons_succ])
      refine wpT_take (i := 2) (v := ?_) rfl (by kernel_rfl) (by decide) (by kernel_rfl) (by kernel_rfl) (by kernel_rfl) (fun _ _ _ h => h) (Or.inl ⟨by rfl, ?_⟩) (by assumption) ?_
      rotate_left
      · intro w9 hSw; (try dsimp only at hSw); go_simp; (first | done | with_reducible rfl)
      (try simp only [List.getElem_toArray, List.getElem_cons_succ, List.getElem_cons_zero, Act.put, List.setIfInBounds_toArray, List.set_cons_zero, List.set_cons_succ])
      refine wpT_take (i := 3) (v := ?_) rfl (by kernel_rfl) (by decide) (by kernel_rfl) (by kernel_rfl) (by kernel_rfl) (fun _ _ _ h => h) (Or.inl ⟨by rfl, ?_⟩) (by assumption) ?_
      rotate_left
      · intro w9 hSw; (try dsimp only at hSw); go_simp; (first | done | with_reducible rfl)
      (try simp only [List.getElem_toArray, List.getElem_cons_succ, List.getElem_cons_zero, Act.put, List.setIfInBounds_toArray, List.set_cons_zero, List.set_cons_succ])
      refine wpT_take (i := 4) (v := ?_) rfl (by kernel_rfl) (by decide) (by kernel_rfl) (by kernel_rfl) (by kernel_rfl) (fun _ _ _ h => h) (Or.inl ⟨by rfl, ?_⟩) (by assumption) ?_
      rotate_left
      · intro w9 hSw; (try dsimp only at hSw); go_simp; (first | done | with_reducible rfl)
      (try simp only [List.getElem_toArray, List.getElem_cons_succ, List.getElem_cons_zero, Act.put, List.setIfInBounds_toArray, List.set_cons_zero, List.set_cons_succ])
      refine wpT_take (i := 5) (v := ?_) rfl (by kernel_rfl) (by decide) (by kernel_rfl) (by kernel_rfl) (by kernel_rfl) (fun _ _ _ h => h) (Or.inl ⟨by rfl, ?_⟩) (by assumption) ?_
      rotate_left
      · intro w9 hSw; (try dsimp only at hSw); go_simp; (first | done | with_reducible rfl)
      (try simp only [List.getElem_toArray, List.getElem_cons_succ, List.getElem_cons_zero, Act.put, List.setIfInBounds_toArray, List.set_cons_zero, List.set_cons_succ])
      refine wpT_step (i := 6) (by kernel_rfl) (by decide) rfl (fun K hK => ?_)
      rw [if_pos (by rfl)]
      refine opwp_append_in _ _ _ (by rfl) 53 _ 2 16 Try.underlying28 Hinf.out (by rfl) b off n1 cap x1 (by rfl) H1.out (SlAt.ext HP1.out (Ext.drew _)) (by omega) _ 0 _ (by omega) (by omega) [] (by rfl) (by simp) CellsAt.none' (by simp) (by omega) ?_
      intro w1 hs1 hA1
      refine hK.out _ _ trivial (fun _ => ?_)
      clear hK K
      (try simp only [List.getElem_toArray, List.getElem_cons_succ, List.getElem_cons_zero, Act.put, List.setIfInBounds_toArray, List.set_cons_zero, List.set_cons_succ])
      refine wpT_last (by kernel_rfl) (by kernel_rfl) rfl (fun K hK => ?_)
      go_simp
      refine hK.out _ _ ?_
      clear hK K
      have hC1 : Chg b (b + 1) w w1 := hA1.of_drew.chg (by simp [ablk])
      (try rw [List.append_nil] at hs1)
      have hlx : (x1).length = n1 * 2 := by exact H1.out
      obtain ⟨hu0, hf0⟩ := SlAt.there hs1 (j := n1 * 2) (by omega)
      obtain ⟨hu1, hf1⟩ := SlAt.there hs1 (j := n1 * 2 + 1) (by omega)
      have hfz : ∀ j, w1.frozen? ⟨b, j, none⟩ = false := by intro j; rcases hs1 with ⟨h, _⟩ | ⟨b9, o9, C, E, e, h9, _⟩; cases h; cases e; exact unfrozen h9
      have hclr : ∀ ty c9, (Builtin.clear_ #[28] ty #[.slice (some ⟨b, off + n1 * 2, none⟩) 1 c9]).run Try.prog w1 = .ok (.tuple #[]) ((w1.setCell ⟨b, off + n1 * 2, none⟩ (.int .i64 0)).setCell ⟨b, off + n1 * 2 + 1, none⟩ (.int .i64 0)) := fun ty c9 => by rw [show 1 = 1 by omega]; exact run_clear_link w1 ty b (off + n1 * 2) c9 hu0 (by rw [Nat.add_assoc]; exact hu1) hfz
      have hs2 : SlAt ((w1.setCell ⟨b, off + n1 * 2, none⟩ (.int .i64 0)).setCell ⟨b, off + n1 * 2 + 1, none⟩ (.int .i64 0)) 2 (some ⟨b, off, none⟩) cap x1 := SlAt.after (SlAt.after hs1 (j := n1 * 2) (by omega) (.int .i64 0)) (j := n1 * 2 + 1) (by omega) (.int .i64 0)
      have hC2 : Chg b (b + 1) w ((w1.setCell ⟨b, off + n1 * 2, none⟩ (.int .i64 0)).setCell ⟨b, off + n1 * 2 + 1, none⟩ (.int .i64 0)) := (hC1.trans (Chg.setCell _ _ _ (Nat.le_refl _) (Nat.lt_succ_self _))).trans (Chg.setCell _ _ _ (Nat.le_refl _) (Nat.lt_succ_self _))
      have HS2 := Lib.hid (And.intro hs2 hC2)
      clear hs1 hA1 hu0 hu1 hs2 hC2 hC1 hf0 hf1 hlx
      go_wp2
      go_ret
      refine ⟨rfl, ?_, HS2.out.2⟩
      (try simp only [List.append_nil])
      exact HS2.out.1

end Go.Proofs.Ytjjeagblgjmcpaa
