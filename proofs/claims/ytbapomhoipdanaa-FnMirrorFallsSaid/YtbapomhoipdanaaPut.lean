/- A slice's element is replaced: by new memory, or by memory that moves from another slice. Plain lemmas, over every program. -/
import Derived.Test.YtbapomhoipdanaaApd
import Derived.Test.YtbapomhoipdanaaTorn
set_option linter.unusedVariables false
set_option linter.unusedSimpArgs false
namespace Go.Sl
open Go.RowKit

theorem slice_put {α : Type} {R : Cd α} {w : World} {a : Option Addr} {n cap m : Nat} {l : List α} {fp fx : List Nat} {u : Value} {x : α} (hp : R.n = 1) (h : (sliceC R).O w [.slice a n cap] l fp) (hn : fp.Nodup) (hm : m < l.length)
    (hx : R.O w [u] x fx) (hxn : fx.Nodup) (hd : ∀ b ∈ fx, b ∉ fp) :
    ∃ b off, a = some ⟨b, off, none⟩ ∧ b ∈ fp ∧ (∃ u0, w.cell? ⟨b, off + m, none⟩ = some u0 ∧ R.V w [u0] l[m]) ∧ w.frozen? ⟨b, off + m, none⟩ = false ∧
      ∃ fp', (sliceC R).O (w.setCell ⟨b, off + m, none⟩ u) [.slice a n cap] (l.set m x) fp' ∧ fp'.Nodup ∧ ∀ i ∈ fp', i ∈ fp ∨ i ∈ fx := by
  obtain ⟨a', cap', xs, fps, h1, h2, h3, h4, h5, h6⟩ := h
  simp only [List.cons.injEq, Value.slice.injEq, and_true] at h1
  obtain ⟨rfl, rfl, rfl⟩ := h1
  have e : l = l.take m ++ l[m] :: l.drop (m + 1) := by rw [← List.drop_eq_getElem_cons hm, List.take_append_drop]
  rw [e] at h5
  obtain ⟨x1, y, f1, fy, rfl, rfl, he1, c, x2, fo, f2, rfl, rfl, hc, he2⟩ := (elemsO_append R).1 h5
  have hlx1 : x1.length = m := by
    have := elemsV_len R (elemsO_view R he1)
    rw [hp, List.length_take] at this
    omega
  have hlc : c.length = R.n := R.len (R.view hc)
  obtain ⟨u0, rfl⟩ := List.length_eq_one_iff.1 (hlc.trans hp)
  obtain ⟨b, off, rfl⟩ := SlAt.some h4 (by simp; omega)
  subst h6
  have hn' := hn
  simp only [ablk, List.cons_append, List.nil_append, List.nodup_cons, List.mem_append, List.nodup_append, not_or] at hn'
  obtain ⟨⟨hb1, hb2, hb3⟩, hf1, ⟨hfo, hf2, hd2⟩, hd1⟩ := hn'
  have hj : m < (x1 ++ ([u0] ++ x2)).length := by simp; omega
  have hst := SlAt.store h4 hj u
  have hcell := SlAt.cell h4 hj
  have hge : (x1 ++ ([u0] ++ x2))[m] = u0 := by
    rw [List.getElem_append_right (by omega)]; simp [hlx1]
  rw [hge] at hcell
  have hset : (x1 ++ ([u0] ++ x2)).set m u = x1 ++ ([u] ++ x2) := by
    rw [List.set_append_right _ _ (by omega), hlx1, Nat.sub_self]; rfl
  rw [hset] at hst
  have hfr : ∀ i, i ≠ b → (w.setCell ⟨b, off + m, none⟩ u).heap[i]? = w.heap[i]? := fun i hi => Below.heap_setCell _ _ _ _ hi
  have hbx : b ∉ fx := fun hb => hd b hb (by simp [ablk])
  have hd' : ∀ i ∈ fx, i ∉ f1 ∧ i ∉ f2 := fun i hi => ⟨fun h => hd i hi (by simp [h]), fun h => hd i hi (by simp [h])⟩
  refine ⟨b, off, rfl, by simp [ablk], ⟨u0, hcell, R.view hc⟩, hst.1, b :: (f1 ++ (fx ++ f2)), ⟨_, cap, x1 ++ ([u] ++ x2), f1 ++ (fx ++ f2), by rw [List.length_set], by rw [List.length_set]; exact h2, h3, hst.2.1, ?_, rfl⟩, ?_, ?_⟩
  · rw [List.set_eq_take_append_cons_drop, if_pos hm]
    exact (elemsO_append R).2 ⟨x1, [u] ++ x2, f1, fx ++ f2, rfl, rfl, elemsO_frame R he1 (fun i hi => hfr i (fun e => hb1 (e ▸ hi))), [u], x2, fx, f2, rfl, rfl, R.frame hx (fun i hi => hfr i (fun e => hbx (e ▸ hi))), elemsO_frame R he2 (fun i hi => hfr i (fun e => hb3 (e ▸ hi)))⟩
  · simp only [List.nodup_cons, List.mem_append, List.nodup_append, not_or]
    refine ⟨⟨hb1, hbx, hb3⟩, hf1, ⟨hxn, hf2, fun i hi j hj e => (hd' i hi).2 (e ▸ hj)⟩, fun i hi j hj e => ?_⟩
    subst e
    rcases hj with hj | hj
    · exact (hd' i hj).1 hi
    · exact hd1 i hi i (Or.inr hj) rfl
  · intro i hi
    simp only [List.mem_cons, List.mem_append] at hi
    simp only [ablk, List.mem_append, List.mem_cons]
    rcases hi with hi | hi | hi | hi
    · exact .inl (.inl (.inl hi))
    · exact .inl (.inr (.inl hi))
    · exact .inr hi
    · exact .inl (.inr (.inr (.inr hi)))

/-- An element is replaced by new memory. -/
theorem own2_put {α : Type} {R : Cd α} {w : World} {a : Option Addr} {n cap m lo hi lo2 hi2 l3 h3 : Nat} {l : List α} {u : Value} {x : α} (hp : R.n = 1) (h : (sliceC R).own2 lo hi lo2 hi2 w [.slice a n cap] l) (hm : m < l.length)
    (hx : R.own l3 h3 w [u] x) (h1 : hi ≤ l3) (h2 : hi2 ≤ l3) (h3' : lo2 ≤ l3) (h4 : hi2 ≤ h3) :
    ∃ b off, a = some ⟨b, off, none⟩ ∧ (∃ u0, w.cell? ⟨b, off + m, none⟩ = some u0 ∧ R.V w [u0] l[m]) ∧ w.frozen? ⟨b, off + m, none⟩ = false ∧
      (sliceC R).own2 lo hi lo2 h3 (w.setCell ⟨b, off + m, none⟩ u) [.slice a n cap] (l.set m x) := by
  obtain ⟨fp, hO, hn, hb⟩ := h
  obtain ⟨fx, hxO, hxn, hxb⟩ := hx
  obtain ⟨b, off, ha, hbm, hc, hf, fp', hO', hn', hs⟩ := slice_put hp hO hn hm hxO hxn (fun i hi hm => by have := hb i hm; have := hxb i hi; omega)
  refine ⟨b, off, ha, hc, hf, fp', hO', hn', fun i hi => ?_⟩
  rcases hs i hi with h | h
  · have := hb i h; omega
  · have := hxb i h; omega

theorem Cd.own.own2 {α : Type} {R : Cd α} {lo hi lo2 hi2 : Nat} {w : World} {cs : List Value} {x : α} (h : R.own lo hi w cs x) : R.own2 lo hi lo2 hi2 w cs x := by
  obtain ⟨fp, a, b, c⟩ := h
  exact ⟨fp, a, b, fun i hi => .inl (c i hi)⟩
theorem Cd.own2.view {α : Type} {R : Cd α} {lo hi lo2 hi2 : Nat} {w : World} {cs : List Value} {x : α} (h : R.own2 lo hi lo2 hi2 w cs x) : R.V w cs x := let ⟨_, h, _⟩ := h; R.view h
theorem Cd.own2.wide {α : Type} {R : Cd α} {lo hi lo2 hi2 lo2' hi2' : Nat} {w : World} {cs : List Value} {x : α} (h : R.own2 lo hi lo2 hi2 w cs x) (h1 : lo2' ≤ lo2) (h2 : hi2 ≤ hi2') : R.own2 lo hi lo2' hi2' w cs x := by
  obtain ⟨fp, a, b, c⟩ := h
  exact ⟨fp, a, b, fun i hi => by have := c i hi; omega⟩
theorem Cd.own2.chg {α : Type} {R : Cd α} {lo hi lo2 hi2 l h : Nat} {w w' : World} {cs : List Value} {x : α} (ho : R.own2 lo hi lo2 hi2 w cs x) (hc : Chg l h w w') (hd : hi ≤ l ∨ h ≤ lo) (hd2 : hi2 ≤ l ∨ h ≤ lo2) : R.own2 lo hi lo2 hi2 w' cs x := by
  obtain ⟨fp, h1, h2, h3⟩ := ho
  exact ⟨fp, R.frame h1 (fun b hb => hc.block b (R.lt h1 b hb) (by have := h3 b hb; omega)), h2, h3⟩

/-- Where a slice that is owned lies. -/
theorem own_addr {α : Type} {R : Cd α} {lo hi n cap : Nat} {w : World} {a : Option Addr} {l : List α} (h : (sliceC R).own lo hi w [.slice a n cap] l) (hp : 0 < R.n) (hl : 0 < l.length) : ∃ b off, a = some ⟨b, off, none⟩ ∧ lo ≤ b ∧ b < hi := by
  obtain ⟨fp, ⟨a', cap', xs, fps, h1, h2, h3, h4, h5, h6⟩, hn, hb⟩ := h
  simp only [List.cons.injEq, Value.slice.injEq, and_true] at h1
  obtain ⟨rfl, rfl, rfl⟩ := h1
  have := elemsV_len R (elemsO_view R h5)
  have hpos : 0 < xs.length := by rw [this]; exact Nat.mul_pos hl hp
  obtain ⟨b, off, rfl⟩ := SlAt.some h4 hpos
  exact ⟨b, off, rfl, hb b (by rw [h6]; simp [ablk])⟩
end Go.Sl
namespace Go.Proofs.Ytbapomhoipdanaa
open Go.RowKit Go.Sl

/-- Rows, and what waits from number k on: owned, none twice. -/
def Mv (w : World) (lo hi lo2 hi2 : Nat) (kv : Value) (ks : List (List Int)) (wa : Option Addr) (ws : List WriteD) (k : Nat) : Prop :=
  ∃ x1 x2 fpK f2, x1.length = k * 2 ∧ CellsAt w wa (x1 ++ x2) ∧ (∀ b ∈ ablk wa, b < w.heap.size) ∧ rowsC.O w [kv] ks fpK ∧ elemsO (writeC.O w) x2 (ws.drop k) f2 ∧ (fpK ++ f2).Nodup ∧ (∀ b ∈ fpK ++ f2, (lo ≤ b ∧ b < hi) ∨ (lo2 ≤ b ∧ b < hi2)) ∧ (∀ b ∈ ablk wa, (b ∉ fpK ∧ b ∉ f2) ∧ lo ≤ b ∧ b < hi)

theorem Mv.start {w : World} {lo mid hi lo2 hi2 : Nat} {kv : Value} {ks : List (List Int)} {wa : Option Addr} {n wc : Nat} {ws : List WriteD} (h : rowsC.own lo mid w [kv] ks) (h' : waitC.own mid hi w [.slice wa n wc] ws) (h1 : lo ≤ mid) (h2 : mid ≤ hi) : Mv w lo hi lo2 hi2 kv ks wa ws 0 := by
  obtain ⟨fpK, hO, hn, hb⟩ := h
  obtain ⟨fp, ⟨a', cap', xs, fps, e1, e2, e3, e4, e5, rfl⟩, hn', hb'⟩ := h'
  simp only [List.cons.injEq, Value.slice.injEq, and_true] at e1
  obtain ⟨rfl, rfl, rfl⟩ := e1
  obtain ⟨_, nf, nd⟩ := List.nodup_append.1 hn'
  refine ⟨[], xs, fpK, fps, by simp, e4.cells, fun b hb => e4.lt b hb, hO, e5, List.nodup_append.2 ⟨hn, nf, fun i hi j hj e => ?_⟩, fun i hi => ?_, fun i hi => ⟨⟨fun hk => ?_, fun hk => nd i hi i hk rfl⟩, ?_⟩⟩
  · have := hb i hi; have := hb' j (List.mem_append_right _ hj); omega
  · rcases List.mem_append.1 hi with hi | hi
    · have := hb i hi; omega
    · have := hb' i (List.mem_append_right _ hi); omega
  · have := hb i hk; have := hb' i (List.mem_append_left _ hi); omega
  · have := hb' i (List.mem_append_left _ hi); omega

theorem Mv.frame {w w' : World} {lo hi lo2 hi2 : Nat} {kv : Value} {ks : List (List Int)} {wa : Option Addr} {ws : List WriteD} {k : Nat} (h : Mv w lo hi lo2 hi2 kv ks wa ws k) (hs : w.heap.size ≤ w'.heap.size) (hf : ∀ b, b < w.heap.size → ((lo ≤ b ∧ b < hi) ∨ (lo2 ≤ b ∧ b < hi2)) → w'.heap[b]? = w.heap[b]?) : Mv w' lo hi lo2 hi2 kv ks wa ws k := by
  obtain ⟨x1, x2, fpK, f2, h1, h2, h3, h4, h5, h6, h7, h8⟩ := h
  refine ⟨x1, x2, fpK, f2, h1, ?_, fun b hb => Nat.lt_of_lt_of_le (h3 b hb) hs, rowsC.frame h4 (fun b hb => hf b (rowsC.lt h4 b hb) (h7 b (List.mem_append_left _ hb))), elemsO_frame writeC h5 (fun b hb => hf b (elemsO_lt writeC h5 b hb) (h7 b (List.mem_append_right _ hb))), h6, h7, h8⟩
  intro j u hj
  obtain ⟨b, off, rfl, hc⟩ := h2 j u hj
  have hb : b ∈ ablk (some ⟨b, off, none⟩) := by simp [ablk]
  exact ⟨b, off, rfl, by rw [World.cell?_of_block (w := w) (hf b (h3 b hb) (.inl (h8 b hb).2))]; exact hc⟩
theorem Mv.ext {w w' : World} {lo hi lo2 hi2 : Nat} {kv : Value} {ks : List (List Int)} {wa : Option Addr} {ws : List WriteD} {k : Nat} (h : Mv w lo hi lo2 hi2 kv ks wa ws k) (he : Ext w w') : Mv w' lo hi lo2 hi2 kv ks wa ws k :=
  h.frame he.size (fun b hb _ => he.block b hb)
theorem Mv.set {w : World} {lo hi lo2 hi2 : Nat} {kv : Value} {ks : List (List Int)} {wa : Option Addr} {ws : List WriteD} {k : Nat} (h : Mv w lo hi lo2 hi2 kv ks wa ws k) {a : Addr} (ha : ¬ (lo ≤ a.block ∧ a.block < hi) ∧ ¬ (lo2 ≤ a.block ∧ a.block < hi2)) (v : Value) : Mv (w.setCell a v) lo hi lo2 hi2 kv ks wa ws k :=
  h.frame (by simp [World.setCell]) (fun b _ hb => Below.heap_setCell _ _ _ _ (fun e => by omega))
theorem Mv.wide {w : World} {lo hi lo2 hi2 hi2' : Nat} {kv : Value} {ks : List (List Int)} {wa : Option Addr} {ws : List WriteD} {k : Nat} (h : Mv w lo hi lo2 hi2 kv ks wa ws k) (h2' : hi2 ≤ hi2') : Mv w lo hi lo2 hi2' kv ks wa ws k := by
  obtain ⟨x1, x2, fpK, f2, h1, h2, h3, h4, h5, h6, h7, h8⟩ := h
  exact ⟨x1, x2, fpK, f2, h1, h2, h3, h4, h5, h6, fun b hb => by have := h7 b hb; omega, h8⟩
theorem Mv.rows {w : World} {lo hi lo2 hi2 : Nat} {kv : Value} {ks : List (List Int)} {wa : Option Addr} {ws : List WriteD} {k : Nat} (h : Mv w lo hi lo2 hi2 kv ks wa ws k) : rowsC.own2 lo hi lo2 hi2 w [kv] ks := by
  obtain ⟨x1, x2, fpK, f2, h1, h2, h3, h4, h5, h6, h7, h8⟩ := h
  exact ⟨fpK, h4, (List.nodup_append.1 h6).1, fun b hb => h7 b (List.mem_append_left _ hb)⟩

/-- The next waiting write: its cells; it is passed by, or its row moves, or a new row takes the sector's place. -/
theorem Mv.next {w : World} {lo hi lo2 hi2 n kc : Nat} {ka : Option Addr} {ks : List (List Int)} {wa : Option Addr} {ws : List WriteD} {k : Nat} {x : WriteD} (h : Mv w lo hi lo2 hi2 (.slice ka n kc) ks wa ws k) (hx : Hid (ws[k]? = some x)) :
    ∃ wb wo xa xc, wa = some ⟨wb, wo, none⟩ ∧ w.cell? ⟨wb, wo + k * 2, none⟩ = some (.int .i64 x.1) ∧ w.cell? ⟨wb, wo + k * 2 + 1, none⟩ = some (.slice xa x.2.length xc) ∧ rowC.V w [.slice xa x.2.length xc] x.2 ∧
      Mv w lo hi lo2 hi2 (.slice ka n kc) ks wa ws (k + 1) ∧
      (∀ m, m < ks.length → ∃ kb ko, ka = some ⟨kb, ko, none⟩ ∧ (∃ u0, w.cell? ⟨kb, ko + m, none⟩ = some u0) ∧ w.frozen? ⟨kb, ko + m, none⟩ = false ∧
        Mv (w.setCell ⟨kb, ko + m, none⟩ (.slice xa x.2.length xc)) lo hi lo2 hi2 (.slice ka n kc) (ks.set m x.2) wa ws (k + 1)) := by
  obtain ⟨x1, x2, fpK, f2, h1, h2, h3, h4, h5, h6, h7, h8⟩ := h
  obtain ⟨hlt, rfl⟩ := List.getElem?_eq_some_iff.1 hx.out
  rw [List.drop_eq_getElem_cons hlt] at h5
  obtain ⟨c, r, fx, f2', rfl, rfl, hc, hr⟩ := h5
  obtain ⟨u, rfl, hu⟩ := write_O.1 hc
  obtain ⟨xa, xc, rfl⟩ := u_slice (rowC.view hu)
  obtain ⟨hnK, hn2, hnd⟩ := List.nodup_append.1 h6
  obtain ⟨hnx, hn2', hnd'⟩ := List.nodup_append.1 hn2
  have e0 := h2 (k * 2) (.int .i64 ws[k].1) (by rw [List.getElem?_append_right (by omega), h1, Nat.sub_self]; rfl)
  have e1 := h2 (k * 2 + 1) (.slice xa ws[k].2.length xc) (by rw [List.getElem?_append_right (by omega), h1, show k * 2 + 1 - k * 2 = 1 by omega]; rfl)
  obtain ⟨wb, wo, rfl, c0⟩ := e0
  obtain ⟨wb', wo', e, c1⟩ := e1
  cases e
  have hl1 : (x1 ++ [Value.int .i64 ws[k].1, Value.slice xa ws[k].2.length xc]).length = (k + 1) * 2 := by rw [List.length_append, h1]; simp; omega
  have hcs : CellsAt w (some ⟨wb, wo, none⟩) ((x1 ++ [Value.int .i64 ws[k].1, Value.slice xa ws[k].2.length xc]) ++ r) := by rw [List.append_assoc]; exact h2
  have hnd2 : (fpK ++ f2').Nodup := List.nodup_append.2 ⟨hnK, hn2', fun i hi j hj e => hnd i hi j (List.mem_append_right _ hj) e⟩
  refine ⟨wb, wo, xa, xc, rfl, c0, by rw [Nat.add_assoc]; exact c1, rowC.view hu, ⟨_, r, fpK, f2', hl1, hcs, h3, h4, hr, hnd2, fun b hb => h7 b ?_, fun b hb => ⟨⟨(h8 b hb).1.1, fun hf' => (h8 b hb).1.2 (List.mem_append_right _ hf')⟩, (h8 b hb).2⟩⟩, fun m hm => ?_⟩
  · rcases List.mem_append.1 hb with hb | hb
    · exact List.mem_append_left _ hb
    · exact List.mem_append_right _ (List.mem_append_right _ hb)
  · obtain ⟨kb, ko, rfl, hkb, ⟨u0, hc0, _⟩, hf, fp', hO', hn', hs⟩ := slice_put (R := rowC) rfl h4 hnK hm hu hnx (fun i hi hm => hnd i hm i (List.mem_append_left _ hi) rfl)
    have hwb := h8 wb (by simp [ablk])
    have hfr : ∀ i, i ≠ kb → (w.setCell ⟨kb, ko + m, none⟩ (.slice xa ws[k].2.length xc)).heap[i]? = w.heap[i]? := fun i hi => Below.heap_setCell _ _ _ _ hi
    have hwk : wb ≠ kb := fun e => hwb.1.1 (e ▸ hkb)
    refine ⟨kb, ko, rfl, ⟨u0, hc0⟩, hf, _, r, fp', f2', hl1, ?_, fun b hb => by have := h3 b hb; simp [World.setCell]; exact this, hO', elemsO_frame writeC hr (fun i hi => hfr i (fun e => ?_)), ?_, fun b hb => ?_, fun b hb => ⟨⟨fun hf' => ?_, fun hf' => (h8 b hb).1.2 (List.mem_append_right _ hf')⟩, (h8 b hb).2⟩⟩
    · intro j v hj
      obtain ⟨b', o', e, hcc⟩ := hcs j v hj
      cases e
      exact ⟨wb, wo, rfl, by rw [World.cell?_of_block (w := w) (hfr wb hwk)]; exact hcc⟩
    · subst e; exact hnd i hkb i (List.mem_append_right _ hi) rfl
    · refine List.nodup_append.2 ⟨hn', hn2', fun i hi j hj e => ?_⟩
      subst e
      rcases hs i hi with h | h
      · exact hnd i h i (List.mem_append_right _ hj) rfl
      · exact hnd' i h i hj rfl
    · rcases List.mem_append.1 hb with hb | hb
      · rcases hs b hb with h | h
        · exact h7 b (List.mem_append_left _ h)
        · exact h7 b (List.mem_append_right _ (List.mem_append_left _ h))
      · exact h7 b (List.mem_append_right _ (List.mem_append_right _ hb))
    · have hb' : b = wb := by simpa [ablk] using hb
      subst hb'
      rcases hs b hf' with h | h
      · exact hwb.1.1 h
      · exact hwb.1.2 (List.mem_append_left _ h)

/-- A new row takes a sector's place. -/
theorem Mv.put {w : World} {lo hi lo2 hi2 l3 h3 n kc m : Nat} {ka : Option Addr} {ks : List (List Int)} {wa : Option Addr} {ws : List WriteD} {k : Nat} {u : Value} {row : List Int} (h : Mv w lo hi lo2 hi2 (.slice ka n kc) ks wa ws k) (hm : m < ks.length)
    (hx : rowC.own l3 h3 w [u] row) (g1 : hi ≤ l3) (g2 : hi2 ≤ l3) (g3 : lo2 ≤ l3) (g4 : hi2 ≤ h3) :
    ∃ kb ko, ka = some ⟨kb, ko, none⟩ ∧ (∃ u0, w.cell? ⟨kb, ko + m, none⟩ = some u0 ∧ rowC.V w [u0] ks[m]) ∧ w.frozen? ⟨kb, ko + m, none⟩ = false ∧
      Mv (w.setCell ⟨kb, ko + m, none⟩ u) lo hi lo2 h3 (.slice ka n kc) (ks.set m row) wa ws k := by
  obtain ⟨x1, r, fpK, f2, h1, h2, h3', h4, hr, h6, h7, h8⟩ := h
  obtain ⟨fx, hxO, hxn, hxb⟩ := hx
  obtain ⟨hnK, hn2, hnd⟩ := List.nodup_append.1 h6
  have hfr2 : ∀ b ∈ fpK ++ f2, b ∉ fx := fun b hb hb' => by have := h7 b hb; have := hxb b hb'; omega
  obtain ⟨kb, ko, rfl, hkb, hc0, hf, fp', hO', hn', hs⟩ := slice_put (R := rowC) rfl h4 hnK hm hxO hxn (fun i hi hm => hfr2 i (List.mem_append_left _ hm) hi)
  have hfr : ∀ i, i ≠ kb → (w.setCell ⟨kb, ko + m, none⟩ u).heap[i]? = w.heap[i]? := fun i hi => Below.heap_setCell _ _ _ _ hi
  refine ⟨kb, ko, rfl, hc0, hf, x1, r, fp', f2, h1, ?_, fun b hb => by have := h3' b hb; simp [World.setCell]; exact this, hO', elemsO_frame writeC hr (fun i hi => hfr i (fun e => ?_)), ?_, fun b hb => ?_, fun b hb => ⟨⟨fun hf' => ?_, (h8 b hb).1.2⟩, (h8 b hb).2⟩⟩
  · intro j v hj
    obtain ⟨b', o', rfl, hcc⟩ := h2 j v hj
    refine ⟨b', o', rfl, ?_⟩
    rw [World.cell?_of_block (w := w) (hfr b' (fun e => (h8 b' (by simp [ablk])).1.1 (e ▸ hkb)))]; exact hcc
  · subst e; exact hnd i hkb i hi rfl
  · refine List.nodup_append.2 ⟨hn', hn2, fun i hi j hj e => ?_⟩
    subst e
    rcases hs i hi with h | h
    · exact hnd i h i hj rfl
    · exact hfr2 i (List.mem_append_right _ hj) h
  · rcases List.mem_append.1 hb with hb | hb
    · rcases hs b hb with h | h
      · have := h7 b (List.mem_append_left _ h); omega
      · have := hxb b h; omega
    · have := h7 b (List.mem_append_right _ hb); omega
  · rcases hs b hf' with h | h
    · exact (h8 b hb).1.1 h
    · have := (h8 b hb).2; have := hxb b h; omega

def fallW (f : Int) (ks : List (List Int)) (x : WriteD) : List (List Int) := if f = 1 then ks.set x.1.toNat x.2 else if f = 2 then ks.set x.1.toNat (tornR x.2 (ks.getD x.1.toNat [])) else ks
/-- What k waiting writes make of the rows, each by its fate. -/
def fallK (f : Nat → Int) (ks : List (List Int)) (ws : List WriteD) : Nat → List (List Int)
  | 0 => ks
  | k + 1 => fallW (f k) (fallK f ks ws k) (ws.getD k (0, []))
def fateOf (all : Bool) (fates : List Int) (i : Nat) : Int := if all then 1 else fates.getD i 0
def fallD (f : Nat → Int) (d : DiskD) : DiskD := (fallK f d.1 d.2 d.2.length, [])
def synced (d : DiskD) : DiskD := if diskOk d = true then fallD (fateOf true []) d else ([], [])
def fallen (d : DiskD) (fates : List Int) : DiskD := if diskOk d = true then fallD (fateOf false fates) d else ([], [])

theorem fallW_len (f : Int) (ks : List (List Int)) (x : WriteD) : (fallW f ks x).length = ks.length := by
  unfold fallW; split
  · simp
  · split <;> simp
theorem fallK_len (f : Nat → Int) (ks : List (List Int)) (ws : List WriteD) (k : Nat) : (fallK f ks ws k).length = ks.length := by
  induction k with
  | zero => rfl
  | succ k ih => rw [fallK, fallW_len, ih]
theorem fallK_snoc (f : Nat → Int) (ks : List (List Int)) (ws : List WriteD) (k : Nat) {x : WriteD} (hx : Hid (ws[k]? = some x)) : fallK f ks ws (k + 1) = fallW (f k) (fallK f ks ws k) x := by
  rw [fallK, List.getD_eq_getElem?_getD, hx.out]; rfl
theorem mem_drop' {l : List Int} {k : Nat} {x : Int} (h : x ∈ l.drop k) : x ∈ l := List.mem_of_mem_drop h
theorem tornR_ok {row old : List Int} (h1 : rowOk row = true) (h2 : rowOk old = true) : rowOk (tornR row old) = true := by
  simp only [rowOk, Bool.and_eq_true, decide_eq_true_eq, List.all_eq_true] at h1 h2 ⊢
  unfold tornR
  refine ⟨by rw [List.length_append, List.length_take, List.length_drop]; omega, fun x hx => ?_⟩
  rcases List.mem_append.1 hx with hx | hx
  · exact h1.2 x (List.mem_of_mem_take hx)
  · exact h2.2 x (List.mem_of_mem_drop hx)
theorem mem_set' {α : Type} {l : List α} {m : Nat} {a y : α} (h : y ∈ l.set m a) : y ∈ l ∨ y = a := List.mem_or_eq_of_mem_set h
theorem fallW_ok {f : Int} {ks : List (List Int)} {x : WriteD} (h1 : ∀ y ∈ ks, rowOk y = true) (h2 : rowOk x.2 = true) : ∀ y ∈ fallW f ks x, rowOk y = true := by
  intro y hy
  unfold fallW at hy
  split at hy
  · rcases mem_set' hy with hy | rfl
    · exact h1 y hy
    · exact h2
  · split at hy
    · rcases mem_set' hy with hy | rfl
      · exact h1 y hy
      · refine tornR_ok h2 ?_
        rw [List.getD_eq_getElem?_getD]
        cases hg : ks[x.1.toNat]? with
        | none => rfl
        | some z => exact h1 z (List.mem_of_getElem? hg)
    · exact h1 y hy
theorem fallK_ok {f : Nat → Int} {ks : List (List Int)} {ws : List WriteD} (h1 : ∀ y ∈ ks, rowOk y = true) (h2 : ∀ y ∈ ws, rowOk y.2 = true) (k : Nat) : ∀ y ∈ fallK f ks ws k, rowOk y = true := by
  induction k with
  | zero => exact h1
  | succ k ih =>
    rw [fallK]
    refine fallW_ok ih ?_
    rw [List.getD_eq_getElem?_getD]
    cases hg : ws[k]? with
    | none => rfl
    | some z => exact h2 z (List.mem_of_getElem? hg)
theorem diskOk_parts {rs : List (List Int)} {ws : List WriteD} (h : diskOk (rs, ws) = true) : (∀ x ∈ rs, rowOk x = true) ∧ (∀ x ∈ ws, inB x.1 0 ((rs.length : Int) - 1) = true ∧ rowOk x.2 = true) ∧ 1 ≤ rs.length ∧ rs.length ≤ 40 ∧ ws.length ≤ 60 := by
  simp only [diskOk, Bool.and_eq_true, decide_eq_true_eq, List.all_eq_true, wOk] at h
  obtain ⟨⟨⟨⟨h1, h2⟩, h3⟩, h4⟩, h5⟩ := h
  exact ⟨h4, h5, h1, h2, h3⟩

/-! ### with the address known -/

theorem own2_slot {α : Type} {R : Cd α} {w : World} {kb ko n cap m lo hi lo2 hi2 : Nat} {l : List α} (hp : R.n = 1) (h : (sliceC R).own2 lo hi lo2 hi2 w [.slice (some ⟨kb, ko, none⟩) n cap] l) (hm : m < l.length) :
    ∃ u0, w.cell? ⟨kb, ko + m, none⟩ = some u0 ∧ R.V w [u0] l[m] ∧ w.frozen? ⟨kb, ko + m, none⟩ = false := by
  obtain ⟨fp, hO, hn, hb⟩ := h
  have e : l = l.take m ++ l[m] :: l.drop (m + 1) := by rw [← List.drop_eq_getElem_cons hm, List.take_append_drop]
  rw [e] at hO
  obtain ⟨b, off, c, fx, ha, hc, _, _, _, _, hcell, hfr, _⟩ := slice_at (by omega) hO hn
  cases ha
  obtain ⟨u, rfl⟩ := List.length_eq_one_iff.1 ((R.len (R.view hc)).trans hp)
  have hcu := hcell 0 u rfl
  rw [hp, List.length_take, Nat.min_eq_left (by omega), show ko + m * 1 + 0 = ko + m by omega] at hcu
  exact ⟨u, hcu, R.view hc, hfr _⟩

theorem own2_put' {α : Type} {R : Cd α} {w : World} {kb ko n cap m lo hi lo2 hi2 l3 h3 : Nat} {l : List α} {u : Value} {x : α} (hp : R.n = 1) (h : (sliceC R).own2 lo hi lo2 hi2 w [.slice (some ⟨kb, ko, none⟩) n cap] l) (hm : m < l.length)
    (hx : R.own l3 h3 w [u] x) (h1 : hi ≤ l3) (h2 : hi2 ≤ l3) (h3' : lo2 ≤ l3) (h4 : hi2 ≤ h3) :
    (sliceC R).own2 lo hi lo2 h3 (w.setCell ⟨kb, ko + m, none⟩ u) [.slice (some ⟨kb, ko, none⟩) n cap] (l.set m x) := by
  obtain ⟨b, off, ha, _, _, h'⟩ := own2_put hp h hm hx h1 h2 h3' h4
  cases ha
  exact h'

theorem Mv.put' {w : World} {lo hi lo2 hi2 l3 h3 n kc m kb ko : Nat} {ks : List (List Int)} {wa : Option Addr} {ws : List WriteD} {k : Nat} {u : Value} {row : List Int} (h : Mv w lo hi lo2 hi2 (.slice (some ⟨kb, ko, none⟩) n kc) ks wa ws k) (hm : m < ks.length)
    (hx : rowC.own l3 h3 w [u] row) (g1 : hi ≤ l3) (g2 : hi2 ≤ l3) (g3 : lo2 ≤ l3) (g4 : hi2 ≤ h3) :
    Mv (w.setCell ⟨kb, ko + m, none⟩ u) lo hi lo2 h3 (.slice (some ⟨kb, ko, none⟩) n kc) (ks.set m row) wa ws k := by
  obtain ⟨b, off, ha, _, _, h'⟩ := h.put hm hx g1 g2 g3 g4
  cases ha
  exact h'

theorem Mv.move {w : World} {lo hi lo2 hi2 n kc m kb ko wb wo xl xc : Nat} {ks : List (List Int)} {xa : Option Addr} {ws : List WriteD} {k : Nat} {x : WriteD} (h : Mv w lo hi lo2 hi2 (.slice (some ⟨kb, ko, none⟩) n kc) ks (some ⟨wb, wo, none⟩) ws k)
    (hx : Hid (ws[k]? = some x)) (hc : w.cell? ⟨wb, wo + k * 2 + 1, none⟩ = some (.slice xa xl xc)) (hm : m < ks.length) :
    Mv (w.setCell ⟨kb, ko + m, none⟩ (.slice xa xl xc)) lo hi lo2 hi2 (.slice (some ⟨kb, ko, none⟩) n kc) (ks.set m x.2) (some ⟨wb, wo, none⟩) ws (k + 1) := by
  obtain ⟨wb', wo', xa', xc', e, _, c1, _, _, h'⟩ := h.next hx
  cases e
  rw [hc] at c1
  cases c1
  obtain ⟨b, off, ha, _, _, h''⟩ := h' m hm
  cases ha
  exact h''

theorem Mv.pAlloc {w : World} {lo hi lo2 hi2 : Nat} {kv : Value} {ks : List (List Int)} {wa : Option Addr} {ws : List WriteD} {k : Nat} (h : Mv w lo hi lo2 hi2 kv ks wa ws k) (o : Obj) : Mv (w.alloc o) lo hi lo2 hi2 kv ks wa ws k := h.ext (Ext.alloc _ _)
theorem Mv.pDrew {w : World} {lo hi lo2 hi2 : Nat} {kv : Value} {ks : List (List Int)} {wa : Option Addr} {ws : List WriteD} {k : Nat} (h : Mv w lo hi lo2 hi2 kv ks wa ws k) : Mv w.drew lo hi lo2 hi2 kv ks wa ws k := h.ext (Ext.drew _)
theorem Mv.pass {w : World} {lo hi lo2 hi2 n kc : Nat} {ka : Option Addr} {ks : List (List Int)} {wa : Option Addr} {ws : List WriteD} {k : Nat} {x : WriteD} (h : Mv w lo hi lo2 hi2 (.slice ka n kc) ks wa ws k) (hx : Hid (ws[k]? = some x)) : Mv w lo hi lo2 hi2 (.slice ka n kc) ks wa ws (k + 1) := by
  obtain ⟨_, _, _, _, _, _, _, _, h', _⟩ := h.next hx
  exact h'

end Go.Proofs.Ytbapomhoipdanaa
