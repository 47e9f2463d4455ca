/- The draws of disks: any disk. -/
import Derived.Test.YtbapomhoipdanaaDsk
import Derived.Test.YtbapomhoipdanaaAps
import Derived.Deep.DeepCutAuto
set_option linter.unusedVariables false
set_option linter.unusedSimpArgs false
namespace Go.Proofs.Ytbapomhoipdanaa
open Go.RowKit Go.Sl

section
variable {w0 w1 w2 w3 w w' : World} {a ka : Option Addr} {n cap cb b2 b3 lo hi kn kc : Nat} {u v u' v' rv : Value} {d d' : DiskD} {row : List Int}
/-- A field of the disk's box is set. -/
theorem DS.set0 (h : DS a n cap cb b2 b3 w0 w u v d) (hC : Chg (b2 + 1) w.heap.size w w') (hb : w'.heap[b3]? = w.heap[b3]?) (hO : ∃ fp, diskC.O w' [u', v] d' fp ∧ fp.Nodup ∧ ∀ b ∈ fp, b2 < b ∧ b ≠ b3) :
    DS a n cap cb b2 b3 w0 (w'.setCell ⟨b3, 0, none⟩ u') u' v d' := by
  have hS : Chg b3 (b3 + 1) w' (w'.setCell ⟨b3, 0, none⟩ u') := Chg.setCell w' ⟨b3, 0, none⟩ u' (Nat.le_refl _) (Nat.lt_succ_self _)
  have := h.lt
  obtain ⟨fp, h1, h2, h3⟩ := hO
  exact ⟨(h.dc.far hC (by omega)).far hS (by omega), Chg.new (Chg.new h.chg hC (by omega)) hS (by omega), (h.res.chg hC (by omega)).chg hS (by omega), Bx.set20 (h.box.of_block hb) u', ⟨fp, diskC.frame h1 (fun b hb => hS.block b (diskC.lt h1 b hb) (by have := h3 b hb; omega)), h2, h3⟩, h.lt⟩
theorem DS.set1 (h : DS a n cap cb b2 b3 w0 w u v d) (hC : Chg (b2 + 1) w.heap.size w w') (hb : w'.heap[b3]? = w.heap[b3]?) (hO : ∃ fp, diskC.O w' [u, v'] d' fp ∧ fp.Nodup ∧ ∀ b ∈ fp, b2 < b ∧ b ≠ b3) :
    DS a n cap cb b2 b3 w0 (w'.setCell ⟨b3, 1, none⟩ v') u v' d' := by
  have hS : Chg b3 (b3 + 1) w' (w'.setCell ⟨b3, 1, none⟩ v') := Chg.setCell w' ⟨b3, 1, none⟩ v' (Nat.le_refl _) (Nat.lt_succ_self _)
  have := h.lt
  obtain ⟨fp, h1, h2, h3⟩ := hO
  exact ⟨(h.dc.far hC (by omega)).far hS (by omega), Chg.new (Chg.new h.chg hC (by omega)) hS (by omega), (h.res.chg hC (by omega)).chg hS (by omega), Bx.set21 (h.box.of_block hb) v', ⟨fp, diskC.frame h1 (fun b hb => hS.block b (diskC.lt h1 b hb) (by have := h3 b hb; omega)), h2, h3⟩, h.lt⟩
/-- An element behind a slice, at footprints: the others stay as they were. -/
theorem app_fp {α : Type} {R : Cd α} {xs cs : List Value} {fps fx g : List Nat} {l : List α} {x : α} {a' : Option Addr} {c' : Nat}
    (hel : elemsO (R.O w) xs l fps) (hx : R.O w cs x fx) (hn : (ablk ka ++ fps ++ fx ++ g).Nodup) (hg : ∀ b ∈ g, b < w.heap.size)
    (hs : SlAt w' R.n a' c' (xs ++ cs)) (hc : l.length + 1 ≤ c') (hm : c' ≤ 9223372036854775807) (hA : AppW w w' ka a') :
    ∃ fp, (sliceC R).O w' [.slice a' (l.length + 1) c'] (l ++ [x]) fp ∧ (fp ++ g).Nodup ∧ (∀ b ∈ fp, b ∈ ablk ka ∨ b ∈ fps ∨ b ∈ fx ∨ b = w.heap.size) ∧ ∀ b ∈ g, w'.heap[b]? = w.heap[b]? := by
  have hlt := elemsO_lt R hel
  have hltx := R.lt hx
  rw [List.append_assoc, List.append_assoc, List.nodup_append] at hn
  obtain ⟨hn1, hn2, hn3⟩ := hn
  have hne : ∀ b, b ∈ fps ++ (fx ++ g) → b ∉ ablk ka := fun b hb ha => hn3 b ha b hb rfl
  have h1 := elemsO_frame R (w' := w') hel (fun b hb => hA.block b (hlt b hb) (hne b (by simp [hb])))
  have h2 := R.frame (w' := w') hx (fun b hb => hA.block b (hltx b hb) (hne b (by simp [hb])))
  have hb' : ∀ b ∈ ablk a', b ∈ ablk ka ∨ b = w.heap.size := fun b hb => by
    rcases hA.mem hb with h | ⟨h, _⟩
    · exact .inl h
    · exact .inr h
  refine ⟨ablk a' ++ (fps ++ fx), ⟨a', c', xs ++ cs, fps ++ fx, by simp, by simpa using hc, by simpa [maxLen] using hm, hs, (elemsO_append R).2 ⟨xs, cs, fps, fx, rfl, rfl, h1, cs, [], fx, [], by simp, by simp, h2, rfl, rfl⟩, rfl⟩, ?_, fun b hb => ?_, fun b hb => hA.block b (hg b hb) (hne b (by simp [hb]))⟩
  · rw [List.append_assoc, List.append_assoc, List.nodup_append]
    refine ⟨by cases a' <;> simp [ablk], hn2, fun b hb c hc e => ?_⟩
    subst e
    rcases hb' b hb with h | h
    · exact hne b hc h
    · rcases List.mem_append.1 hc with h9 | h9
      · have := hlt b h9; omega
      · rcases List.mem_append.1 h9 with h9 | h9
        · have := hltx b h9; omega
        · have := hg b h9; omega
  · rcases List.mem_append.1 hb with h | h
    · rcases hb' b h with h | h
      · exact .inl h
      · exact .inr (.inr (.inr h))
    · rcases List.mem_append.1 h with h | h
      · exact .inr (.inl h)
      · exact .inr (.inr (.inl h))
/-- A row behind the sectors. -/
theorem DS.app0 (h : DS a n cap cb b2 b3 w0 w1 (.slice ka kn kc) v d) (h3 : DS a n cap cb b2 b3 w0 w3 (.slice ka kn kc) v d) (hC : Chg cb (cb + 1) w1 w3) (hO : rowC.own lo hi w3 [rv] row) (hlo : w1.heap.size ≤ lo) :
    ∃ xs, b3 ∉ ablk ka ∧ kn ≤ kc ∧ kc ≤ 9223372036854775807 ∧ xs.length = kn * 1 ∧ SlAt w3 1 ka kc xs ∧
      ∀ a' c' w', SlAt w' 1 a' c' (xs ++ [rv]) → kn + 1 ≤ c' → c' ≤ 9223372036854775807 → AppW w3 w' ka a' →
        DS a n cap cb b2 b3 w0 (w'.setCell ⟨b3, 0, none⟩ (.slice a' (kn + 1) c')) (.slice a' (kn + 1) c') v (d.1 ++ [row], d.2) := by
  obtain ⟨fp, g1, g2, g3⟩ := h.no
  have glt := diskC.lt g1
  have hl := h.lt; have hs1 := h.size
  replace g1 := diskC.frame (w' := w3) g1 (fun b hb => hC.block b (glt b hb) (by have := g3 b hb; omega))
  obtain ⟨_, _, f1, f2, e, rfl, hu, hv⟩ := disk_O.1 g1
  cases e
  obtain ⟨ka', kc', xs, fps, e, q1, q2, q3, q4, rfl⟩ := hu
  cases e
  obtain ⟨fr, o1, o2, o3⟩ := hO
  refine ⟨xs, fun hb => (g3 b3 (by simp [hb])).2 rfl, q1, by simpa [maxLen] using q2, elemsV_len rowC (elemsO_view rowC q4), q3, fun a' c' w' hs hc hm hA => ?_⟩
  have hnd : (ablk ka ++ fps ++ fr ++ f2).Nodup := by
    have hp : (ablk ka ++ fps ++ fr ++ f2).Perm ((ablk ka ++ fps ++ f2) ++ fr) := by
      simp only [List.append_assoc]
      exact List.Perm.append_left _ (List.Perm.append_left _ List.perm_append_comm)
    rw [hp.nodup_iff, List.nodup_append]
    exact ⟨g2, o2, fun b hb c hc e => by subst e; have := glt b hb; have := o3 b hc; omega⟩
  obtain ⟨fq, p1, p2, p3, p4⟩ := app_fp q4 o1 hnd (fun b hb => waitC.lt hv b hb) hs hc hm hA
  have hk : ∀ b ∈ ablk ka, b2 < b ∧ b ≠ b3 ∧ b < w3.heap.size := fun b hb => ⟨(g3 b (by simp [hb])).1, (g3 b (by simp [hb])).2, q3.lt b hb⟩
  refine h3.set0 (hA.chg (fun b hb => ⟨(hk b hb).1, (hk b hb).2.2⟩)) (hA.block b3 h3.size (fun hb => (hk b3 hb).2.1 rfl)) ⟨fq ++ f2, disk_O.2 ⟨_, _, fq, f2, rfl, rfl, p1, waitC.frame hv p4⟩, p2, fun b hb => ?_⟩
  have hs3 := h3.size
  rcases List.mem_append.1 hb with hb | hb
  · rcases p3 b hb with h9 | h9 | h9 | h9
    · exact g3 b (by simp [h9])
    · exact g3 b (by simp [h9])
    · have := o3 b h9; omega
    · omega
  · exact g3 b (by simp [hb])
/-- A write behind those that wait. -/
theorem DS.app1 (h : DS a n cap cb b2 b3 w0 w1 u (.slice ka kn kc) d) (h3 : DS a n cap cb b2 b3 w0 w3 u (.slice ka kn kc) d) (hC : Chg cb (cb + 1) w1 w3) (hO : rowC.own lo hi w3 [rv] row) (hlo : w1.heap.size ≤ lo) (x : Int) :
    ∃ xs, b3 ∉ ablk ka ∧ kn ≤ kc ∧ kc ≤ 9223372036854775807 ∧ xs.length = kn * 2 ∧ SlAt w3 2 ka kc xs ∧
      ∀ a' c' w', SlAt w' 2 a' c' (xs ++ [.int .i64 x, rv]) → kn + 1 ≤ c' → c' ≤ 9223372036854775807 → AppW w3 w' ka a' →
        DS a n cap cb b2 b3 w0 (w'.setCell ⟨b3, 1, none⟩ (.slice a' (kn + 1) c')) u (.slice a' (kn + 1) c') (d.1, d.2 ++ [(x, row)]) := by
  obtain ⟨fp, g1, g2, g3⟩ := h.no
  have glt := diskC.lt g1
  have hl := h.lt; have hs1 := h.size
  replace g1 := diskC.frame (w' := w3) g1 (fun b hb => hC.block b (glt b hb) (by have := g3 b hb; omega))
  obtain ⟨_, _, f1, f2, e, rfl, hu, hv⟩ := disk_O.1 g1
  cases e
  obtain ⟨ka', kc', xs, fps, e, q1, q2, q3, q4, rfl⟩ := hv
  cases e
  obtain ⟨fr, o1, o2, o3⟩ := hO
  refine ⟨xs, fun hb => (g3 b3 (by simp [hb])).2 rfl, q1, by simpa [maxLen] using q2, elemsV_len writeC (elemsO_view writeC q4), q3, fun a' c' w' hs hc hm hA => ?_⟩
  have hnd : (ablk ka ++ fps ++ fr ++ f1).Nodup := by
    have hp : (ablk ka ++ fps ++ fr ++ f1).Perm ((f1 ++ (ablk ka ++ fps)) ++ fr) := by
      refine List.perm_append_comm.trans ?_
      simp only [List.append_assoc]
      exact List.Perm.refl _
    rw [hp.nodup_iff, List.nodup_append]
    exact ⟨g2, o2, fun b hb c hc e => by subst e; have := glt b hb; have := o3 b hc; omega⟩
  have o1' : writeC.O w3 [.int .i64 x, rv] (x, row) fr := write_O.2 ⟨rv, rfl, o1⟩
  obtain ⟨fq, p1, p2, p3, p4⟩ := app_fp q4 o1' hnd (fun b hb => rowsC.lt hu b hb) hs hc hm hA
  have hk : ∀ b ∈ ablk ka, b2 < b ∧ b ≠ b3 ∧ b < w3.heap.size := fun b hb => ⟨(g3 b (by simp [hb])).1, (g3 b (by simp [hb])).2, q3.lt b hb⟩
  refine h3.set1 (hA.chg (fun b hb => ⟨(hk b hb).1, (hk b hb).2.2⟩)) (hA.block b3 h3.size (fun hb => (hk b3 hb).2.1 rfl)) ⟨f1 ++ fq, disk_O.2 ⟨_, _, f1, fq, rfl, rfl, rowsC.frame hu p4, p1⟩, ?_, fun b hb => ?_⟩
  · exact (List.perm_append_comm (l₁ := f1) (l₂ := fq)).nodup_iff.2 p2
  have hs3 := h3.size
  rcases List.mem_append.1 hb with hb | hb
  · exact g3 b (by simp [hb])
  · rcases p3 b hb with h9 | h9 | h9 | h9
    · exact g3 b (by simp [h9])
    · exact g3 b (by simp [h9])
    · have := o3 b h9; omega
    · omega
/-- New sectors. -/
theorem DS.new0 (h : DS a n cap cb b2 b3 w0 w1 u v d) (hE : Ext w1 w) {g m : Nat} {zs : List Value} (hs : SlAt w 1 (some ⟨g, 0, none⟩) m zs) (hz : zs = (madeCells #[.slice none 0 0] m).toList) (hg : g = w1.heap.size) (hm : m ≤ 4194304) :
    DS a n cap cb b2 b3 w0 (w.setCell ⟨b3, 0, none⟩ (.slice (some ⟨g, 0, none⟩) m m)) (.slice (some ⟨g, 0, none⟩) m m) v (List.replicate m [], d.2) := by
  obtain ⟨fp, g1, g2, g3⟩ := h.no
  have hgn : g ∉ fp := fun hb => by have := diskC.lt g1 g hb; omega
  have hl := h.lt; have hs1 := h.size
  replace g1 := diskC.frame (w' := w) g1 (fun b hb => hE.block b (diskC.lt g1 b hb))
  replace h := h.grow hE
  obtain ⟨_, _, f1, f2, e, rfl, hu, hv⟩ := disk_O.1 g1
  cases e
  refine h.set0 ((Ext.refl w).chg _ _) rfl ⟨[g] ++ f2, disk_O.2 ⟨_, _, [g], f2, rfl, rfl, ⟨some ⟨g, 0, none⟩, m, zs, [], by simp, by simp, by simp only [maxLen]; omega, hs, ?_, rfl⟩, hv⟩, ?_, fun b hb => ?_⟩
  · rw [hz, toList_madeCells_one, ← flat_one]
    exact made_O (R := rowC) (nil_O w) m
  · rw [List.nodup_append] at g2 ⊢
    exact ⟨by simp, g2.2.1, fun b hb c hc e => by subst e; rw [List.mem_singleton.1 hb] at hc; exact hgn (by simp [hc])⟩
  · rcases List.mem_append.1 hb with hb | hb
    · rw [List.mem_singleton.1 hb]; omega
    · exact g3 b (by simp [hb])
/-- New writes. -/
theorem DS.new1 (h : DS a n cap cb b2 b3 w0 w1 u v d) (hE : Ext w1 w) {g m : Nat} {zs : List Value} (hs : SlAt w 2 (some ⟨g, 0, none⟩) m zs) (hz : zs = (madeCells #[.int .i64 0, .slice none 0 0] (m * 2)).toList) (hg : g = w1.heap.size) (hm : m ≤ 4194304) :
    DS a n cap cb b2 b3 w0 (w.setCell ⟨b3, 1, none⟩ (.slice (some ⟨g, 0, none⟩) m m)) u (.slice (some ⟨g, 0, none⟩) m m) (d.1, List.replicate m (0, [])) := by
  obtain ⟨fp, g1, g2, g3⟩ := h.no
  have hgn : g ∉ fp := fun hb => by have := diskC.lt g1 g hb; omega
  have hl := h.lt; have hs1 := h.size
  replace g1 := diskC.frame (w' := w) g1 (fun b hb => hE.block b (diskC.lt g1 b hb))
  replace h := h.grow hE
  obtain ⟨_, _, f1, f2, e, rfl, hu, hv⟩ := disk_O.1 g1
  cases e
  refine h.set1 ((Ext.refl w).chg _ _) rfl ⟨f1 ++ [g], disk_O.2 ⟨_, _, f1, [g], rfl, rfl, hu, ⟨some ⟨g, 0, none⟩, m, zs, [], by simp, by simp, by simp only [maxLen]; omega, hs, ?_, rfl⟩⟩, ?_, fun b hb => ?_⟩
  · rw [hz, made_two]
    exact made_O (show writeC.O w [.int .i64 0, .slice none 0 0] (0, []) [] from write_O.2 ⟨.slice none 0 0, rfl, nil_O w⟩) m
  · rw [List.nodup_append] at g2 ⊢
    exact ⟨g2.1, by simp, fun b hb c hc e => by subst e; rw [List.mem_singleton.1 hc] at hb; exact hgn (by simp [hb])⟩
  · rcases List.mem_append.1 hb with hb | hb
    · exact g3 b (by simp [hb])
    · rw [List.mem_singleton.1 hb]; omega
/-- The first sector is dropped. -/
theorem DS.drop0 (h : DS a n cap cb b2 b3 w0 w (.slice ka kn kc) v d) (hd : 1 ≤ kn) :
    ∃ b off, ka = some ⟨b, off, none⟩ ∧ kn ≤ kc ∧ DS a n cap cb b2 b3 w0 (w.setCell ⟨b3, 0, none⟩ (.slice (if kc = 1 then some ⟨b, off, none⟩ else some ⟨b, off + 1, none⟩) (kn - 1) (kc - 1))) (.slice (if kc = 1 then some ⟨b, off, none⟩ else some ⟨b, off + 1, none⟩) (kn - 1) (kc - 1)) v (d.1.drop 1, d.2) := by
  obtain ⟨fp, g1, g2, g3⟩ := h.no
  have hl := h.lt
  obtain ⟨_, _, f1, f2, e, rfl, hu, hv⟩ := disk_O.1 g1
  cases e
  obtain ⟨ka', kc', xs, fps, e, q1, q2, q3, q4, rfl⟩ := hu
  cases e
  have hk : 0 < d.1.length := hd
  have hsp : d.1 = d.1.take 1 ++ d.1.drop 1 := (List.take_append_drop 1 d.1).symm
  have q4' := q4
  rw [hsp] at q4'
  obtain ⟨x1, x2, fa, fb, rfl, rfl, he1, he2⟩ := (elemsO_append rowC).1 q4'
  have hx1 : x1.length = 1 := by rw [elemsV_len rowC (elemsO_view rowC he1), List.length_take, Nat.min_eq_left (by omega)]; rfl
  have hxl := elemsV_len rowC (elemsO_view rowC q4)
  have hxl' : (x1 ++ x2).length = d.1.length := by rw [hxl]; exact Nat.mul_one _
  obtain ⟨b, off, rfl⟩ := SlAt.some q3 (by rw [hxl']; exact hk)
  have hs2 : SlAt w 1 (if kc = 1 then some ⟨b, off, none⟩ else some ⟨b, off + 1, none⟩) (kc - 1) x2 := by
    have q3' : SlAt w 1 (some ⟨b, off, none⟩) kc (x1 ++ x2) := q3
    rcases q3' with ⟨h9, _⟩ | ⟨b', off', C, E, e, hb, hcap, hlen, htk⟩
    · cases h9
    cases e
    rw [List.length_append] at hlen htk hxl'
    have hdr : ((C.toList.drop off).drop 1).take x2.length = x2 := by
      have h8 := congrArg (List.drop 1) htk
      rw [List.drop_take, hx1] at h8
      simpa [hx1, List.drop_append] using h8
    split
    · rename_i h1
      have : x2 = [] := List.eq_nil_of_length_eq_zero (by omega)
      subst this
      exact .inr ⟨b, off, C, E, rfl, hb, by omega, by simp, by simp⟩
    · exact .inr ⟨b, off + 1, C, E, rfl, hb, by omega, by omega, by rw [← List.drop_drop]; exact hdr⟩
  have hab : ∀ z ∈ ablk (if kc = 1 then some (⟨b, off, none⟩ : Addr) else some ⟨b, off + 1, none⟩), z = b := fun z hz => by
    split at hz <;> simpa [ablk] using hz
  refine ⟨b, off, rfl, q1, h.set0 ((Ext.refl w).chg _ _) rfl ⟨ablk (if kc = 1 then some ⟨b, off, none⟩ else some ⟨b, off + 1, none⟩) ++ fb ++ f2, disk_O.2 ⟨_, _, ablk (if kc = 1 then some ⟨b, off, none⟩ else some ⟨b, off + 1, none⟩) ++ fb, f2, rfl, rfl, ⟨_, kc - 1, x2, fb, by rw [List.length_drop], by rw [List.length_drop]; omega, by omega, hs2, he2, rfl⟩, hv⟩, ?_, fun z hz => ?_⟩⟩
  · have h5 : ([b] ++ fb ++ f2).Nodup := by
      refine List.Nodup.sublist ?_ g2
      simp only [ablk, List.append_assoc]
      exact List.Sublist.append (List.Sublist.refl _) (List.sublist_append_right _ _)
    split <;> exact h5
  · simp only [List.mem_append] at hz
    rcases hz with (hz | hz) | hz
    · rw [hab z hz]; exact g3 b (by simp [ablk])
    · exact g3 z (by simp [hz])
    · exact g3 z (by simp [hz])
end

theorem cell_app {w w' : World} {a a' : Option Addr} {b o : Nat} {v : Value} (h : w.cell? ⟨b, o, none⟩ = some v) (hA : AppW w w' a a') (hn : b ∉ ablk a) : w'.cell? ⟨b, o, none⟩ = some v := by
  rw [World.cell?_of_block (w := w) (hA.block b (World.block_lt_of_cell? w _ h) hn)]; exact h

set_option maxHeartbeats 8000000 in
set_option maxRecDepth 20000 in
theorem l3DrawAny_c (cb n cap : Nat) (a : Option Addr) (w : World) (hD : DC w cb a n cap) (hb : CodeAt w cb a n) :
    Calls Try.prog 101 #[.pointer (some ⟨cb, 0, none⟩)] w fun e w' => ∃ (u v : Value) (d : DiskD), e = .returned (.agg #[u, v]) ∧ diskC.own w.heap.size w'.heap.size w' [u, v] d ∧ DC w' cb a n cap ∧ Chg cb (cb + 1) w w' := by
  have hlt := hD.lt
  have HD := Lib.hid hD; have HB := Lib.hid hb
  have hinf : (Try.prog.info? 59).map (fun i => (i.zero, i.size, i.bytes)) = some (some (.agg #[.int .i64 0, .slice none 0 0]), 2, 32) := by kernel_rfl
  have Hinf := Lib.hid hinf
  have hinr : (Try.prog.info? 44).map (fun i => (i.zero, i.size, i.bytes)) = some (some (.slice none 0 0), 1, 24) := by kernel_rfl
  have Hinr := Lib.hid hinr
  clear hD hb hinf hinr
  go_enter Try.func101, Try.ntmps101
  go_wp2_with fail
  refine (l3Draw_c cb n cap a _ (HD.out.ext (Ext.alloc _ _)) (HB.out.ext (Ext.alloc _ _))).mono ?_
  rintro e w1 ⟨u0, v0, d0, rfl, hok, O1, hD1, hC1⟩
  have z1 : w.heap.size + 1 ≤ w1.heap.size := by have := hC1.size; (try simp at this); omega
  have B2 : Bx w1 w.heap.size [.slice none 0 0, .slice none 0 0] := Bx.chg (Bx.new _ _ _ _ rfl) hC1 (by omega)
  obtain ⟨⟨pa, pc, rfl⟩, qa, qc, rfl⟩ := disk_form O1
  have Hlen := Lib.hid (diskOk_len hok)
  have HS : Hid (DS a n cap cb w.heap.size w1.heap.size w (w1.alloc (.cells #[.slice pa d0.1.length pc, .slice qa d0.2.length qc] 32)) (.slice pa d0.1.length pc) (.slice qa d0.2.length qc) d0) := by
    refine Lib.hid ⟨hD1.ext (Ext.alloc _ _), (((Ext.alloc _ _).chg _ _).trans hC1).trans ((Ext.alloc _ _).chg _ _), B2.ext (Ext.alloc _ _), Bx.new _ _ _ _ rfl, ?_, by omega⟩
    obtain ⟨fp, h1, h2, h3⟩ := O1.pAlloc (.cells #[.slice pa d0.1.length pc, .slice qa d0.2.length qc] 32)
    exact ⟨fp, h1, h2, fun b hb => by have := h3 b hb; simp at this; omega⟩
  clear O1 hD1 hC1 B2 hok
  go_wp2_with fail
  refine (l1Once_c cb n cap a 6 _ (by omega) HS.out.dc (HB.out.chg HS.out.chg)).mono ?_
  rintro e w2 ⟨q, rfl, hD, hC⟩
  replace HS := Lib.hid (HS.out.dice hC hD)
  clear hD hC
  cases q
  · have c0 := HS.out.box.cell 0 _ rfl; have c1 := HS.out.box.cell 1 _ rfl
    have r0 := HS.out.res.cell 0 _ rfl; have r1 := HS.out.res.cell 1 _ rfl; have rf := HS.out.res.fr; have rl := HS.out.res.lt
    have HR := Lib.hid HS.out.ret
    have k0 := HR.out.2.2.2.cell 0 _ rfl; have k1 := HR.out.2.2.2.cell 1 _ rfl
    go_wp2
    refine bodyPost_ret (v := .agg #[(.slice pa d0.1.length pc), (.slice qa d0.2.length qc)]) (by simp [results, Try.results101, go_sem, k0, k1]) rfl ⟨_, _, d0, rfl, HR.out.1, HR.out.2.1, HR.out.2.2.1⟩
  · go_wp2_with fail
    refine (l1Below_c cb n cap a 5 _ (by omega) HS.out.dc (HB.out.chg HS.out.chg)).mono ?_
    rintro e w3 ⟨x, hx0, hx1, rfl, hD, hC⟩
    replace HS := Lib.hid (HS.out.dice hC hD)
    clear hD hC
    have hx : x = 0 ∨ x = 1 ∨ x = 2 ∨ x = 3 ∨ x = 4 := by omega
    have zb := HS.out.lt; have lb := HS.out.size
    rcases hx with rfl | rfl | rfl | rfl | rfl
    · have HDr : Hid (DS a n cap cb w.heap.size w1.heap.size w w3.drew (.slice pa d0.1.length pc) (.slice qa d0.2.length qc) d0) := Lib.hid (HS.out.grow (Ext.drew _))
      have c0 := HS.out.box.cell 0 _ rfl
      go_wp2
      refine wp_region_T (S := fun ω => ω.cell? ⟨w1.heap.size, 0, none⟩ = some (.slice pa d0.1.length pc)) 7 (by kernel_rfl) ?_ (fun hHeld => ?_) (by decide)
      · (try dsimp only); exact c0
      refine wpT_take (i := 0) (v := ?_) rfl (by kernel_rfl) (by decide) (by kernel_rfl) (by kernel_rfl) (by kernel_rfl) (fun _ _ _ h => h) (Or.inl ⟨by rfl, ?_⟩) (by assumption) ?_
      rotate_left
      · intro w9 hSw; (try dsimp only at hSw); go_simp; (first | done | with_reducible rfl)
      (try simp only [List.getElem_toArray, List.getElem_cons_succ, List.getElem_cons_zero, Act.put, List.setIfInBounds_toArray, List.set_cons_zero, List.set_cons_succ])
      refine wpT_take (i := 1) (v := ?_) rfl (by kernel_rfl) (by decide) (by kernel_rfl) (by kernel_rfl) (by kernel_rfl) (fun _ _ _ h => h) (Or.inl ⟨by rfl, ?_⟩) (by assumption) ?_
      rotate_left
      · intro w9 hSw; (try dsimp only at hSw); go_simp; (first | done | with_reducible rfl)
      (try simp only [List.getElem_toArray, List.getElem_cons_succ, List.getElem_cons_zero, Act.put, List.setIfInBounds_toArray, List.set_cons_zero, List.set_cons_succ])
      refine wpT_take (i := 2) (v := ?_) rfl (by kernel_rfl) (by decide) (by kernel_rfl) (by kernel_rfl) (by kernel_rfl) (fun _ _ _ h => h) (Or.inl ⟨by rfl, ?_⟩) (by assumption) ?_
      rotate_left
      · intro w9 hSw; (try dsimp only at hSw); go_simp; (first | done | with_reducible rfl)
      (try simp only [List.getElem_toArray, List.getElem_cons_succ, List.getElem_cons_zero, Act.put, List.setIfInBounds_toArray, List.set_cons_zero, List.set_cons_succ])
      refine wpT_step (i := 3) (by kernel_rfl) (by decide) rfl (fun K hK => ?_)
      go_simp
      refine (l1DrawAny_c cb n cap a _ HDr.out.dc (HB.out.chg HDr.out.chg)).mono ?_
      rintro e w5 ⟨rv, row, rfl, hrl, HRW, O5, hD, hC⟩
      obtain ⟨ra, rc, rfl, -, -, -⟩ := row_open O5.view
      have HS5 := Lib.hid (HDr.out.dice hC hD)
      have HC5 := Lib.hid hC
      have HO5 := Lib.hid O5
      clear O5
      (try go_wp2_with fail)
      refine hK.out _ _ ?_ (fun hHeld2 => ?_)
      · (try dsimp only); exact cell_chg hHeld hC (by omega)
      clear hK K hHeld
      rename _ => hHeld
      (try simp only [List.getElem_toArray, List.getElem_cons_succ, List.getElem_cons_zero, Act.put, List.setIfInBounds_toArray, List.set_cons_zero, List.set_cons_succ])
      refine wpT_step (i := 4) (by kernel_rfl) (by decide) rfl (fun K hK => ?_)
      clear hC hD
      go_simp
      refine hK.out _ _ ?_ (fun hHeld2 => ?_)
      · (try dsimp only); exact cell_ext hHeld (Ext.alloc _ _)
      clear hK K hHeld
      rename _ => hHeld
      (try simp only [List.getElem_toArray, List.getElem_cons_succ, List.getElem_cons_zero, Act.put, List.setIfInBounds_toArray, List.set_cons_zero, List.set_cons_succ])
      refine wpT_step (i := 5) (by kernel_rfl) (by decide) rfl (fun K hK => ?_)
      obtain ⟨xs, hk1, hk2, hk3, hk4, hk5, hfin⟩ := DS.app0 HDr.out (HS5.out.grow (Ext.alloc _ (.cells #[.slice ra row.length rc] 44))) (HC5.out.trans ((Ext.alloc _ _).chg _ _)) (HO5.out.pAlloc _) (Nat.le_refl _)
      rw [if_pos (by rfl)]
      refine opwp_append_sl _ _ _ (by rfl) 44 _ 1 24 Try.underlying22 Hinr.out (by rfl) _ d0.1.length _ xs (by rfl) hk4 hk5 hk2 hk3 _ 1 _ [.slice ra row.length rc] (by rfl) (by rfl) (CellsAt.lit _ _ _) (by simp [Value.oneCell']) (by have := Hlen.out; omega) ?_
      intro a6 c6 w6 hs6 hle6 hm6 hA6
      have HF := Lib.hid (hfin a6 c6 w6 hs6 hle6 hm6 hA6)
      have HBX := Lib.hid ((HS5.out.grow (Ext.alloc _ (.cells #[.slice ra row.length rc] 44))).box.of_block (hA6.block w1.heap.size (HS5.out.grow (Ext.alloc _ (.cells #[.slice ra row.length rc] 44))).size hk1))
      clear hs6 hle6 hm6 hfin hk2 hk3 hk4 hk5
      refine hK.out _ _ ?_ (fun hHeld2 => ?_)
      · (try dsimp only); exact cell_app hHeld hA6 hk1
      clear hK K hHeld
      rename _ => hHeld
      (try simp only [List.getElem_toArray, List.getElem_cons_succ, List.getElem_cons_zero, Act.put, List.setIfInBounds_toArray, List.set_cons_zero, List.set_cons_succ])
      refine wpT_take (i := 6) (v := ?_) rfl (by kernel_rfl) (by decide) (by kernel_rfl) (by kernel_rfl) (by kernel_rfl) (fun _ _ _ h => h) (Or.inl ⟨by rfl, ?_⟩) (by assumption) ?_
      rotate_left
      · intro w9 hSw; (try dsimp only at hSw); go_simp; (first | done | with_reducible rfl)
      (try simp only [List.getElem_toArray, List.getElem_cons_succ, List.getElem_cons_zero, Act.put, List.setIfInBounds_toArray, List.set_cons_zero, List.set_cons_succ])
      refine wpT_last (by kernel_rfl) (by kernel_rfl) rfl (fun K hK => ?_)
      clear hA6 hk1
      have bf := HBX.out.fr; have bl := HBX.out.lt; have b0 := HBX.out.cell 0 _ rfl
      clear hHeld
      go_simp
      refine hK.out _ _ ?_
      clear hK K
      clear c0 HS HDr HS5 HO5 HC5 HBX bf bl b0
      have c0 := HF.out.box.cell 0 _ rfl; have c1 := HF.out.box.cell 1 _ rfl
      have r0 := HF.out.res.cell 0 _ rfl; have r1 := HF.out.res.cell 1 _ rfl; have rf := HF.out.res.fr; have rl := HF.out.res.lt
      have HR := Lib.hid HF.out.ret
      have k0 := HR.out.2.2.2.cell 0 _ rfl; have k1 := HR.out.2.2.2.cell 1 _ rfl
      go_wp2
      refine bodyPost_ret (v := .agg #[.slice a6 (d0.1.length + 1) c6, (.slice qa d0.2.length qc)]) (by simp [results, Try.results101, go_sem, k0, k1]) rfl ⟨_, _, (d0.1 ++ [row], d0.2), rfl, HR.out.1, HR.out.2.1, HR.out.2.2.1⟩
    · have HDr : Hid (DS a n cap cb w.heap.size w1.heap.size w w3.drew (.slice pa d0.1.length pc) (.slice qa d0.2.length qc) d0) := Lib.hid (HS.out.grow (Ext.drew _))
      have c1 := HS.out.box.cell 1 _ rfl
      go_wp2
      refine wp_region_T (S := fun ω => ω.cell? ⟨w1.heap.size, 1, none⟩ = some (.slice qa d0.2.length qc)) 10 (by kernel_rfl) ?_ (fun hHeld => ?_) (by decide)
      · (try dsimp only); exact c1
      refine wpT_take (i := 0) (v := ?_) rfl (by kernel_rfl) (by decide) (by kernel_rfl) (by kernel_rfl) (by kernel_rfl) (fun _ _ _ h => h) (Or.inl ⟨by rfl, ?_⟩) (by assumption) ?_
      rotate_left
      · intro w9 hSw; (try dsimp only at hSw); go_simp; (first | done | with_reducible rfl)
      (try simp only [List.getElem_toArray, List.getElem_cons_succ, List.getElem_cons_zero, Act.put, List.setIfInBounds_toArray, List.set_cons_zero, List.set_cons_succ])
      refine wpT_take (i := 1) (v := ?_) rfl (by kernel_rfl) (by decide) (by kernel_rfl) (by kernel_rfl) (by kernel_rfl) (fun _ _ _ h => h) (Or.inl ⟨by rfl, ?_⟩) (by assumption) ?_
      rotate_left
      · intro w9 hSw; (try dsimp only at hSw); go_simp; (first | done | with_reducible rfl)
      (try simp only [List.getElem_toArray, List.getElem_cons_succ, List.getElem_cons_zero, Act.put, List.setIfInBounds_toArray, List.set_cons_zero, List.set_cons_succ])
      refine wpT_take (i := 2) (v := ?_) rfl (by kernel_rfl) (by decide) (by kernel_rfl) (by kernel_rfl) (by kernel_rfl) (fun _ _ _ h => h) (Or.inl ⟨by rfl, ?_⟩) (by assumption) ?_
      rotate_left
      · intro w9 hSw; (try dsimp only at hSw); go_simp; (first | done | with_reducible rfl)
      (try simp only [List.getElem_toArray, List.getElem_cons_succ, List.getElem_cons_zero, Act.put, List.setIfInBounds_toArray, List.set_cons_zero, List.set_cons_succ])
      refine wpT_take (i := 4) (v := ?_) rfl (by kernel_rfl) (by decide) (by kernel_rfl) (by kernel_rfl) (by kernel_rfl) (fun _ _ _ h => h) (Or.inl ⟨by rfl, ?_⟩) (by assumption) ?_
      rotate_left
      · intro w9 hSw; (try dsimp only at hSw); go_simp; (first | done | with_reducible rfl)
      (try simp only [List.getElem_toArray, List.getElem_cons_succ, List.getElem_cons_zero, Act.put, List.setIfInBounds_toArray, List.set_cons_zero, List.set_cons_succ])
      refine wpT_step (i := 3) (by kernel_rfl) (by decide) rfl (fun K hK => ?_)
      go_simp
      refine (l1From_c cb n cap a (-1) 6 _ (by omega) (by omega) (by omega) HDr.out.dc (HB.out.chg HDr.out.chg)).mono ?_
      rintro e w4 ⟨y, hy0, hy1, rfl, hD, hC⟩
      have HS4 := Lib.hid (HDr.out.dice hC hD)
      (try go_wp2_with fail)
      refine hK.out _ _ ?_ (fun hHeld2 => ?_)
      · (try dsimp only); exact cell_chg hHeld hC (by omega)
      clear hK K hHeld
      rename _ => hHeld
      (try simp only [List.getElem_toArray, List.getElem_cons_succ, List.getElem_cons_zero, Act.put, List.setIfInBounds_toArray, List.set_cons_zero, List.set_cons_succ])
      refine wpT_step (i := 5) (by kernel_rfl) (by decide) rfl (fun K hK => ?_)
      clear hC hD
      go_simp
      refine (l1DrawAny_c cb n cap a _ HS4.out.dc (HB.out.chg HS4.out.chg)).mono ?_
      rintro e w5 ⟨rv, row, rfl, hrl, HRW, O5, hD, hC⟩
      obtain ⟨ra, rc, rfl, -, -, -⟩ := row_open O5.view
      have HS5 := Lib.hid (HS4.out.dice hC hD)
      have HC5 := Lib.hid hC
      have HO5 := Lib.hid O5
      clear O5
      (try go_wp2_with fail)
      refine hK.out _ _ ?_ (fun hHeld2 => ?_)
      · (try dsimp only); exact cell_chg hHeld hC (by omega)
      clear hK K hHeld
      rename _ => hHeld
      (try simp only [List.getElem_toArray, List.getElem_cons_succ, List.getElem_cons_zero, Act.put, List.setIfInBounds_toArray, List.set_cons_zero, List.set_cons_succ])
      refine wpT_take (i := 6) (v := ?_) rfl (by kernel_rfl) (by decide) (by kernel_rfl) (by kernel_rfl) (by kernel_rfl) (fun _ _ _ h => h) (Or.inl ⟨by rfl, ?_⟩) (by assumption) ?_
      rotate_left
      · intro w9 hSw; (try dsimp only at hSw); go_simp; (first | done | with_reducible rfl)
      (try simp only [List.getElem_toArray, List.getElem_cons_succ, List.getElem_cons_zero, Act.put, List.setIfInBounds_toArray, List.set_cons_zero, List.set_cons_succ])
      refine wpT_step (i := 7) (by kernel_rfl) (by decide) rfl (fun K hK => ?_)
      clear hC hD
      go_simp
      refine hK.out _ _ ?_ (fun hHeld2 => ?_)
      · (try dsimp only); exact cell_ext hHeld (Ext.alloc _ _)
      clear hK K hHeld
      rename _ => hHeld
      (try simp only [List.getElem_toArray, List.getElem_cons_succ, List.getElem_cons_zero, Act.put, List.setIfInBounds_toArray, List.set_cons_zero, List.set_cons_succ])
      refine wpT_step (i := 8) (by kernel_rfl) (by decide) rfl (fun K hK => ?_)
      obtain ⟨xs, hk1, hk2, hk3, hk4, hk5, hfin⟩ := DS.app1 HS4.out (HS5.out.grow (Ext.alloc _ (.cells #[.int .i64 y, .slice ra row.length rc] 59))) (HC5.out.trans ((Ext.alloc _ _).chg _ _)) (HO5.out.pAlloc _) (Nat.le_refl _) y
      rw [if_pos (by rfl)]
      refine opwp_append_sl _ _ _ (by rfl) 59 _ 2 32 Try.underlying30 Hinf.out (by rfl) _ d0.2.length _ xs (by rfl) hk4 hk5 hk2 hk3 _ 1 _ [.int .i64 y, .slice ra row.length rc] (by rfl) (by rfl) (CellsAt.lit _ _ _) (by simp [Value.oneCell']) (by have := Hlen.out; omega) ?_
      intro a6 c6 w6 hs6 hle6 hm6 hA6
      have HF := Lib.hid (hfin a6 c6 w6 hs6 hle6 hm6 hA6)
      have HBX := Lib.hid ((HS5.out.grow (Ext.alloc _ (.cells #[.int .i64 y, .slice ra row.length rc] 59))).box.of_block (hA6.block w1.heap.size (HS5.out.grow (Ext.alloc _ (.cells #[.int .i64 y, .slice ra row.length rc] 59))).size hk1))
      clear hs6 hle6 hm6 hfin hk2 hk3 hk4 hk5
      refine hK.out _ _ ?_ (fun hHeld2 => ?_)
      · (try dsimp only); exact cell_app hHeld hA6 hk1
      clear hK K hHeld
      rename _ => hHeld
      (try simp only [List.getElem_toArray, List.getElem_cons_succ, List.getElem_cons_zero, Act.put, List.setIfInBounds_toArray, List.set_cons_zero, List.set_cons_succ])
      refine wpT_take (i := 9) (v := ?_) rfl (by kernel_rfl) (by decide) (by kernel_rfl) (by kernel_rfl) (by kernel_rfl) (fun _ _ _ h => h) (Or.inl ⟨by rfl, ?_⟩) (by assumption) ?_
      rotate_left
      · intro w9 hSw; (try dsimp only at hSw); go_simp; (first | done | with_reducible rfl)
      (try simp only [List.getElem_toArray, List.getElem_cons_succ, List.getElem_cons_zero, Act.put, List.setIfInBounds_toArray, List.set_cons_zero, List.set_cons_succ])
      refine wpT_last (by kernel_rfl) (by kernel_rfl) rfl (fun K hK => ?_)
      clear hA6 hk1
      have bf := HBX.out.fr; have bl := HBX.out.lt; have b1 := HBX.out.cell 1 _ rfl
      clear hHeld
      go_simp
      refine hK.out _ _ ?_
      clear hK K
      clear c1 HS HDr HS5 HO5 HC5 HBX bf bl b1 HS4
      have c0 := HF.out.box.cell 0 _ rfl; have c1 := HF.out.box.cell 1 _ rfl
      have r0 := HF.out.res.cell 0 _ rfl; have r1 := HF.out.res.cell 1 _ rfl; have rf := HF.out.res.fr; have rl := HF.out.res.lt
      have HR := Lib.hid HF.out.ret
      have k0 := HR.out.2.2.2.cell 0 _ rfl; have k1 := HR.out.2.2.2.cell 1 _ rfl
      go_wp2
      refine bodyPost_ret (v := .agg #[(.slice pa d0.1.length pc), .slice a6 (d0.2.length + 1) c6]) (by simp [results, Try.results101, go_sem, k0, k1]) rfl ⟨_, _, (d0.1, d0.2 ++ [(y, row)]), rfl, HR.out.1, HR.out.2.1, HR.out.2.2.1⟩
    · go_wp2_with fail
      refine (l1From_c cb n cap a (-1) 1 _ (by omega) (by omega) (by omega) HS.out.dc (HB.out.chg HS.out.chg)).mono ?_
      rintro e w4 ⟨y, hy0, hy1, rfl, hD, hC⟩
      replace HS := Lib.hid (HS.out.dice hC hD)
      clear hD hC
      obtain ⟨m, hm⟩ : ∃ m : Nat, 60 + y = m := ⟨(60 + y).toNat, by omega⟩
      have hml : m ≤ 61 := by omega
      have hw : IntKind.i64.wrap (60 + y) = (m : Int) := by rw [hm]; exact IntWalk.i64_in _ (by omega)
      have hy : y = (m : Int) - 60 := by omega
      subst hy
      clear hm
      go_wp2_with (at_make; refine wpList_make_sl _ rfl _ _ _ rfl 59 Try.underlying30 _ 2 32 Hinf.out m rfl rfl ?b ?b2 ?_)
      case b => omega
      case b2 => omega
      intro w5 zs hs5 hl5 hz5 hE5 hlt5
      have HF := Lib.hid (DS.new1 HS.out hE5 hs5 hz5 rfl (by omega))
      have HBX := Lib.hid (HS.out.grow hE5).box
      clear hs5 hl5 hz5 hE5 hlt5
      have b1 := HBX.out.cell 1 _ rfl; have bf := HBX.out.fr; have bl := HBX.out.lt
      go_upto_region 14 with fail
      clear HBX bf bl b1 HS
      have c0 := HF.out.box.cell 0 _ rfl; have c1 := HF.out.box.cell 1 _ rfl
      have r0 := HF.out.res.cell 0 _ rfl; have r1 := HF.out.res.cell 1 _ rfl; have rf := HF.out.res.fr; have rl := HF.out.res.lt
      have HR := Lib.hid HF.out.ret
      have k0 := HR.out.2.2.2.cell 0 _ rfl; have k1 := HR.out.2.2.2.cell 1 _ rfl
      go_wp2
      refine bodyPost_ret (v := .agg #[(.slice pa d0.1.length pc), .slice (some ⟨w4.heap.size, 0, none⟩) m m]) (by simp [results, Try.results101, go_sem, k0, k1]) rfl ⟨_, _, (d0.1, List.replicate m (0, [])), rfl, HR.out.1, HR.out.2.1, HR.out.2.2.1⟩
    · go_wp2_with fail
      refine (l1Below_c cb n cap a 2 _ (by omega) HS.out.dc (HB.out.chg HS.out.chg)).mono ?_
      rintro e w4 ⟨y, hy0, hy1, rfl, hD, hC⟩
      replace HS := Lib.hid (HS.out.dice hC hD)
      clear hD hC
      obtain ⟨m, hm⟩ : ∃ m : Nat, 40 + y = m := ⟨(40 + y).toNat, by omega⟩
      have hml : m ≤ 61 := by omega
      have hw : IntKind.i64.wrap (40 + y) = (m : Int) := by rw [hm]; exact IntWalk.i64_in _ (by omega)
      have hy : y = (m : Int) - 40 := by omega
      subst hy
      clear hm
      go_wp2_with (at_make; refine wpList_make_sl _ rfl _ _ _ rfl 44 Try.underlying22 _ 1 24 Hinr.out m rfl rfl ?b ?b2 ?_)
      case b => omega
      case b2 => omega
      intro w5 zs hs5 hl5 hz5 hE5 hlt5
      have HF := Lib.hid (DS.new0 HS.out hE5 hs5 hz5 rfl (by omega))
      have HBX := Lib.hid (HS.out.grow hE5).box
      clear hs5 hl5 hz5 hE5 hlt5
      have b0 := HBX.out.cell 0 _ rfl; have bf := HBX.out.fr; have bl := HBX.out.lt
      go_upto_region 14 with fail
      clear HBX bf bl b0 HS
      have c0 := HF.out.box.cell 0 _ rfl; have c1 := HF.out.box.cell 1 _ rfl
      have r0 := HF.out.res.cell 0 _ rfl; have r1 := HF.out.res.cell 1 _ rfl; have rf := HF.out.res.fr; have rl := HF.out.res.lt
      have HR := Lib.hid HF.out.ret
      have k0 := HR.out.2.2.2.cell 0 _ rfl; have k1 := HR.out.2.2.2.cell 1 _ rfl
      go_wp2
      refine bodyPost_ret (v := .agg #[.slice (some ⟨w4.heap.size, 0, none⟩) m m, (.slice qa d0.2.length qc)]) (by simp [results, Try.results101, go_sem, k0, k1]) rfl ⟨_, _, (List.replicate m [], d0.2), rfl, HR.out.1, HR.out.2.1, HR.out.2.2.1⟩
    · obtain ⟨kb, ko, rfl, hkc, hF⟩ := DS.drop0 HS.out (by have := Hlen.out; omega)
      have hi1 : (1 : Int) ≤ (d0.1.length : Int) := by have := Hlen.out; omega
      by_cases hpc : pc = 1
      · subst hpc
        rw [if_pos rfl, show d0.1.length - 1 = 0 by omega] at hF
        have HF := Lib.hid hF
        clear hF
        have hi2 : (d0.1.length : Int) ≤ ((1 : Nat) : Int) := by omega
        have b0 := HS.out.box.cell 0 _ rfl; have bf := HS.out.box.fr; have bl := HS.out.box.lt
        go_upto_region 14 with fail
        clear bf bl b0 HS
        have c0 := HF.out.box.cell 0 _ rfl; have c1 := HF.out.box.cell 1 _ rfl
        have r0 := HF.out.res.cell 0 _ rfl; have r1 := HF.out.res.cell 1 _ rfl; have rf := HF.out.res.fr; have rl := HF.out.res.lt
        have HR := Lib.hid HF.out.ret
        have k0 := HR.out.2.2.2.cell 0 _ rfl; have k1 := HR.out.2.2.2.cell 1 _ rfl
        go_wp2
        refine bodyPost_ret (v := .agg #[.slice (some ⟨kb, ko, none⟩) 0 0, (.slice qa d0.2.length qc)]) (by simp [results, Try.results101, go_sem, k0, k1]) rfl ⟨_, _, (d0.1.drop 1, d0.2), rfl, HR.out.1, HR.out.2.1, HR.out.2.2.1⟩
      · rw [if_neg hpc] at hF
        have HF := Lib.hid hF
        clear hF
        have hi2 : (d0.1.length : Int) ≤ (pc : Int) := by omega
        have hi3 : (1 : Int) ≤ (pc : Int) := by omega
        have b0 := HS.out.box.cell 0 _ rfl; have bf := HS.out.box.fr; have bl := HS.out.box.lt
        go_upto_region 14 with fail
        clear bf bl b0 HS
        have c0 := HF.out.box.cell 0 _ rfl; have c1 := HF.out.box.cell 1 _ rfl
        have r0 := HF.out.res.cell 0 _ rfl; have r1 := HF.out.res.cell 1 _ rfl; have rf := HF.out.res.fr; have rl := HF.out.res.lt
        have HR := Lib.hid HF.out.ret
        have k0 := HR.out.2.2.2.cell 0 _ rfl; have k1 := HR.out.2.2.2.cell 1 _ rfl
        go_wp2
        refine bodyPost_ret (v := .agg #[.slice (some ⟨kb, ko + 1, none⟩) (d0.1.length - 1) (pc - 1), (.slice qa d0.2.length qc)]) (by simp [results, Try.results101, go_sem, k0, k1]) rfl ⟨_, _, (d0.1.drop 1, d0.2), rfl, HR.out.1, HR.out.2.1, HR.out.2.2.1⟩

end Go.Proofs.Ytbapomhoipdanaa
