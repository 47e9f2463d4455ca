/- Disks: how they read, and the laws' helpers on them. -/
import Derived.Test.YtfakjcckgcgalaaWr
set_option linter.unusedVariables false
set_option linter.unusedSimpArgs false
namespace Go.Sl
open Go.RowKit
section
variable {α β : Type} {R : Cd α} {S : Cd β}

theorem pair_V (hR : R.n = 1) (hS : S.n = 1) {w : World} {cs : List Value} {m : α × β} : (prodC R S).V w cs m ↔ ∃ u v, cs = [u, v] ∧ R.V w [u] m.1 ∧ S.V w [v] m.2 := by
  constructor
  · rintro ⟨c, d, rfl, h1, h2⟩
    obtain ⟨u, rfl⟩ := one_cell (hR ▸ R.len h1)
    obtain ⟨v, rfl⟩ := one_cell (hS ▸ S.len h2)
    exact ⟨u, v, rfl, h1, h2⟩
  · rintro ⟨u, v, rfl, h1, h2⟩
    exact ⟨[u], [v], rfl, h1, h2⟩

theorem pair_O (hR : R.n = 1) (hS : S.n = 1) {w : World} {cs : List Value} {m : α × β} {fp : List Nat} : (prodC R S).O w cs m fp ↔ ∃ u v f g, cs = [u, v] ∧ fp = f ++ g ∧ R.O w [u] m.1 f ∧ S.O w [v] m.2 g := by
  constructor
  · rintro ⟨c, d, f, g, rfl, rfl, h1, h2⟩
    obtain ⟨u, rfl⟩ := one_cell (hR ▸ R.len (R.view h1))
    obtain ⟨v, rfl⟩ := one_cell (hS ▸ S.len (S.view h2))
    exact ⟨u, v, f, g, rfl, rfl, h1, h2⟩
  · rintro ⟨u, v, f, g, rfl, rfl, h1, h2⟩
    exact ⟨[u], [v], f, g, rfl, rfl, h1, h2⟩

theorem prod_own {lo mid hi : Nat} {w : World} {c d : List Value} {a : α} {b : β} (h1 : R.own lo mid w c a) (h2 : S.own mid hi w d b) (hl : lo ≤ mid) (hh : mid ≤ hi) : (prodC R S).own lo hi w (c ++ d) (a, b) := by
  obtain ⟨f, hf, nf, bf⟩ := h1
  obtain ⟨g, hg, ng, bg⟩ := h2
  refine ⟨f ++ g, ⟨c, d, f, g, rfl, rfl, hf, hg⟩, List.nodup_append.2 ⟨nf, ng, fun x hx y hy e => ?_⟩, fun x hx => ?_⟩
  · have := bf x hx; have := bg y hy; omega
  · rcases List.mem_append.1 hx with hx | hx
    · have := bf x hx; omega
    · have := bg x hx; omega

/-- Old blocks other than fp are as they were; there may be new ones. -/
structure ChgG (fp : List Nat) (w w' : World) : Prop where
  os : w'.os = w.os
  tape : w'.tape = w.tape
  output : w'.output = w.output
  size : w.heap.size ≤ w'.heap.size
  block : ∀ k, k < w.heap.size → k ∉ fp → w'.heap[k]? = w.heap[k]?

theorem ChgG.of_ext {fp : List Nat} {w w' : World} (h : Ext w w') : ChgG fp w w' := ⟨h.os, h.tape, h.output, h.size, fun k hk _ => h.block k hk⟩
theorem ChgG.of_f {fp f : List Nat} {w w' : World} (h : ChgF f w w') (hs : ∀ x ∈ f, x ∈ fp) : ChgG fp w w' := ⟨h.os, h.tape, h.output, Nat.le_of_eq h.size.symm, fun k _ hn => h.block k (fun hm => hn (hs k hm))⟩
theorem ChgG.wide {fp f : List Nat} {w w' : World} (h : ChgG f w w') (hs : ∀ x ∈ f, x ∈ fp) : ChgG fp w w' := ⟨h.os, h.tape, h.output, h.size, fun k hk hn => h.block k hk (fun hm => hn (hs k hm))⟩
theorem ChgG.trans {fp : List Nat} {a b c : World} (h : ChgG fp a b) (k : ChgG fp b c) : ChgG fp a c :=
  ⟨k.os.trans h.os, k.tape.trans h.tape, k.output.trans h.output, Nat.le_trans h.size k.size, fun i hi hn => (k.block i (Nat.lt_of_lt_of_le hi h.size) hn).trans (h.block i hi hn)⟩
theorem ChgG.chg {fp : List Nat} {a b : World} {lo hi : Nat} (h : ChgG fp a b) (hs : ∀ x ∈ fp, lo ≤ x ∧ x < hi) : Chg lo hi a b :=
  ⟨h.os, h.tape, h.output, h.size, fun i hi hn => h.block i hi (fun hm => hn (hs i hm))⟩
theorem ChgG.frame {fp g : List Nat} {w w' : World} {cs : List Value} {x : α} (h : ChgG fp w w') (ho : R.O w cs x g) (hd : ∀ b ∈ g, b ∉ fp) : R.O w' cs x g :=
  R.frame ho (fun b hb => h.block b (R.lt ho b hb) (hd b hb))
theorem ChgG.cell {fp : List Nat} {w w' : World} (h : ChgG fp w w') {b o : Nat} {v : Value} (hc : w.cell? ⟨b, o, none⟩ = some v) (hl : b < w.heap.size) (hn : b ∉ fp) : w'.cell? ⟨b, o, none⟩ = some v := by
  rw [World.cell?_of_block (w := w) (h.block b hl hn)]; exact hc
theorem Cd.O_ext {w w' : World} {cs : List Value} {x : α} {fp : List Nat} (h : R.O w cs x fp) (he : Ext w w') : R.O w' cs x fp := R.frame h (fun b hb => he.block b (R.lt h b hb))

theorem markG_own {w : World} {cs : List Value} {x : α} {lo hi : Nat} {P : Program} {f : FuncId} {args : Array Value} {r : Value} {x' : α} (h : R.own lo hi w cs x)
    (hm : ∀ fp, R.O w cs x fp → fp.Nodup → Calls P f args w fun e w' => e = .returned r ∧ ChgG fp w w' ∧ R.O w' cs x' fp) :
    Calls P f args w fun e w' => e = .returned r ∧ Chg lo hi w w' ∧ R.own lo hi w' cs x' := by
  obtain ⟨fp, h1, h2, h3⟩ := h
  exact (hm fp h1 h2).mono fun e w' ⟨he, hc, ho⟩ => ⟨he, hc.chg h3, fp, ho, h2, h3⟩

theorem sl_form {w : World} {v : Value} {l : List α} (h : (sliceC R).V w [v] l) : ∃ a cap, v = .slice a l.length cap := by
  obtain ⟨a, cap, xs, h1, _⟩ := h
  exact ⟨a, cap, (List.cons.inj h1).1⟩

theorem cntL_mem {cnt : α → Nat} {l : List α} {x : α} (h : x ∈ l) : cnt x ≤ cntL cnt l := by
  induction l with
  | nil => cases h
  | cons y l ih =>
    unfold cntL
    rcases List.mem_cons.1 h with rfl | h
    · omega
    · have := ih h; omega
end
end Go.Sl
namespace Go.Proofs.Ytfakjcckgcgalaa
open Go.RowKit Go.Sl

abbrev DiskD := List (List Int) × List WriteD
abbrev diskC : Cd DiskD := prodC rowsC waitC
theorem disk_V {w : World} {cs : List Value} {m : DiskD} : diskC.V w cs m ↔ ∃ u v, cs = [u, v] ∧ rowsC.V w [u] m.1 ∧ waitC.V w [v] m.2 := pair_V rfl rfl
theorem disk_O {w : World} {cs : List Value} {m : DiskD} {fp : List Nat} : diskC.O w cs m fp ↔ ∃ u v f g, cs = [u, v] ∧ fp = f ++ g ∧ rowsC.O w [u] m.1 f ∧ waitC.O w [v] m.2 g := pair_O rfl rfl
def dcnt (d : DiskD) : Nat := cntL rcnt d.1 + cntL wcnt d.2
def dmk (q : Int) (d : DiskD) : DiskD := (mkL rcnt rmk q d.1, mkL wcnt wmk (q + cntL rcnt d.1) d.2)
def dsz (d : DiskD) : Nat := (d.1.length + cntL rcnt d.1) + (d.2.length + cntL wsz d.2)
def dsmall (d : DiskD) : Prop := (d.1.length ≤ 2097152 ∧ ∀ x ∈ d.1, x.length ≤ 2097152) ∧ (d.2.length ≤ 2097152 ∧ ∀ x ∈ d.2, wsz x ≤ 2097152)
theorem dsz_small (m : DiskD) (q : Int) (h0 : -1 ≤ q) (h1 : q ≤ 1048576) : (-1 ≤ szI (dsz m) q ∧ szI (dsz m) q ≤ 1048576) ∧ (¬ szI (dsz m) q < 0 → dsmall m) := by
  unfold szI
  split
  · exact ⟨by omega, by omega⟩
  · rename_i h
    refine ⟨by omega, fun _ => ?_⟩
    unfold dsz at h
    refine ⟨⟨by omega, fun x hx => ?_⟩, by omega, fun x hx => ?_⟩
    · have : rcnt x ≤ _ := cntL_mem hx
      show rcnt x ≤ _
      omega
    · have : wsz x ≤ _ := cntL_mem hx
      omega

set_option maxHeartbeats 400000 in
theorem szDisk_c (cs : List Value) (m : DiskD) (q : Int) (w : World) (h0' : diskC.V w cs m) (h0 : -1 ≤ q) (h1 : q ≤ 1048576) :
    Calls Try.prog 20 #[.agg cs.toArray, .int .i64 q] w fun e w' => e = .returned (.int .i64 (szI (dsz m) q)) ∧ Ext w w' := by
  obtain ⟨u, v, rfl, hu, hv⟩ := disk_V.1 h0'
  obtain ⟨rs, ws⟩ := m
  simp only at hu hv
  have H := Lib.hid (And.intro hu hv); clear hu hv h0'
  generalize hA : rs.length + cntL rcnt rs = A
  generalize hB : ws.length + cntL wsz ws = B
  have hd : dsz (rs, ws) = A + B := by rw [← hA, ← hB]; rfl
  rw [hd]
  have HA := Lib.hid hA; have HB := Lib.hid hB
  clear hA hB hd
  by_cases hn : q - A < 0
  · have hs : szI (A + B) q = -1 := by unfold szI; rw [if_pos (by push_cast; omega)]
    have ha : szI A q = -1 := by simp [szI, hn]
    rw [hs]; have Hs := Lib.hid ha; clear hs ha
    go_enter Try.func20, Try.ntmps20
    go_wp2_with fail
    refine (szInt64SS_c _ rs _ _ (rowsC.vext H.out.1 (Ext.alloc _ _)) (by omega) (by omega)).mono ?_
    rw [HA.out, Hs.out]
    rintro e w1 ⟨rfl, hE⟩
    go_wp2
    go_ret
    exact ⟨rfl, by repeat (first | with_reducible exact Ext.refl _ | with_reducible assumption | with_reducible refine Ext.pAlloc ?_ _ | ((with_reducible refine Ext.pSet ?_ ?_ _); rotate_left; (simp <;> omega)) | with_reducible refine Ext.pDrew ?_ | with_reducible refine Ext.pDrewN ?_ _ | with_reducible refine Ext.trans ?_ (by with_reducible assumption))⟩
  · have ha : szI A q = q - A := by simp [szI, hn]
    have Ha := Lib.hid ha; clear ha
    have hs : szI B (q - A) = szI (A + B) q := by unfold szI; push_cast; split <;> split <;> omega
    by_cases hn2 : q - A - B < 0
    all_goals
      have hb : szI B (q - A) = (if q - A - B < 0 then -1 else q - A - B) := rfl
      first | rw [if_pos hn2] at hb | rw [if_neg hn2] at hb
      rw [← hs, hb]
      have Hb := Lib.hid hb; clear hb hs
      go_enter Try.func20, Try.ntmps20
      go_wp2_with fail
      refine (szInt64SS_c _ rs _ _ (rowsC.vext H.out.1 (Ext.alloc _ _)) (by omega) (by omega)).mono ?_
      rw [HA.out, Ha.out]
      rintro e w1 ⟨rfl, hE⟩
      have hc : w1.cell? ⟨w.heap.size, 1, none⟩ = some v := cell_ext (by simp [go_sem]) hE
      go_wp2_with fail
      refine (szWriteS_c _ ws _ _ (waitC.vext H.out.2 (by repeat (first | with_reducible exact Ext.refl _ | with_reducible assumption | with_reducible refine Ext.pAlloc ?_ _ | ((with_reducible refine Ext.pSet ?_ ?_ _); rotate_left; (simp <;> omega)) | with_reducible refine Ext.pDrew ?_ | with_reducible refine Ext.pDrewN ?_ _ | with_reducible refine Ext.trans ?_ (by with_reducible assumption)))) (by omega) (by omega)).mono ?_
      rw [HB.out, Hb.out]
      rintro e w2 ⟨rfl, hE2⟩
      go_wp2
      go_ret
      exact ⟨rfl, by repeat (first | with_reducible exact Ext.refl _ | with_reducible assumption | with_reducible refine Ext.pAlloc ?_ _ | ((with_reducible refine Ext.pSet ?_ ?_ _); rotate_left; (simp <;> omega)) | with_reducible refine Ext.pDrew ?_ | with_reducible refine Ext.pDrewN ?_ _ | with_reducible refine Ext.trans ?_ (by with_reducible assumption))⟩

set_option maxHeartbeats 800000 in
theorem toDisk_c (cs : List Value) (m : DiskD) (w : World) (h0 : diskC.V w cs m) (hs : dsmall m) :
    Calls Try.prog 22 #[.agg cs.toArray] w fun e w' => ∃ u v, e = .returned (.agg #[u, v]) ∧ Ext w w' ∧ diskC.own w.heap.size w'.heap.size w' [u, v] m := by
  obtain ⟨u, v, rfl, hu, hv⟩ := disk_V.1 h0
  obtain ⟨rs, ws⟩ := m
  simp only at hu hv
  obtain ⟨ua, uc, rfl⟩ := sl_form hu
  obtain ⟨va, vc, rfl⟩ := sl_form hv
  have H := Lib.hid (And.intro hu hv); clear hu hv h0
  go_enter Try.func22, Try.ntmps22
  go_wp2_with fail
  refine (toInt64SS_c _ rs _ (rowsC.vext H.out.1 (by repeat (first | with_reducible exact Ext.refl _ | with_reducible assumption | with_reducible refine Ext.pAlloc ?_ _ | ((with_reducible refine Ext.pSet ?_ ?_ _); rotate_left; (simp <;> omega)) | with_reducible refine Ext.pDrew ?_ | with_reducible refine Ext.pDrewN ?_ _ | with_reducible refine Ext.trans ?_ (by with_reducible assumption)))) hs.1).mono ?_
  rintro e w1 ⟨u', rfl, hE, hO⟩
  obtain ⟨ua', uc', rfl⟩ := sl_form hO.view
  have HO := Lib.hid hO; clear hO
  obtain ⟨hc, hf, hz⟩ := hE.rules
  have c1 : w1.cell? ⟨w.heap.size, 1, none⟩ = some (.slice va ws.length vc) := by rw [hc _ _ (by simp <;> omega)]; simp [go_sem]
  have c2 : w1.cell? ⟨w.heap.size + 1, 0, none⟩ = some (.slice none 0 0) := by rw [hc _ _ (by simp <;> omega)]; simp [go_sem]
  have c3 : w1.cell? ⟨w.heap.size + 1, 1, none⟩ = some (.slice none 0 0) := by rw [hc _ _ (by simp <;> omega)]; simp [go_sem]
  have c4 : w1.cell? ⟨w.heap.size + 1 + 1, 0, none⟩ = some (.slice none 0 0) := by rw [hc _ _ (by simp <;> omega)]; simp [go_sem]
  have c5 : w1.cell? ⟨w.heap.size + 1 + 1, 1, none⟩ = some (.slice none 0 0) := by rw [hc _ _ (by simp <;> omega)]; simp [go_sem]
  have f1 : ∀ o, w1.frozen? ⟨w.heap.size + 1, o, none⟩ = false := fun o => by rw [hf _ _ (by simp <;> omega)]; simp [go_sem]
  have f2 : ∀ o, w1.frozen? ⟨w.heap.size + 1 + 1, o, none⟩ = false := fun o => by rw [hf _ _ (by simp <;> omega)]; simp [go_sem]
  have hz' : w.heap.size + 3 ≤ w1.heap.size := by have := hz; simp at this; omega
  clear hc hf hz
  go_wp2_with fail
  refine (toWriteS_c _ ws _ (waitC.vext H.out.2 (by repeat (first | with_reducible exact Ext.refl _ | with_reducible assumption | with_reducible refine Ext.pAlloc ?_ _ | ((with_reducible refine Ext.pSet ?_ ?_ _); rotate_left; (simp <;> omega)) | with_reducible refine Ext.pDrew ?_ | with_reducible refine Ext.pDrewN ?_ _ | with_reducible refine Ext.trans ?_ (by with_reducible assumption)))) hs.2).mono ?_
  rintro e w2 ⟨v', rfl, hE2, hO2⟩
  obtain ⟨va', vc', rfl⟩ := sl_form hO2.view
  have HO2 := Lib.hid hO2; clear hO2
  obtain ⟨hc2, hf2, hz2⟩ := hE2.rules
  have d2 : w2.cell? ⟨w.heap.size + 1, 0, none⟩ = some (.slice none 0 0) := by rw [hc2 _ _ (by simp <;> omega)]; simp [go_sem, c2]
  have d3 : w2.cell? ⟨w.heap.size + 1, 1, none⟩ = some (.slice none 0 0) := by rw [hc2 _ _ (by simp <;> omega)]; simp [go_sem, c3]
  have d4 : w2.cell? ⟨w.heap.size + 1 + 1, 0, none⟩ = some (.slice ua' rs.length uc') := by rw [hc2 _ _ (by simp <;> omega)]; simp [go_sem, c4]
  have d5 : w2.cell? ⟨w.heap.size + 1 + 1, 1, none⟩ = some (.slice none 0 0) := by rw [hc2 _ _ (by simp <;> omega)]; simp [go_sem, c5]
  have g1 : ∀ o, w2.frozen? ⟨w.heap.size + 1, o, none⟩ = false := fun o => by rw [hf2 _ _ (by simp <;> omega)]; simp [go_sem, f1]
  have g2 : ∀ o, w2.frozen? ⟨w.heap.size + 1 + 1, o, none⟩ = false := fun o => by rw [hf2 _ _ (by simp <;> omega)]; simp [go_sem, f2]
  have hz3 : w1.heap.size ≤ w2.heap.size := by have := hz2; simp at this; omega
  clear hc2 hf2 hz2 c1 c2 c3 c4 c5 f1 f2
  go_wp2_with fail
  refine bodyPost_ret (v := .agg #[.slice ua' rs.length uc', .slice va' ws.length vc']) (by simp [results, Try.results22, go_sem, d2, d3]) rfl ⟨_, _, rfl, ?_, ?_⟩
  · repeat (first | with_reducible exact Ext.refl _ | with_reducible assumption | with_reducible refine Ext.pAlloc ?_ _ | ((with_reducible refine Ext.pSet ?_ ?_ _); rotate_left; (simp <;> omega)) | with_reducible refine Ext.pDrew ?_ | with_reducible refine Ext.pDrewN ?_ _ | with_reducible refine Ext.trans ?_ (by with_reducible assumption))
  · refine Cd.own.wide (lo := w.heap.size + 3) (hi := w2.heap.size) ?_ (by omega) (by simp)
    refine prod_own (c := [_]) (d := [_]) (mid := w1.heap.size) ?_ ?_ (by omega) (by omega)
    · repeat (refine own_set ?_ (by simp <;> omega) _)
      refine Cd.own.ext ?_ hE2
      refine own_set ?_ (by simp <;> omega) _
      exact HO.out.wide (by simp <;> omega) (Nat.le_refl _)
    · repeat (refine own_set ?_ (by simp <;> omega) _)
      exact HO2.out.wide (by simp) (by simp)

set_option maxHeartbeats 800000 in
theorem eqDisk_c (cs ds : List Value) (m n : DiskD) (w : World) (h0 : diskC.V w cs m) (h0' : diskC.V w ds n) :
    Calls Try.prog 17 #[.agg cs.toArray, .agg ds.toArray] w fun e w' => e = .returned (.bool (decide (m = n))) ∧ Ext w w' := by
  obtain ⟨u, v, rfl, hu, hv⟩ := disk_V.1 h0
  obtain ⟨u', v', rfl, hu', hv'⟩ := disk_V.1 h0'
  obtain ⟨rs, ws⟩ := m
  obtain ⟨rs', ws'⟩ := n
  simp only at hu hv hu' hv'
  have H := Lib.hid (And.intro (And.intro hu hv) (And.intro hu' hv')); clear hu hv hu' hv' h0 h0'
  cases hr : decide (rs = rs')
  · go_enter Try.func17, Try.ntmps17
    go_wp2_with fail
    refine (eqInt64SS_c _ _ rs rs' _ (rowsC.vext H.out.1.1 (by repeat (first | with_reducible exact Ext.refl _ | with_reducible assumption | with_reducible refine Ext.pAlloc ?_ _ | ((with_reducible refine Ext.pSet ?_ ?_ _); rotate_left; (simp <;> omega)) | with_reducible refine Ext.pDrew ?_ | with_reducible refine Ext.pDrewN ?_ _ | with_reducible refine Ext.trans ?_ (by with_reducible assumption)))) (rowsC.vext H.out.2.1 (by repeat (first | with_reducible exact Ext.refl _ | with_reducible assumption | with_reducible refine Ext.pAlloc ?_ _ | ((with_reducible refine Ext.pSet ?_ ?_ _); rotate_left; (simp <;> omega)) | with_reducible refine Ext.pDrew ?_ | with_reducible refine Ext.pDrewN ?_ _ | with_reducible refine Ext.trans ?_ (by with_reducible assumption))))).mono ?_
    rw [hr]
    rintro e w1 ⟨rfl, hE⟩
    go_wp2
    go_ret
    exact ⟨retB (by symm; rw [decide_eq_false_iff_not]; intro e; exact of_decide_eq_false hr (Prod.mk.inj e).1), by repeat (first | with_reducible exact Ext.refl _ | with_reducible assumption | with_reducible refine Ext.pAlloc ?_ _ | ((with_reducible refine Ext.pSet ?_ ?_ _); rotate_left; (simp <;> omega)) | with_reducible refine Ext.pDrew ?_ | with_reducible refine Ext.pDrewN ?_ _ | with_reducible refine Ext.trans ?_ (by with_reducible assumption))⟩
  · cases hs : decide (ws = ws')
    all_goals
      go_enter Try.func17, Try.ntmps17
      go_wp2_with fail
      refine (eqInt64SS_c _ _ rs rs' _ (rowsC.vext H.out.1.1 (by repeat (first | with_reducible exact Ext.refl _ | with_reducible assumption | with_reducible refine Ext.pAlloc ?_ _ | ((with_reducible refine Ext.pSet ?_ ?_ _); rotate_left; (simp <;> omega)) | with_reducible refine Ext.pDrew ?_ | with_reducible refine Ext.pDrewN ?_ _ | with_reducible refine Ext.trans ?_ (by with_reducible assumption)))) (rowsC.vext H.out.2.1 (by repeat (first | with_reducible exact Ext.refl _ | with_reducible assumption | with_reducible refine Ext.pAlloc ?_ _ | ((with_reducible refine Ext.pSet ?_ ?_ _); rotate_left; (simp <;> omega)) | with_reducible refine Ext.pDrew ?_ | with_reducible refine Ext.pDrewN ?_ _ | with_reducible refine Ext.trans ?_ (by with_reducible assumption))))).mono ?_
      rw [hr]
      rintro e w1 ⟨rfl, hE⟩
      have c1 : w1.cell? ⟨w.heap.size, 1, none⟩ = some v := cell_ext (by simp [go_sem]) hE
      have c2 : w1.cell? ⟨w.heap.size + 1, 1, none⟩ = some v' := cell_ext (by simp [go_sem]) hE
      go_wp2_with fail
      refine (eqWriteS_c _ _ ws ws' _ (waitC.vext H.out.1.2 (by repeat (first | with_reducible exact Ext.refl _ | with_reducible assumption | with_reducible refine Ext.pAlloc ?_ _ | ((with_reducible refine Ext.pSet ?_ ?_ _); rotate_left; (simp <;> omega)) | with_reducible refine Ext.pDrew ?_ | with_reducible refine Ext.pDrewN ?_ _ | with_reducible refine Ext.trans ?_ (by with_reducible assumption)))) (waitC.vext H.out.2.2 (by repeat (first | with_reducible exact Ext.refl _ | with_reducible assumption | with_reducible refine Ext.pAlloc ?_ _ | ((with_reducible refine Ext.pSet ?_ ?_ _); rotate_left; (simp <;> omega)) | with_reducible refine Ext.pDrew ?_ | with_reducible refine Ext.pDrewN ?_ _ | with_reducible refine Ext.trans ?_ (by with_reducible assumption))))).mono ?_
      rw [hs]
      rintro e w2 ⟨rfl, hE2⟩
      go_wp2
      go_ret
      exact ⟨retB (by have h1 := of_decide_eq_true hr; first | (have h2 := of_decide_eq_true hs; simp [h1, h2]) | (have h2 := of_decide_eq_false hs; simp [h2])), by repeat (first | with_reducible exact Ext.refl _ | with_reducible assumption | with_reducible refine Ext.pAlloc ?_ _ | ((with_reducible refine Ext.pSet ?_ ?_ _); rotate_left; (simp <;> omega)) | with_reducible refine Ext.pDrew ?_ | with_reducible refine Ext.pDrewN ?_ _ | with_reducible refine Ext.trans ?_ (by with_reducible assumption))⟩

set_option maxHeartbeats 800000 in
theorem markDisk_o (cs : List Value) (m : DiskD) (q : Int) (w : World) (fp : List Nat) (h : diskC.O w cs m fp) (hn : fp.Nodup) (hq0 : 0 ≤ q) (hq : q + dcnt m ≤ 4611686018427387904) :
    Calls Try.prog 18 #[.agg cs.toArray, .int .i64 q] w fun e w' => e = .returned (.int .i64 (q + dcnt m)) ∧ ChgG fp w w' ∧ diskC.O w' cs (dmk q m) fp := by
  obtain ⟨u, v, f, g, rfl, rfl, hu, hv⟩ := disk_O.1 h
  obtain ⟨rs, ws⟩ := m
  simp only at hu hv
  have hd : dcnt (rs, ws) = cntL rcnt rs + cntL wcnt ws := rfl
  rw [hd] at hq ⊢
  push_cast at hq ⊢
  have hbf := rowsC.lt hu
  have hbg := waitC.lt hv
  obtain ⟨nf, ng, nd⟩ := List.nodup_append.1 hn
  have H := Lib.hid (And.intro (And.intro hu hv) (And.intro (And.intro hbf hbg) (And.intro nf (And.intro ng nd))))
  clear hu hv h hn hbf hbg nf ng nd hd
  go_enter Try.func18, Try.ntmps18
  go_wp2_with fail
  refine (markInt64SS_c_o _ rs _ _ f (rowsC.O_ext H.out.1.1 (Ext.alloc _ _)) H.out.2.2.1 (by omega) (by omega)).mono ?_
  rintro e w1 ⟨rfl, hC, hO⟩
  have c1 : w1.cell? ⟨w.heap.size, 1, none⟩ = some v := hC.cell (by simp [go_sem]) (fun hm => absurd (H.out.2.1.1 _ hm) (Nat.lt_irrefl _))
  have hO2 : waitC.O w1 [v] ws g := (ChgG.of_f hC (fun _ h => h)).frame (waitC.O_ext H.out.1.2 (Ext.alloc _ _)) (fun b hb hm => H.out.2.2.2.2 b hm b hb rfl)
  have hC' := Lib.hid hC
  have HO := Lib.hid hO
  have HO2 := Lib.hid hO2
  clear hC hO hO2
  go_wp2_with fail
  refine (markWriteS_c_o _ ws _ _ g HO2.out H.out.2.2.2.1 (by omega) (by omega)).mono ?_
  rintro e w2 ⟨rfl, hD, hO3⟩
  go_wp2
  go_ret
  refine ⟨retI (by omega), ?_, disk_O.2 ⟨u, v, f, g, rfl, rfl, ?_, hO3⟩⟩
  · exact (ChgG.of_ext (Ext.alloc _ _)).trans ((ChgG.of_f hC'.out (fun x hx => List.mem_append_left _ hx)).trans (ChgG.of_f hD (fun x hx => List.mem_append_right _ hx)))
  · exact (ChgG.of_f hD (fun _ h => h)).frame HO.out (fun b hb hm => H.out.2.2.2.2 b hb b hm rfl)

theorem markDisk_c (cs : List Value) (m : DiskD) (q : Int) (w : World) (lo hi : Nat) (h : diskC.own lo hi w cs m) (hq0 : 0 ≤ q) (hq : q + dcnt m ≤ 4611686018427387904) :
    Calls Try.prog 18 #[.agg cs.toArray, .int .i64 q] w fun e w' => e = .returned (.int .i64 (q + dcnt m)) ∧ Chg lo hi w w' ∧ diskC.own lo hi w' cs (dmk q m) :=
  markG_own h fun fp ho hn => markDisk_o cs m q w fp ho hn hq0 hq

set_option maxHeartbeats 800000 in
theorem heldDisk_c (cs : List Value) (m : DiskD) (q : Int) (w : World) (h : diskC.V w cs (dmk q m)) (hq0 : 0 ≤ q) (hq : q + dcnt m ≤ 4611686018427387904) :
    Calls Try.prog 19 #[.agg cs.toArray, .int .i64 q] w fun e w' => e = .returned (.int .i64 (q + dcnt m)) ∧ Ext w w' := by
  obtain ⟨u, v, rfl, hu, hv⟩ := disk_V.1 h
  obtain ⟨rs, ws⟩ := m
  have hd : dcnt (rs, ws) = cntL rcnt rs + cntL wcnt ws := rfl
  rw [hd] at hq ⊢
  push_cast at hq ⊢
  simp only [dmk] at hu hv
  have H := Lib.hid (And.intro hu hv)
  clear hu hv h hd
  go_enter Try.func19, Try.ntmps19
  go_wp2_with fail
  refine (heldInt64SS_c _ rs _ _ (rowsC.vext H.out.1 (Ext.alloc _ _)) (by omega) (by omega)).mono ?_
  rintro e w1 ⟨rfl, hE⟩
  have c1 : w1.cell? ⟨w.heap.size, 1, none⟩ = some v := cell_ext (by simp [go_sem]) hE
  have hp : ¬ (q + (cntL rcnt rs : Int) < 0) := by omega
  go_wp2_with fail
  refine (heldWriteS_c _ ws _ _ (waitC.vext H.out.2 (by repeat (first | with_reducible exact Ext.refl _ | with_reducible assumption | with_reducible refine Ext.pAlloc ?_ _ | ((with_reducible refine Ext.pSet ?_ ?_ _); rotate_left; (simp <;> omega)) | with_reducible refine Ext.pDrew ?_ | with_reducible refine Ext.pDrewN ?_ _ | with_reducible refine Ext.trans ?_ (by with_reducible assumption)))) (by omega) (by omega)).mono ?_
  rintro e w2 ⟨rfl, hE2⟩
  have hp2 : ¬ (q + (cntL rcnt rs : Int) + (cntL wcnt ws : Int) < 0) := by omega
  go_wp2
  go_ret
  exact ⟨retI (by omega), by repeat (first | with_reducible exact Ext.refl _ | with_reducible assumption | with_reducible refine Ext.pAlloc ?_ _ | ((with_reducible refine Ext.pSet ?_ ?_ _); rotate_left; (simp <;> omega)) | with_reducible refine Ext.pDrew ?_ | with_reducible refine Ext.pDrewN ?_ _ | with_reducible refine Ext.trans ?_ (by with_reducible assumption))⟩

end Go.Proofs.Ytfakjcckgcgalaa
