/- slices.Insert of one link. -/
import Derived.Test.YtjjeagblgjmcpaaNt7b
import Derived.Test.YtjjeagblgjmcpaaIns
set_option linter.unusedVariables false
set_option linter.unusedSimpArgs false
namespace Go.Proofs.Ytjjeagblgjmcpaa
open Go.RowKit Go.Sl

theorem _root_.Go.Sl.SlAt.drew {w : World} {n cap : Nat} {a : Option Addr} {xs : List Value} (h : SlAt w n a cap xs) : SlAt w.drew n a cap xs := h
theorem wpList_append_runI {P : Program} (w : World) {ops : Array Oper} {rest : List Oper} {o : Oper} {a : Act} {Q : Exit → Act → World → Prop} (hgd : o.guard = none) (d s : Operand) (t t' : TypeId)
    (ho : o.op = .call { callee := .builtin .append, args := #[d, s], argTypes := #[t, t'] }) (v u : Value) (hd : a.eval d = v) (hs : a.eval s = u) {v' : Value} {w' : World}
    (hr : (Builtin.append_ #[t, t'] o.type #[v, u]).run P w = .ok v' w') (h : wpList P ops Q rest (a.put o.dst v') w') : wpList P ops Q (o :: rest) a w := by
  refine wpList_plain hgd fun K hK => ?_
  unfold Oper.wp execOp
  simp only [ho, resolve, invoke, builtin, Sem.run_bind, Sem.run_pure, Result.andThen_ok, List.map_toArray, List.map_cons, List.map_nil, hd, hs, hr]
  exact hK _ _ h
set_option maxHeartbeats 1600000 in
set_option maxRecDepth 20000 in
theorem linkInsert_end (a : Option Addr) (n cap g : Nat) (xs c : List Value) (w : World) (hs : SlAt w 2 a cap xs) (hl : xs.length = n * 2) (hn : n ≤ cap) (hcap : cap ≤ 9223372036854775807) (h60 : n ≤ 60)
    (hc : c.length = 2) (h1 : ∀ u ∈ c, u.oneCell' = true) (hg : CellsAt w (some ⟨g, 0, none⟩) c) :
    Calls Try.prog 23 #[.slice a n cap, .int .i64 n, .slice (some ⟨g, 0, none⟩) 1 1] w fun e w' => ∃ a' cap', e = .returned (.slice a' (n + 1) cap') ∧ SlAt w' 2 a' cap' (xs ++ c) ∧ n + 1 ≤ cap' ∧ cap' ≤ 9223372036854775807 ∧ AppW w w' a a' := by
  have Hs := Lib.hid hs; have Hl := Lib.hid hl; have Hc := Lib.hid (show c.length = 1 * 2 from hc); have H1 := Lib.hid h1; have Hg := Lib.hid hg; have Hinf := Lib.hid Try.infoL
  clear hs hl hc h1 hg
  have hi1 : (0 : Int) ≤ n := by omega
  have hi2 : (n : Int) ≤ cap := by omega
  have hbe : ((n : Int) == (n : Int)) = true := beq_self_eq_true _
  have ha : a = none ∨ ∃ b off, a = some ⟨b, off, none⟩ := by
    rcases Hs.out with ⟨h, _⟩ | ⟨b, off, C, E, h, _⟩
    · exact .inl h
    · exact .inr ⟨b, off, h⟩
  rcases ha with rfl | ⟨ab, ao, rfl⟩
  all_goals
    go_enter Try.func23, Try.ntmps23
    go_wp2_with (at_builtin; refine wpList_append_sl _ rfl _ _ _ rfl 53 _ 2 16 Try.underlying28 Hinf.out (by rfl) _ n cap xs rfl Hl.out Hs.out hn hcap _ 1 _ c rfl Hc.out Hg.out H1.out (by omega) ?_)
    all_goals
      intro a' cap' w' hs' hle hm hA
      go_wp2
      go_ret
      exact ⟨a', cap', rfl, hs', hle, hm, hA⟩
set_option maxHeartbeats 1600000 in
set_option maxRecDepth 20000 in
theorem linkInsert_grow (b off n cap k g : Nat) (x1 x2 c : List Value) (w : World) (hs : SlAt w 2 (some ⟨b, off, none⟩) cap (x1 ++ x2)) (h1 : x1.length = k * 2) (h2 : x2.length = (n - k) * 2) (hk : k < n) (hn : n ≤ cap) (hr : cap < n + 1) (h60 : n ≤ 60)
    (hc : c.length = 2) (ho1 : ∀ u ∈ c, u.oneCell' = true) (ho2 : ∀ u ∈ x2, u.oneCell' = true) (hg : CellsAt w (some ⟨g, 0, none⟩) c) :
    Calls Try.prog 23 #[.slice (some ⟨b, off, none⟩) n cap, .int .i64 k, .slice (some ⟨g, 0, none⟩) 1 1] w fun e w' => ∃ G, e = .returned (.slice (some ⟨w.heap.size, 0, none⟩) (n + 1) G) ∧ SlAt w' 2 (some ⟨w.heap.size, 0, none⟩) G (x1 ++ (c ++ x2)) ∧ n + 1 ≤ G ∧ G ≤ 9223372036854775807 ∧ Ext w w' ∧ w.heap.size < w'.heap.size := by
  have hinf := Try.infoL
  obtain ⟨i, hi, hz0, hsize, hby⟩ := info_parts hinf
  have hsz : (Try.prog.info? 53).map (·.size) = some 2 := by rw [hi]; simp [hsize]
  have hbw : b < w.heap.size := hs.lt b (by simp [ablk])
  have hx1 : CellsAt w (some ⟨b, off, none⟩) x1 := hs.cells.pre
  have hx2 : CellsAt w (some ⟨b, off + k * 2, none⟩) x2 := hs.cells.suf h1
  obtain ⟨G, z, hap, hG1, hG2, ⟨zs, hzl, hz⟩, hE, hlt⟩ := run_append_zeros_sl (P := Try.prog) w 28 3 28 53 i _ 2 16 .i64 .i64 Try.underlying28 Try.underlying3 hi hz0 hsize hby (by rfl) (some ⟨b, off, none⟩) k cap (n + 1 - k) x1 h1 hx1 (by omega) (by omega) (by omega) (by omega) (by omega)
  rw [show k + (n + 1 - k) = n + 1 by omega] at hap hG1
  rw [show ((n + 1 - k : Nat) : Int) = (n : Int) + 1 - k by omega] at hap
  generalize hH : w.heap.size = H at *
  obtain ⟨z1, hz1⟩ : ∃ z1, z1 = z.setCells H (0 + k * 2) c := ⟨_, rfl⟩
  have hcA : ∀ dc, (Builtin.copy_ #[28, 28] 3 #[.slice (some ⟨H, k * 2, none⟩) (n + 1 - k) dc, .slice (some ⟨g, 0, none⟩) 1 1]).run Try.prog z = .ok (goInt 1) z1 := fun dc => by
    have h9 := run_copy_sl (P := Try.prog) z 28 28 3 53 H 0 (k * 2) (n + 1 - k) dc ⟨g, 0, none⟩ 1 1 2 1 G (x1 ++ zs) c Try.underlying28 hsz (by simp only [Nat.min_def]; split <;> omega) (by omega) hz (by rw [List.length_append, h1, hc, hzl]; omega) (hg.ext hE) ho1
    rw [← hz1, Nat.zero_add] at h9
    exact h9
  have hS1 : SlAt z1 2 (some ⟨H, 0, none⟩) G (x1 ++ (c ++ zs.drop 2)) := by
    have h9 := SlAt.copied (j := k * 2) (vs := c) hz (by rw [List.length_append, h1, hc, hzl]; omega)
    rw [← hz1, List.take_left' h1, hc, List.drop_append, h1, List.drop_eq_nil_of_le (by omega), show k * 2 + 2 - k * 2 = 2 by omega] at h9
    simpa using h9
  have hE1 : Ext w z1 := Chg.ext hE (lo := H) (hi := H + 1) (by rw [hz1]; exact setCells_chg z H _ c) (by omega)
  have hlt1 : H < z1.heap.size := by rw [hz1, setCells_size]; exact hlt
  obtain ⟨z2, hz2⟩ : ∃ z2, z2 = z1.drew.setCells H (0 + (k + 1) * 2) x2 := ⟨_, rfl⟩
  have hcB : ∀ dc sc, (Builtin.copy_ #[28, 28] 3 #[.slice (some ⟨H, (k + 1) * 2, none⟩) (n - k) dc, .slice (some ⟨b, off + k * 2, none⟩) (n - k) sc]).run Try.prog z1.drew = .ok (goInt (n - k : Nat)) z2 := fun dc sc => by
    have h9 := run_copy_sl (P := Try.prog) z1.drew 28 28 3 53 H 0 ((k + 1) * 2) (n - k) dc ⟨b, off + k * 2, none⟩ (n - k) sc 2 (n - k) G (x1 ++ (c ++ zs.drop 2)) x2 Try.underlying28 hsz (by simp only [Nat.min_def]; split <;> omega) h2 hS1.drew (by simp only [List.length_append, List.length_drop, h1, h2, hc, hzl]; omega) ((hx2.ext hE1).drew) ho2
    rw [← hz2, Nat.zero_add] at h9
    exact h9
  have hS2 : SlAt z2 2 (some ⟨H, 0, none⟩) G (x1 ++ (c ++ x2)) := by
    have h9 := SlAt.copied (j := (k + 1) * 2) (vs := x2) hS1.drew (by simp only [List.length_append, List.length_drop, h1, h2, hc, hzl]; omega)
    rw [← hz2, ← List.append_assoc, List.take_left' (by rw [List.length_append, h1, hc]; omega), List.drop_eq_nil_of_le (by simp only [List.length_append, List.length_drop, h1, h2, hc, hzl]; omega)] at h9
    simpa using h9
  have hE2 : Ext w z2 := Chg.ext (hE1.trans (Ext.drew _)) (lo := H) (hi := H + 1) (by rw [hz2]; exact setCells_chg z1.drew H _ x2) (by omega)
  have hlt2 : H < z2.heap.size := by rw [hz2, setCells_size]; exact hlt1
  have HA := Lib.hid hap; have HCA := Lib.hid hcA; have HCB := Lib.hid hcB; have HS2 := Lib.hid (And.intro hS2 (And.intro hE2 hlt2)); have HH := Lib.hid hH
  clear hap hcA hcB hS2 hE2 hlt2 hH hz1 hz2 hS1 hE1 hlt1 hz hzl hE hlt hs h1 h2 hc ho1 ho2 hg hinf hi hz0 hsize hby hsz hx1 hx2
  have hi1 : (0 : Int) ≤ k := by omega
  have hi2 : (k : Int) ≤ cap := by omega
  have hi3 : (k : Int) ≤ n := by omega
  have hi4 : (0 : Int) ≤ (k : Int) + 1 := by omega
  have hi5 : (k : Int) + 1 ≤ (n : Int) + 1 := by omega
  have hi6 : (k : Int) ≤ (n : Int) + 1 := by omega
  have hi7 : (n : Int) + 1 ≤ G := by omega
  have hi8 : (n : Int) ≤ cap := by omega
  have hne : ((k : Int) == (n : Int)) = false := by rw [beq_eq_false_iff_ne]; omega
  have hgt : (cap : Int) < (n : Int) + 1 := by omega
  have hne1 : ¬ (G = k) := by omega
  have hne2 : ¬ (G = k + 1) := by omega
  have hne3 : ¬ (cap = k) := by omega
  have hw1 : IntKind.i64.wrap ((k : Int) + 1) = (k : Int) + 1 := IntWalk.i64_in _ (by omega)
  have htn : ((k : Int) + 1).toNat = k + 1 := by omega
  go_enter Try.func23, Try.ntmps23
  go_wp2_with (at_builtin; refine wpList_append_runI _ rfl _ _ 28 3 rfl _ _ rfl rfl HA.out ?_)
  rw [HCA.out]
  go_wp2
  refine wp_region_T (S := fun _ => True) 8 (by kernel_rfl) trivial (fun hHeld => ?_) (by decide)
  refine wpT_take (i := 0) (v := ?_) rfl (by kernel_rfl) (by decide) (by kernel_rfl) (by kernel_rfl) (by kernel_rfl) (fun _ _ _ h => h) (Or.inl ⟨by rfl, ?_⟩) (by assumption) ?_
  rotate_left
  · intro w9 hSw; (try dsimp only at hSw); go_simp; (first | done | with_reducible rfl)
  (try simp only [List.getElem_toArray, List.getElem_cons_succ, List.getElem_cons_zero, Act.put, List.setIfInBounds_toArray, List.set_cons_zero, List.set_cons_succ])
  refine wpT_take (i := 1) (v := ?_) rfl (by kernel_rfl) (by decide) (by kernel_rfl) (by kernel_rfl) (by kernel_rfl) (fun _ _ _ h => h) (Or.inl ⟨by rfl, ?_⟩) (by assumption) ?_
  rotate_left
  · intro w9 hSw; (try dsimp only at hSw); go_simp; (first | done | with_reducible rfl)
  (try simp only [List.getElem_toArray, List.getElem_cons_succ, List.getElem_cons_zero, Act.put, List.setIfInBounds_toArray, List.set_cons_zero, List.set_cons_succ])
  refine wpT_take (i := 2) (v := ?_) rfl (by kernel_rfl) (by decide) (by kernel_rfl) (by kernel_rfl) (by kernel_rfl) (fun _ _ _ h => h) (Or.inl ⟨by rfl, ?_⟩) (by assumption) ?_
  rotate_left
  · intro w9 hSw; (try dsimp only at hSw); go_simp; (first | done | with_reducible rfl)
  (try simp only [List.getElem_toArray, List.getElem_cons_succ, List.getElem_cons_zero, Act.put, List.setIfInBounds_toArray, List.set_cons_zero, List.set_cons_succ])
  refine wpT_take (i := 3) (v := ?_) rfl (by kernel_rfl) (by decide) (by kernel_rfl) (by kernel_rfl) (by kernel_rfl) (fun _ _ _ h => h) (Or.inl ⟨by rfl, ?_⟩) (by assumption) ?_
  rotate_left
  · intro w9 hSw; (try dsimp only at hSw); go_simp; (first | done | with_reducible rfl)
  (try simp only [List.getElem_toArray, List.getElem_cons_succ, List.getElem_cons_zero, Act.put, List.setIfInBounds_toArray, List.set_cons_zero, List.set_cons_succ])
  refine wpT_take (i := 4) (v := ?_) rfl (by kernel_rfl) (by decide) (by kernel_rfl) (by kernel_rfl) (by kernel_rfl) (fun _ _ _ h => h) (Or.inl ⟨by rfl, ?_⟩) (by assumption) ?_
  rotate_left
  · intro w9 hSw; (try dsimp only at hSw); go_simp; (first | done | with_reducible rfl)
  (try simp only [List.getElem_toArray, List.getElem_cons_succ, List.getElem_cons_zero, Act.put, List.setIfInBounds_toArray, List.set_cons_zero, List.set_cons_succ])
  refine wpT_take (i := 5) (v := ?_) rfl (by kernel_rfl) (by decide) (by kernel_rfl) (by kernel_rfl) (by kernel_rfl) (fun _ _ _ h => h) (Or.inl ⟨by rfl, ?_⟩) (by assumption) ?_
  rotate_left
  · intro w9 hSw; (try dsimp only at hSw); go_simp; (first | done | with_reducible rfl)
  (try simp only [List.getElem_toArray, List.getElem_cons_succ, List.getElem_cons_zero, Act.put, List.setIfInBounds_toArray, List.set_cons_zero, List.set_cons_succ])
  refine wpT_take (i := 6) (v := ?_) rfl (by kernel_rfl) (by decide) (by kernel_rfl) (by kernel_rfl) (by kernel_rfl) (fun _ _ _ h => h) (Or.inl ⟨by rfl, ?_⟩) (by assumption) ?_
  rotate_left
  · intro w9 hSw; (try dsimp only at hSw); go_simp; (first | done | with_reducible rfl)
  (try simp only [List.getElem_toArray, List.getElem_cons_succ, List.getElem_cons_zero, Act.put, List.setIfInBounds_toArray, List.set_cons_zero, List.set_cons_succ])
  refine wpT_take (i := 7) (v := ?_) rfl (by kernel_rfl) (by decide) (by kernel_rfl) (by kernel_rfl) (by kernel_rfl) (fun _ _ _ h => h) (Or.inl ⟨by rfl, ?_⟩) (by assumption) ?_
  rotate_left
  · intro w9 hSw; (try dsimp only at hSw); go_simp; (first | done | with_reducible rfl)
  (try simp only [List.getElem_toArray, List.getElem_cons_succ, List.getElem_cons_zero, Act.put, List.setIfInBounds_toArray, List.set_cons_zero, List.set_cons_succ])
  refine wpT_last (by kernel_rfl) (by kernel_rfl) rfl (fun K hK => ?_)
  rw [if_pos (by rfl)]
  refine opwp_copy_run _ _ 28 28 (by rfl) _ _ (by rfl) (by rfl) (HCB.out _ _) ?_
  refine hK.out _ _ ?_
  clear hK K
  go_wp2
  go_ret
  exact ⟨G, rfl, HS2.out.1, hG1, hG2, HS2.out.2.1, HS2.out.2.2⟩
set_option maxHeartbeats 1600000 in
set_option maxRecDepth 20000 in
theorem linkInsert_shift (b off n cap k g : Nat) (x1 x2 c : List Value) (w : World) (hs : SlAt w 2 (some ⟨b, off, none⟩) cap (x1 ++ x2)) (h1 : x1.length = k * 2) (h2 : x2.length = (n - k) * 2) (hk : k < n) (hn : n + 1 ≤ cap) (hcap : cap ≤ 9223372036854775807) (h60 : n ≤ 60)
    (hc : c.length = 2) (ho1 : ∀ u ∈ c, u.oneCell' = true) (ho2 : ∀ u ∈ x2, u.oneCell' = true) (hg : Bx w g c) (hne : g ≠ b) :
    Calls Try.prog 23 #[.slice (some ⟨b, off, none⟩) n cap, .int .i64 k, .slice (some ⟨g, 0, none⟩) 1 1] w fun e w' => e = .returned (.slice (some ⟨b, off, none⟩) (n + 1) cap) ∧ SlAt w' 2 (some ⟨b, off, none⟩) cap (x1 ++ (c ++ x2)) ∧ Chg b (b + 1) w w' := by
  have hinf := Try.infoL
  obtain ⟨i, hi, hz0, hsize, hby⟩ := info_parts hinf
  have hsz : (Try.prog.info? 53).map (·.size) = some 2 := by rw [hi]; simp [hsize]
  obtain ⟨r, hrl, hs'⟩ := hs.more 2 (by rw [List.length_append, h1, h2]; omega)
  rw [List.append_assoc] at hs'
  have hx2 : CellsAt w (some ⟨b, off + k * 2, none⟩) x2 := hs.cells.suf h1
  have hgc : CellsAt w (some ⟨g, 0, none⟩) c := fun j u hj => ⟨g, 0, rfl, by rw [Nat.zero_add]; exact hg.cell j u hj⟩
  obtain ⟨z1, hz1⟩ : ∃ z1, z1 = w.drew.setCells b (off + (k + 1) * 2) x2 := ⟨_, rfl⟩
  have hcA : ∀ dc sc, (Builtin.copy_ #[28, 28] 3 #[.slice (some ⟨b, off + (k + 1) * 2, none⟩) (n - k) dc, .slice (some ⟨b, off + k * 2, none⟩) (n + 1 - k) sc]).run Try.prog w.drew = .ok (goInt (n - k : Nat)) z1 := fun dc sc => by
    have h9 := run_copy_sl (P := Try.prog) w.drew 28 28 3 53 b off ((k + 1) * 2) (n - k) dc ⟨b, off + k * 2, none⟩ (n + 1 - k) sc 2 (n - k) cap (x1 ++ (x2 ++ r)) x2 Try.underlying28 hsz (by simp only [Nat.min_def]; split <;> omega) h2 hs'.drew (by simp only [List.length_append, h1, h2, hrl]; omega) hx2.drew ho2
    rw [← hz1] at h9
    exact h9
  have hS1 : SlAt z1 2 (some ⟨b, off, none⟩) cap (x1 ++ ((x2 ++ r).take 2 ++ x2)) := by
    have h9 := SlAt.copied (j := (k + 1) * 2) (vs := x2) hs'.drew (by simp only [List.length_append, h1, h2, hrl]; omega)
    rw [← hz1, List.take_append, h1, List.take_of_length_le (by omega), show (k + 1) * 2 - k * 2 = 2 by omega, List.drop_eq_nil_of_le (by simp only [List.length_append, h1, h2, hrl]; omega)] at h9
    simpa using h9
  have hC1 : Chg b (b + 1) w z1 := ((Ext.drew w).chg _ _).trans (by rw [hz1]; exact setCells_chg w.drew b _ x2)
  have htl : ((x2 ++ r).take 2).length = 2 := by simp only [List.length_take, List.length_append, h2, hrl]; omega
  obtain ⟨z2, hz2⟩ : ∃ z2, z2 = z1.setCells b (off + k * 2) c := ⟨_, rfl⟩
  have hcB : ∀ dc, (Builtin.copy_ #[28, 28] 3 #[.slice (some ⟨b, off + k * 2, none⟩) (n + 1 - k) dc, .slice (some ⟨g, 0, none⟩) 1 1]).run Try.prog z1 = .ok (goInt 1) z2 := fun dc => by
    have h9 := run_copy_sl (P := Try.prog) z1 28 28 3 53 b off (k * 2) (n + 1 - k) dc ⟨g, 0, none⟩ 1 1 2 1 cap (x1 ++ ((x2 ++ r).take 2 ++ x2)) c Try.underlying28 hsz (by simp only [Nat.min_def]; split <;> omega) (by omega) hS1 (by simp only [List.length_append, h1, h2, htl, hc]; omega) (CellsAt.chg_ hgc hC1 (by simp [ablk]; omega)) ho1
    rw [← hz2] at h9
    exact h9
  have hS2 : SlAt z2 2 (some ⟨b, off, none⟩) cap (x1 ++ (c ++ x2)) := by
    have h9 := SlAt.copied (j := k * 2) (vs := c) hS1 (by simp only [List.length_append, h1, h2, htl, hc]; omega)
    rw [← hz2, List.take_left' h1, hc, ← List.append_assoc x1, List.drop_left' (by rw [List.length_append, h1, htl])] at h9
    simpa using h9
  have hC2 : Chg b (b + 1) w z2 := hC1.trans (by rw [hz2]; exact setCells_chg z1 b _ c)
  have hov : ∀ lb cb, (callFunc 33 #[.slice (some ⟨g, 0, none⟩) 1 1, .slice (some ⟨b, off + (k + 1) * 2, none⟩) lb cb]).run Try.prog w = .ok (.value (.bool false)) w := fun lb cb => by
    obtain ⟨E1, hE1⟩ := hg
    rcases hs with ⟨h, _⟩ | ⟨b', off', C, E2, e, hb1, hb2, hb3, hb4⟩
    · cases h
    cases e
    rw [run_callFunc_extern Try.func33 (by kernel_rfl) (by kernel_rfl) (by kernel_rfl) (e := Extern.SlicesOverlaps.overlaps #[28, 28] #[4]) (by kernel_rfl),
      Lib.run_overlaps_apart w 28 4 53 Try.underlying28 2 Try.sizeOf53 ⟨g, 0, none⟩ ⟨b, off + (k + 1) * 2, none⟩ 1 1 lb cb hne E1 E2 c.toArray.size C.size (by simp [World.shape?, hE1]) (by simp [World.shape?, hb1]) (by omega) (unfrozen hE1) (unfrozen hE1)]
    rfl
  have HO := Lib.hid hov; have HCA := Lib.hid hcA; have HCB := Lib.hid hcB; have HS2 := Lib.hid (And.intro hS2 hC2)
  clear hov hcA hcB hS2 hC2 hz1 hz2 hS1 hC1 htl hrl hs' hs h1 h2 hc ho1 ho2 hg hgc hinf hi hz0 hsize hby hsz hx2
  have hi1 : (0 : Int) ≤ k := by omega
  have hi2 : (k : Int) ≤ cap := by omega
  have hi3 : (k : Int) ≤ n := by omega
  have hi4 : (0 : Int) ≤ (k : Int) + 1 := by omega
  have hi5 : (k : Int) + 1 ≤ (n : Int) + 1 := by omega
  have hi6 : (k : Int) ≤ (n : Int) + 1 := by omega
  have hi7 : (n : Int) + 1 ≤ cap := by omega
  have hi8 : (n : Int) ≤ cap := by omega
  have hne0 : ((k : Int) == (n : Int)) = false := by rw [beq_eq_false_iff_ne]; omega
  have hgt : ¬ (cap : Int) < (n : Int) + 1 := by omega
  have hne2 : ¬ (cap = k + 1) := by omega
  have hne3 : ¬ (cap = k) := by omega
  have hw1 : IntKind.i64.wrap ((k : Int) + 1) = (k : Int) + 1 := IntWalk.i64_in _ (by omega)
  have htn : ((k : Int) + 1).toNat = k + 1 := by omega
  go_enter Try.func23, Try.ntmps23
  go_wp2_with (simp only [HO.out])
  refine wp_region_T (S := fun _ => True) 8 (by kernel_rfl) trivial (fun hHeld => ?_) (by decide)
  refine wpT_take (i := 0) (v := ?_) rfl (by kernel_rfl) (by decide) (by kernel_rfl) (by kernel_rfl) (by kernel_rfl) (fun _ _ _ h => h) (Or.inl ⟨by rfl, ?_⟩) (by assumption) ?_
  rotate_left
  · intro w9 hSw; (try dsimp only at hSw); go_simp; (first | done | with_reducible rfl)
  (try simp only [List.getElem_toArray, List.getElem_cons_succ, List.getElem_cons_zero, Act.put, List.setIfInBounds_toArray, List.set_cons_zero, List.set_cons_succ])
  refine wpT_take (i := 1) (v := ?_) rfl (by kernel_rfl) (by decide) (by kernel_rfl) (by kernel_rfl) (by kernel_rfl) (fun _ _ _ h => h) (Or.inl ⟨by rfl, ?_⟩) (by assumption) ?_
  rotate_left
  · intro w9 hSw; (try dsimp only at hSw); go_simp; (first | done | with_reducible rfl)
  (try simp only [List.getElem_toArray, List.getElem_cons_succ, List.getElem_cons_zero, Act.put, List.setIfInBounds_toArray, List.set_cons_zero, List.set_cons_succ])
  refine wpT_take (i := 2) (v := ?_) rfl (by kernel_rfl) (by decide) (by kernel_rfl) (by kernel_rfl) (by kernel_rfl) (fun _ _ _ h => h) (Or.inl ⟨by rfl, ?_⟩) (by assumption) ?_
  rotate_left
  · intro w9 hSw; (try dsimp only at hSw); go_simp; (first | done | with_reducible rfl)
  (try simp only [List.getElem_toArray, List.getElem_cons_succ, List.getElem_cons_zero, Act.put, List.setIfInBounds_toArray, List.set_cons_zero, List.set_cons_succ])
  refine wpT_take (i := 3) (v := ?_) rfl (by kernel_rfl) (by decide) (by kernel_rfl) (by kernel_rfl) (by kernel_rfl) (fun _ _ _ h => h) (Or.inl ⟨by rfl, ?_⟩) (by assumption) ?_
  rotate_left
  · intro w9 hSw; (try dsimp only at hSw); go_simp; (first | done | with_reducible rfl)
  (try simp only [List.getElem_toArray, List.getElem_cons_succ, List.getElem_cons_zero, Act.put, List.setIfInBounds_toArray, List.set_cons_zero, List.set_cons_succ])
  refine wpT_take (i := 4) (v := ?_) rfl (by kernel_rfl) (by decide) (by kernel_rfl) (by kernel_rfl) (by kernel_rfl) (fun _ _ _ h => h) (Or.inl ⟨by rfl, ?_⟩) (by assumption) ?_
  rotate_left
  · intro w9 hSw; (try dsimp only at hSw); go_simp; (first | done | with_reducible rfl)
  (try simp only [List.getElem_toArray, List.getElem_cons_succ, List.getElem_cons_zero, Act.put, List.setIfInBounds_toArray, List.set_cons_zero, List.set_cons_succ])
  refine wpT_take (i := 5) (v := ?_) rfl (by kernel_rfl) (by decide) (by kernel_rfl) (by kernel_rfl) (by kernel_rfl) (fun _ _ _ h => h) (Or.inl ⟨by rfl, ?_⟩) (by assumption) ?_
  rotate_left
  · intro w9 hSw; (try dsimp only at hSw); go_simp; (first | done | with_reducible rfl)
  (try simp only [List.getElem_toArray, List.getElem_cons_succ, List.getElem_cons_zero, Act.put, List.setIfInBounds_toArray, List.set_cons_zero, List.set_cons_succ])
  refine wpT_take (i := 6) (v := ?_) rfl (by kernel_rfl) (by decide) (by kernel_rfl) (by kernel_rfl) (by kernel_rfl) (fun _ _ _ h => h) (Or.inl ⟨by rfl, ?_⟩) (by assumption) ?_
  rotate_left
  · intro w9 hSw; (try dsimp only at hSw); go_simp; (first | done | with_reducible rfl)
  (try simp only [List.getElem_toArray, List.getElem_cons_succ, List.getElem_cons_zero, Act.put, List.setIfInBounds_toArray, List.set_cons_zero, List.set_cons_succ])
  refine wpT_take (i := 7) (v := ?_) rfl (by kernel_rfl) (by decide) (by kernel_rfl) (by kernel_rfl) (by kernel_rfl) (fun _ _ _ h => h) (Or.inl ⟨by rfl, ?_⟩) (by assumption) ?_
  rotate_left
  · intro w9 hSw; (try dsimp only at hSw); go_simp; (first | done | with_reducible rfl)
  (try simp only [List.getElem_toArray, List.getElem_cons_succ, List.getElem_cons_zero, Act.put, List.setIfInBounds_toArray, List.set_cons_zero, List.set_cons_succ])
  refine wpT_last (by kernel_rfl) (by kernel_rfl) rfl (fun K hK => ?_)
  rw [if_pos (by rfl)]
  refine opwp_copy_run _ _ 28 28 (by rfl) _ _ (by rfl) (by rfl) (HCA.out _ _) ?_
  refine hK.out _ _ ?_
  clear hK K
  go_wp2
  rw [HCB.out]
  go_wp2
  go_ret
  exact ⟨rfl, HS2.out.1, HS2.out.2⟩
end Go.Proofs.Ytjjeagblgjmcpaa
