/- A slice of messages without one of them. -/
import Derived.Test.YtjjeagblgjmcpaaNt5
set_option linter.unusedVariables false
set_option linter.unusedSimpArgs false
namespace Go.Sl
open Go.RowKit
/-- The first cells of a slice, cut to so much room. -/
theorem SlAt.pre {w : World} {n b off cap k : Nat} {x1 r : List Value} (h : SlAt w n (Option.some ⟨b, off, none⟩) cap (x1 ++ r)) (hk : k ≤ cap) (hx : x1.length = k * n) : SlAt w n (Option.some ⟨b, off, none⟩) k x1 := by
  rcases h with ⟨h, _⟩ | ⟨b', off', C, E, e, h1, h2, h3, h4⟩
  · cases h
  · cases e
    refine .inr ⟨b, off, C, E, rfl, h1, ?_, by omega, ?_⟩
    · have := Nat.mul_le_mul_right n hk; omega
    · have := congrArg (List.take x1.length) h4
      rw [List.take_take, List.take_left, List.length_append, Nat.min_eq_left (by omega)] at this
      exact this
/-- The cells behind the first ones. -/
theorem CellsAt.suf {w : World} {b off k : Nat} {x1 r : List Value} (h : CellsAt w (some ⟨b, off, none⟩) (x1 ++ r)) (hx : x1.length = k) : CellsAt w (some ⟨b, off + k, none⟩) r := by
  subst hx
  intro j u hj
  obtain ⟨b', off', e, hc⟩ := h (x1.length + j) u (by rw [List.getElem?_append_right (by omega), Nat.add_sub_cancel_left]; exact hj)
  cases e
  exact ⟨b, off + x1.length, rfl, by rw [Nat.add_assoc]; exact hc⟩
theorem CellsAt.pre {w : World} {a : Option Addr} {x1 r : List Value} (h : CellsAt w a (x1 ++ r)) : CellsAt w a x1 := fun j u hj =>
  h j u (by rw [List.getElem?_append_left (List.getElem?_eq_some_iff.1 hj).1]; exact hj)
theorem CellsAt.none' {w : World} {a : Option Addr} : CellsAt w a [] := fun j u hj => by simp at hj

section
variable {α : Type} {R : Cd α}
/-- An owned slice, parted at one of its elements. -/
theorem sl_parts {w : World} {v : Value} {l : List α} {fp : List Nat} {k : Nat} (hp : 0 < R.n) (h : (sliceC R).O w [v] l fp) (hk : k < l.length) (hn : fp.Nodup) :
    ∃ b off cap x1 c x2 f1 fx f2, v = .slice (some ⟨b, off, none⟩) l.length cap ∧ l.length ≤ cap ∧ cap ≤ 9223372036854775807 ∧ SlAt w R.n (some ⟨b, off, none⟩) cap (x1 ++ (c ++ x2)) ∧ elemsO (R.O w) x1 (l.take k) f1 ∧ R.O w c l[k] fx ∧ elemsO (R.O w) x2 (l.drop (k + 1)) f2 ∧
      fp = b :: (f1 ++ (fx ++ f2)) ∧ x1.length = k * R.n ∧ c.length = R.n ∧ x2.length = (l.length - (k + 1)) * R.n := by
  obtain ⟨a, cap, xs, fps, h1, h2, h3, h4, h5, h6⟩ := h
  simp only [List.cons.injEq, and_true] at h1
  have hsp : l = l.take k ++ l[k] :: l.drop (k + 1) := by rw [← List.drop_eq_getElem_cons hk, List.take_append_drop]
  rw [hsp] at h5
  obtain ⟨x1, y, f1, fy, rfl, rfl, he1, c, x2, fx, f2, rfl, rfl, hc, he2⟩ := (elemsO_append R).1 h5
  have hlx1 : x1.length = k * R.n := by rw [elemsV_len R (elemsO_view R he1), List.length_take, Nat.min_eq_left (by omega)]
  have hlc : c.length = R.n := R.len (R.view hc)
  have hlx2 : x2.length = (l.length - (k + 1)) * R.n := by rw [elemsV_len R (elemsO_view R he2), List.length_drop]
  have hpos : 0 < (x1 ++ (c ++ x2)).length := by rw [List.length_append, List.length_append]; omega
  obtain ⟨b, off, rfl⟩ := SlAt.some h4 hpos
  exact ⟨b, off, cap, x1, c, x2, f1, fx, f2, h1, h2, by simpa [maxLen] using h3, h4, he1, hc, he2, by rw [h6]; rfl, hlx1, hlc, hlx2⟩

/-- Elements whose cells lie in a slice of their own. -/
theorem join_els {lo hi lo2 hi2 n : Nat} {w w' : World} {a' : Option Addr} {cap' : Nat} {xs : List Value} {l : List α} {f : List Nat} (hs : SlAt w' R.n a' cap' xs) (he : elemsO (R.O w) xs l f) (hn : f.Nodup)
    (hb : ∀ b ∈ f, lo ≤ b ∧ b < hi) (hfr : ∀ b ∈ f, w'.heap[b]? = w.heap[b]?) (ha : ∀ b ∈ ablk a', ((lo ≤ b ∧ b < hi) ∨ (lo2 ≤ b ∧ b < hi2)) ∧ b ∉ f) (hl : n = l.length) (hc : n ≤ cap') (hm : cap' ≤ 9223372036854775807) :
    (sliceC R).own2 lo hi lo2 hi2 w' [.slice a' n cap'] l := by
  subst hl
  refine ⟨ablk a' ++ f, ⟨a', cap', xs, f, rfl, hc, by simpa [maxLen] using hm, hs, elemsO_frame R he hfr, rfl⟩, ?_, ?_⟩
  · rw [List.nodup_append]
    exact ⟨by cases a' <;> simp [ablk], hn, fun b hb' c hc' e => (ha b hb').2 (e ▸ hc')⟩
  · intro b hb'
    rcases List.mem_append.1 hb' with h | h
    · exact (ha b h).1
    · exact .inl (hb b h)
theorem elemsO_join {w : World} {x1 x2 : List Value} {l1 l2 : List α} {f1 f2 : List Nat} (h1 : elemsO (R.O w) x1 l1 f1) (h2 : elemsO (R.O w) x2 l2 f2) : elemsO (R.O w) (x1 ++ x2) (l1 ++ l2) (f1 ++ f2) :=
  (elemsO_append R).2 ⟨x1, x2, f1, f2, rfl, rfl, h1, h2⟩
theorem elemsO_one {w : World} {xs : List Value} {l : List α} {f : List Nat} (h : elemsO (R.O w) xs l f) : ∀ u ∈ xs, u.oneCell' = true := elemsV_one R (elemsO_view R h)
end
theorem AppW.of_drew {w w' : World} {a a' : Option Addr} (h : AppW w.drew w' a a') : AppW w w' a a' := ⟨h.os, h.tape, h.output, h.size, h.block, h.at_⟩
end Go.Sl
namespace Go.Proofs.Ytjjeagblgjmcpaa
open Go.RowKit Go.Sl

set_option maxHeartbeats 1600000 in
set_option maxRecDepth 20000 in
theorem without_c (b off cap n1 n2 : Nat) (x1 c x2 : List Value) (w : World) (hs : SlAt w 3 (some ⟨b, off, none⟩) cap (x1 ++ (c ++ x2))) (h1 : x1.length = n1 * 3) (hc : c.length = 3) (h2 : x2.length = n2 * 3) (ho : ∀ u ∈ x2, u.oneCell' = true)
    (hle : n1 + 1 + n2 ≤ cap) (hcap : cap ≤ 9223372036854775807) (h60 : n1 + 1 + n2 ≤ 60) :
    Calls Try.prog 30 #[.slice (some ⟨b, off, none⟩) (n1 + 1 + n2) cap, .int .i64 n1] w fun e w' => ∃ a' cap', e = .returned (.slice a' (n1 + n2) cap') ∧ SlAt w' 3 a' cap' (x1 ++ x2) ∧ n1 + n2 ≤ cap' ∧ cap' ≤ 9223372036854775807 ∧ AppW w w' (some ⟨b, off, none⟩) a' := by
  have HP := Lib.hid (hs.pre (k := n1) (by omega) h1)
  have hsf : CellsAt w (some ⟨b, off + (n1 + 1) * 3, none⟩) x2 := by
    have hcl := hs.cells
    rw [← List.append_assoc] at hcl
    have := hcl.suf (k := (n1 + 1) * 3) (by rw [List.length_append, h1, hc]; omega)
    exact this
  have HS := Lib.hid hsf
  have H1 := Lib.hid h1
  have H2 := Lib.hid (And.intro h2 ho)
  have hinf := Try.infoM
  have Hinf := Lib.hid hinf
  clear hinf hs hsf h1 hc h2 ho
  have hi1 : (0 : Int) ≤ n1 := by omega
  have hi2 : (n1 : Int) ≤ cap := by omega
  have hi3 : (n1 : Int) + 1 ≤ (n1 : Int) + 1 + n2 := by omega
  have hi4 : (n1 : Int) + 1 + n2 ≤ cap := by omega
  have hi5 : (0 : Int) ≤ (n1 : Int) + 1 := by omega
  have hi6 : (n1 : Int) ≤ (n1 : Int) + 1 := by omega
  have hw1 : IntKind.i64.wrap ((n1 : Int) + 1) = n1 + 1 := IntWalk.i64_in _ (by omega)
  by_cases hm : 0 < n2
  · have hne : ¬ (cap = n1 + 1) := by omega
    have hlt : n1 + 1 < cap := by omega
    go_enter Try.func30, Try.ntmps30
    go_wp2
    refine wp_region_T (S := fun _ => True) 9 (by kernel_rfl) trivial (fun hHeld => ?_) (by decide)
    refine wpT_take (i := 0) (v := ?_) rfl (by kernel_rfl) (by decide) (by kernel_rfl) (by kernel_rfl) (by kernel_rfl) (fun _ _ _ h => h) (Or.inl ⟨by rfl, ?_⟩) (by assumption) ?_
    rotate_left
    · intro w9 hSw; (try dsimp only at hSw); go_simp; (first | done | with_reducible rfl)
    (try simp only [List.getElem_toArray, List.getElem_cons_succ, List.getElem_cons_zero, Act.put, List.setIfInBounds_toArray, List.set_cons_zero, List.set_cons_succ])
    refine wpT_take (i := 1) (v := ?_) rfl (by kernel_rfl) (by decide) (by kernel_rfl) (by kernel_rfl) (by kernel_rfl) (fun _ _ _ h => h) (Or.inl ⟨by rfl, ?_⟩) (by assumption) ?_
    rotate_left
    · intro w9 hSw; (try dsimp only at hSw); go_simp; (first | done | with_reducible rfl)
    (try simp only [List.getElem_toArray, List.getElem_cons_succ, List.getElem_cons_zero, Act.put, List.setIfInBounds_toArray, List.set_cons_zero, List.set_cons_succ])
    refine wpT_take (i := 2) (v := ?_) rfl (by kernel_rfl) (by decide) (by kernel_rfl) (by kernel_rfl) (by kernel_rfl) (fun _ _ _ h => h) (Or.inl ⟨by rfl, ?_⟩) (by assumption) ?_
    rotate_left
    · intro w9 hSw; (try dsimp only at hSw); go_simp; (first | done | with_reducible rfl)
    (try simp only [List.getElem_toArray, List.getElem_cons_succ, List.getElem_cons_zero, Act.put, List.setIfInBounds_toArray, List.set_cons_zero, List.set_cons_succ])
    refine wpT_take (i := 3) (v := ?_) rfl (by kernel_rfl) (by decide) (by kernel_rfl) (by kernel_rfl) (by kernel_rfl) (fun _ _ _ h => h) (Or.inl ⟨by rfl, ?_⟩) (by assumption) ?_
    rotate_left
    · intro w9 hSw; (try dsimp only at hSw); go_simp; (first | done | with_reducible rfl)
    (try simp only [List.getElem_toArray, List.getElem_cons_succ, List.getElem_cons_zero, Act.put, List.setIfInBounds_toArray, List.set_cons_zero, List.set_cons_succ])
    refine wpT_take (i := 4) (v := ?_) rfl (by kernel_rfl) (by decide) (by kernel_rfl) (by kernel_rfl) (by kernel_rfl) (fun _ _ _ h => h) (Or.inl ⟨by rfl, ?_⟩) (by assumption) ?_
    rotate_left
    · intro w9 hSw; (try dsimp only at hSw); go_simp; (first | done | with_reducible rfl)
    (try simp only [List.getElem_toArray, List.getElem_cons_succ, List.getElem_cons_zero, Act.put, List.setIfInBounds_toArray, List.set_cons_zero, List.set_cons_succ])
    refine wpT_take (i := 5) (v := ?_) rfl (by kernel_rfl) (by decide) (by kernel_rfl) (by kernel_rfl) (by kernel_rfl) (fun _ _ _ h => h) (Or.inl ⟨by rfl, ?_⟩) (by assumption) ?_
    rotate_left
    · intro w9 hSw; (try dsimp only at hSw); go_simp; (first | done | with_reducible rfl)
    (try simp only [List.getElem_toArray, List.getElem_cons_succ, List.getElem_cons_zero, Act.put, List.setIfInBounds_toArray, List.set_cons_zero, List.set_cons_succ])
    refine wpT_take (i := 6) (v := ?_) rfl (by kernel_rfl) (by decide) (by kernel_rfl) (by kernel_rfl) (by kernel_rfl) (fun _ _ _ h => h) (Or.inl ⟨by rfl, ?_⟩) (by assumption) ?_
    rotate_left
    · intro w9 hSw; (try dsimp only at hSw); go_simp; (first | done | with_reducible rfl)
    (try simp only [List.getElem_toArray, List.getElem_cons_succ, List.getElem_cons_zero, Act.put, List.setIfInBounds_toArray, List.set_cons_zero, List.set_cons_succ])
    refine wpT_take (i := 7) (v := ?_) rfl (by kernel_rfl) (by decide) (by kernel_rfl) (by kernel_rfl) (by kernel_rfl) (fun _ _ _ h => h) (Or.inl ⟨by rfl, ?_⟩) (by assumption) ?_
    rotate_left
    · intro w9 hSw; (try dsimp only at hSw); go_simp; (first | done | with_reducible rfl)
    (try simp only [List.getElem_toArray, List.getElem_cons_succ, List.getElem_cons_zero, Act.put, List.setIfInBounds_toArray, List.set_cons_zero, List.set_cons_succ])
    refine wpT_step (i := 8) (by kernel_rfl) (by decide) rfl (fun K hK => ?_)
    rw [if_pos (by rfl)]
    refine opwp_append_sl _ _ _ (by rfl) 40 _ 3 40 Try.underlying27 Hinf.out (by rfl) _ n1 n1 x1 (by rfl) H1.out (SlAt.ext HP.out (Ext.drew _)) (Nat.le_refl _) (by omega) _ (n2) _ x2 (by rfl) H2.out.1 (HS.out.ext (Ext.drew _)) H2.out.2 (by omega) ?_
    intro a' cap' w1 hs1 hl1 hc1 hA1
    refine hK.out _ _ trivial (fun _ => ?_)
    clear hK K
    (try simp only [List.getElem_toArray, List.getElem_cons_succ, List.getElem_cons_zero, Act.put, List.setIfInBounds_toArray, List.set_cons_zero, List.set_cons_succ])
    refine wpT_last (by kernel_rfl) (by kernel_rfl) rfl (fun K hK => ?_)
    go_simp
    refine hK.out _ _ ?_
    clear hK K
    go_wp2
    go_ret
    exact ⟨a', cap', rfl, hs1, hl1, hc1, hA1.of_drew⟩
  · have hm0 : n2 = 0 := by omega
    subst hm0
    have hx2 : x2 = [] := List.eq_nil_of_length_eq_zero (by have := H2.out.1; omega)
    subst hx2
    by_cases hcc : cap = n1 + 1
    · subst hcc
      go_enter Try.func30, Try.ntmps30
      go_wp2
      refine wp_region_T (S := fun _ => True) 9 (by kernel_rfl) trivial (fun hHeld => ?_) (by decide)
      refine wpT_take (i := 0) (v := ?_) rfl (by kernel_rfl) (by decide) (by kernel_rfl) (by kernel_rfl) (by kernel_rfl) (fun _ _ _ h => h) (Or.inl ⟨by rfl, ?_⟩) (by assumption) ?_
      rotate_left
      · intro w9 hSw; (try dsimp only at hSw); go_simp; (first | done | with_reducible rfl)
      (try simp only [List.getElem_toArray, List.getElem_cons_succ, List.getElem_cons_zero, Act.put, List.setIfInBounds_toArray, List.set_cons_zero, List.set_cons_succ])
      refine wpT_take (i := 1) (v := ?_) rfl (by kernel_rfl) (by decide) (by kernel_rfl) (by kernel_rfl) (by kernel_rfl) (fun _ _ _ h => h) (Or.inl ⟨by rfl, ?_⟩) (by assumption) ?_
      rotate_left
      · intro w9 hSw; (try dsimp only at hSw); go_simp; (first | done | with_reducible rfl)
      (try simp only [List.getElem_toArray, List.getElem_cons_succ, List.getElem_cons_zero, Act.put, List.setIfInBounds_toArray, List.set_cons_zero, List.set_cons_succ])
      refine wpT_take (i := 2) (v := ?_) rfl (by kernel_rfl) (by decide) (by kernel_rfl) (by kernel_rfl) (by kernel_rfl) (fun _ _ _ h => h) (Or.inl ⟨by rfl, ?_⟩) (by assumption) ?_
      rotate_left
      · intro w9 hSw; (try dsimp only at hSw); go_simp; (first | done | with_reducible rfl)
      (try simp only [List.getElem_toArray, List.getElem_cons_succ, List.getElem_cons_zero, Act.put, List.setIfInBounds_toArray, List.set_cons_zero, List.set_cons_succ])
      refine wpT_take (i := 3) (v := ?_) rfl (by kernel_rfl) (by decide) (by kernel_rfl) (by kernel_rfl) (by kernel_rfl) (fun _ _ _ h => h) (Or.inl ⟨by rfl, ?_⟩) (by assumption) ?_
      rotate_left
      · intro w9 hSw; (try dsimp only at hSw); go_simp; (first | done | with_reducible rfl)
      (try simp only [List.getElem_toArray, List.getElem_cons_succ, List.getElem_cons_zero, Act.put, List.setIfInBounds_toArray, List.set_cons_zero, List.set_cons_succ])
      refine wpT_take (i := 4) (v := ?_) rfl (by kernel_rfl) (by decide) (by kernel_rfl) (by kernel_rfl) (by kernel_rfl) (fun _ _ _ h => h) (Or.inl ⟨by rfl, ?_⟩) (by assumption) ?_
      rotate_left
      · intro w9 hSw; (try dsimp only at hSw); go_simp; (first | done | with_reducible rfl)
      (try simp only [List.getElem_toArray, List.getElem_cons_succ, List.getElem_cons_zero, Act.put, List.setIfInBounds_toArray, List.set_cons_zero, List.set_cons_succ])
      refine wpT_take (i := 5) (v := ?_) rfl (by kernel_rfl) (by decide) (by kernel_rfl) (by kernel_rfl) (by kernel_rfl) (fun _ _ _ h => h) (Or.inl ⟨by rfl, ?_⟩) (by assumption) ?_
      rotate_left
      · intro w9 hSw; (try dsimp only at hSw); go_simp; (first | done | with_reducible rfl)
      (try simp only [List.getElem_toArray, List.getElem_cons_succ, List.getElem_cons_zero, Act.put, List.setIfInBounds_toArray, List.set_cons_zero, List.set_cons_succ])
      refine wpT_take (i := 6) (v := ?_) rfl (by kernel_rfl) (by decide) (by kernel_rfl) (by kernel_rfl) (by kernel_rfl) (fun _ _ _ h => h) (Or.inl ⟨by rfl, ?_⟩) (by assumption) ?_
      rotate_left
      · intro w9 hSw; (try dsimp only at hSw); go_simp; (first | done | with_reducible rfl)
      (try simp only [List.getElem_toArray, List.getElem_cons_succ, List.getElem_cons_zero, Act.put, List.setIfInBounds_toArray, List.set_cons_zero, List.set_cons_succ])
      refine wpT_take (i := 7) (v := ?_) rfl (by kernel_rfl) (by decide) (by kernel_rfl) (by kernel_rfl) (by kernel_rfl) (fun _ _ _ h => h) (Or.inl ⟨by rfl, ?_⟩) (by assumption) ?_
      rotate_left
      · intro w9 hSw; (try dsimp only at hSw); go_simp; (first | done | with_reducible rfl)
      (try simp only [List.getElem_toArray, List.getElem_cons_succ, List.getElem_cons_zero, Act.put, List.setIfInBounds_toArray, List.set_cons_zero, List.set_cons_succ])
      refine wpT_step (i := 8) (by kernel_rfl) (by decide) rfl (fun K hK => ?_)
      rw [if_pos (by rfl)]
      refine opwp_append_sl _ _ _ (by rfl) 40 _ 3 40 Try.underlying27 Hinf.out (by rfl) _ n1 n1 x1 (by rfl) H1.out (SlAt.ext HP.out (Ext.drew _)) (Nat.le_refl _) (by omega) _ (0) _ [] (by rfl) (by simp) CellsAt.none' (by simp) (by omega) ?_
      intro a' cap' w1 hs1 hl1 hc1 hA1
      refine hK.out _ _ trivial (fun _ => ?_)
      clear hK K
      (try simp only [List.getElem_toArray, List.getElem_cons_succ, List.getElem_cons_zero, Act.put, List.setIfInBounds_toArray, List.set_cons_zero, List.set_cons_succ])
      refine wpT_last (by kernel_rfl) (by kernel_rfl) rfl (fun K hK => ?_)
      go_simp
      refine hK.out _ _ ?_
      clear hK K
      go_wp2
      go_ret
      exact ⟨a', cap', rfl, hs1, hl1, hc1, hA1.of_drew⟩
    · have hlt : n1 + 1 < cap := by omega
      go_enter Try.func30, Try.ntmps30
      go_wp2
      refine wp_region_T (S := fun _ => True) 9 (by kernel_rfl) trivial (fun hHeld => ?_) (by decide)
      refine wpT_take (i := 0) (v := ?_) rfl (by kernel_rfl) (by decide) (by kernel_rfl) (by kernel_rfl) (by kernel_rfl) (fun _ _ _ h => h) (Or.inl ⟨by rfl, ?_⟩) (by assumption) ?_
      rotate_left
      · intro w9 hSw; (try dsimp only at hSw); go_simp; (first | done | with_reducible rfl)
      (try simp only [List.getElem_toArray, List.getElem_cons_succ, List.getElem_cons_zero, Act.put, List.setIfInBounds_toArray, List.set_cons_zero, List.set_cons_succ])
      refine wpT_take (i := 1) (v := ?_) rfl (by kernel_rfl) (by decide) (by kernel_rfl) (by kernel_rfl) (by kernel_rfl) (fun _ _ _ h => h) (Or.inl ⟨by rfl, ?_⟩) (by assumption) ?_
      rotate_left
      · intro w9 hSw; (try dsimp only at hSw); go_simp; (first | done | with_reducible rfl)
      (try simp only [List.getElem_toArray, List.getElem_cons_succ, List.getElem_cons_zero, Act.put, List.setIfInBounds_toArray, List.set_cons_zero, List.set_cons_succ])
      refine wpT_take (i := 2) (v := ?_) rfl (by kernel_rfl) (by decide) (by kernel_rfl) (by kernel_rfl) (by kernel_rfl) (fun _ _ _ h => h) (Or.inl ⟨by rfl, ?_⟩) (by assumption) ?_
      rotate_left
      · intro w9 hSw; (try dsimp only at hSw); go_simp; (first | done | with_reducible rfl)
      (try simp only [List.getElem_toArray, List.getElem_cons_succ, List.getElem_cons_zero, Act.put, List.setIfInBounds_toArray, List.set_cons_zero, List.set_cons_succ])
      refine wpT_take (i := 3) (v := ?_) rfl (by kernel_rfl) (by decide) (by kernel_rfl) (by kernel_rfl) (by kernel_rfl) (fun _ _ _ h => h) (Or.inl ⟨by rfl, ?_⟩) (by assumption) ?_
      rotate_left
      · intro w9 hSw; (try dsimp only at hSw); go_simp; (first | done | with_reducible rfl)
      (try simp only [List.getElem_toArray, List.getElem_cons_succ, List.getElem_cons_zero, Act.put, List.setIfInBounds_toArray, List.set_cons_zero, List.set_cons_succ])
      refine wpT_take (i := 4) (v := ?_) rfl (by kernel_rfl) (by decide) (by kernel_rfl) (by kernel_rfl) (by kernel_rfl) (fun _ _ _ h => h) (Or.inl ⟨by rfl, ?_⟩) (by assumption) ?_
      rotate_left
      · intro w9 hSw; (try dsimp only at hSw); go_simp; (first | done | with_reducible rfl)
      (try simp only [List.getElem_toArray, List.getElem_cons_succ, List.getElem_cons_zero, Act.put, List.setIfInBounds_toArray, List.set_cons_zero, List.set_cons_succ])
      refine wpT_take (i := 5) (v := ?_) rfl (by kernel_rfl) (by decide) (by kernel_rfl) (by kernel_rfl) (by kernel_rfl) (fun _ _ _ h => h) (Or.inl ⟨by rfl, ?_⟩) (by assumption) ?_
      rotate_left
      · intro w9 hSw; (try dsimp only at hSw); go_simp; (first | done | with_reducible rfl)
      (try simp only [List.getElem_toArray, List.getElem_cons_succ, List.getElem_cons_zero, Act.put, List.setIfInBounds_toArray, List.set_cons_zero, List.set_cons_succ])
      refine wpT_take (i := 6) (v := ?_) rfl (by kernel_rfl) (by decide) (by kernel_rfl) (by kernel_rfl) (by kernel_rfl) (fun _ _ _ h => h) (Or.inl ⟨by rfl, ?_⟩) (by assumption) ?_
      rotate_left
      · intro w9 hSw; (try dsimp only at hSw); go_simp; (first | done | with_reducible rfl)
      (try simp only [List.getElem_toArray, List.getElem_cons_succ, List.getElem_cons_zero, Act.put, List.setIfInBounds_toArray, List.set_cons_zero, List.set_cons_succ])
      refine wpT_take (i := 7) (v := ?_) rfl (by kernel_rfl) (by decide) (by kernel_rfl) (by kernel_rfl) (by kernel_rfl) (fun _ _ _ h => h) (Or.inl ⟨by rfl, ?_⟩) (by assumption) ?_
      rotate_left
      · intro w9 hSw; (try dsimp only at hSw); go_simp; (first | done | with_reducible rfl)
      (try simp only [List.getElem_toArray, List.getElem_cons_succ, List.getElem_cons_zero, Act.put, List.setIfInBounds_toArray, List.set_cons_zero, List.set_cons_succ])
      refine wpT_step (i := 8) (by kernel_rfl) (by decide) rfl (fun K hK => ?_)
      rw [if_pos (by rfl)]
      refine opwp_append_sl _ _ _ (by rfl) 40 _ 3 40 Try.underlying27 Hinf.out (by rfl) _ n1 n1 x1 (by rfl) H1.out (SlAt.ext HP.out (Ext.drew _)) (Nat.le_refl _) (by omega) _ (0) _ [] (by rfl) (by simp) CellsAt.none' (by simp) (by omega) ?_
      intro a' cap' w1 hs1 hl1 hc1 hA1
      refine hK.out _ _ trivial (fun _ => ?_)
      clear hK K
      (try simp only [List.getElem_toArray, List.getElem_cons_succ, List.getElem_cons_zero, Act.put, List.setIfInBounds_toArray, List.set_cons_zero, List.set_cons_succ])
      refine wpT_last (by kernel_rfl) (by kernel_rfl) rfl (fun K hK => ?_)
      go_simp
      refine hK.out _ _ ?_
      clear hK K
      go_wp2
      go_ret
      exact ⟨a', cap', rfl, hs1, hl1, hc1, hA1.of_drew⟩

end Go.Proofs.Ytjjeagblgjmcpaa
