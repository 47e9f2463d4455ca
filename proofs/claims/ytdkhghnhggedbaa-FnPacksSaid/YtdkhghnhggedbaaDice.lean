/- Dice: generators. -/
import Derived.Test.YtdkhghnhggedbaaRow2
set_option linter.unusedVariables false
set_option linter.unusedSimpArgs false
namespace Go.Proofs.Ytdkhghnhggedbaa
open Go.RowKit Go.Sl

def diceOk (s : Int) : Bool := inB s 0 999999936
def stepD (s : Int) : Int := (48271 * s + 11) % 999999937
def rolled (s : Int) : Int × Int := if diceOk s then (stepD s, stepD s) else (0, 0)
def under (s n : Int) : Int × Int := if diceOk s then (if inB n 1 1000000000 then (stepD s, stepD s % n) else (s, 0)) else (0, 0)
abbrev dice (s : Int) : Value := .agg #[.int .i64 s]

theorem diceOk_bd {s : Int} (h : diceOk s = true) : 0 ≤ s ∧ s ≤ 999999936 := inB_bd h
theorem stepD_bd (s : Int) : 0 ≤ stepD s ∧ stepD s ≤ 999999936 := by unfold stepD; omega
theorem stepD_ok (s : Int) : diceOk (stepD s) = true := by have := stepD_bd s; simp [diceOk, inB]; omega

set_option maxHeartbeats 400000 in
theorem implDiceOk_c (s : Int) (w : World) : Calls Try.prog 36 #[dice s] w fun e w' => e = .returned (.bool (diceOk s)) ∧ Ext w w' := by
  go_enter Try.func36, Try.ntmps36
  go_wp2_with (go_at_call 50; refine (between_c _ _ _ _).mono ?_; rintro e w' ⟨rfl, rfl⟩)
  go_ret
  exact ⟨rfl, Ext.alloc _ _⟩

set_option maxHeartbeats 400000 in
theorem specDiceOk_c (s : Int) (w : World) : Calls Try.prog 35 #[dice s] w fun e w' => e = .returned (.bool (diceOk s)) ∧ Ext w w' := by
  go_enter Try.func35, Try.ntmps35
  go_wp2_with (go_at_call 48; refine (l1In_c _ _ _ _).mono ?_; rintro e w' ⟨rfl, rfl⟩)
  go_ret
  exact ⟨rfl, Ext.alloc _ _⟩

set_option maxHeartbeats 400000 in
theorem toDice_c (s : Int) (w : World) : Calls Try.prog 13 #[dice s] w fun e w' => e = .returned (dice s) ∧ Ext w w' := by
  go_enter Try.func13, Try.ntmps13
  go_wp2
  refine bodyPost_ret (v := dice s) (by simp [results, Try.results13, go_sem]) rfl ⟨rfl, ?_⟩
  repeat (first | with_reducible exact Ext.refl _ | with_reducible assumption | with_reducible refine Ext.pAlloc ?_ _ | ((with_reducible refine Ext.pSet ?_ ?_ _); rotate_left; (simp <;> omega)) | with_reducible refine Ext.pDrew ?_ | with_reducible refine Ext.pDrewN ?_ _ | with_reducible refine Ext.trans ?_ (by with_reducible assumption))

set_option maxHeartbeats 400000 in
theorem eqDice_c (s t : Int) (w : World) : Calls Try.prog 15 #[dice s, dice t] w fun e w' => e = .returned (.bool (decide (s = t))) ∧ Ext w w' := by
  go_enter Try.func15, Try.ntmps15
  by_cases h : s = t
  · have hn : (s != t) = false := by rw [bne_eq_false_iff_eq]; exact h
    have H := Lib.hid h; clear h
    go_wp2
    go_ret
    exact ⟨retB (by rw [H.out]; simp), by repeat (first | with_reducible exact Ext.refl _ | with_reducible assumption | with_reducible refine Ext.pAlloc ?_ _ | ((with_reducible refine Ext.pSet ?_ ?_ _); rotate_left; (simp <;> omega)) | with_reducible refine Ext.pDrew ?_ | with_reducible refine Ext.pDrewN ?_ _ | with_reducible refine Ext.trans ?_ (by with_reducible assumption))⟩
  · have hn : (s != t) = true := by rw [bne_iff_ne]; exact h
    have H := Lib.hid h; clear h
    go_wp2
    go_ret
    exact ⟨retB (by symm; rw [decide_eq_false_iff_not]; exact H.out), by repeat (first | with_reducible exact Ext.refl _ | with_reducible assumption | with_reducible refine Ext.pAlloc ?_ _ | ((with_reducible refine Ext.pSet ?_ ?_ _); rotate_left; (simp <;> omega)) | with_reducible refine Ext.pDrew ?_ | with_reducible refine Ext.pDrewN ?_ _ | with_reducible refine Ext.trans ?_ (by with_reducible assumption))⟩

set_option maxHeartbeats 400000 in
theorem specRolled_c (s : Int) (w : World) : Calls Try.prog 70 #[dice s] w fun e w' => e = .returned (.tuple #[dice (rolled s).1, .int .i64 (rolled s).2]) ∧ Ext w w' := by
  cases hd : diceOk s
  · have hr : rolled s = (0, 0) := by simp [rolled, hd]
    rw [hr]; have Hr := Lib.hid hr; clear hr
    go_enter Try.func70, Try.ntmps70
    go_wp2_with (go_at_call 35; refine (specDiceOk_c _ _).mono ?_; rintro e w' ⟨rfl, hE⟩; obtain ⟨hc, hf, hz⟩ := hE.rules)
    refine bodyPost_ret (v := .tuple #[dice 0, .int .i64 0]) (by simp [results, Try.results70, go_sem, hc]) rfl ⟨rfl, ?_⟩
    repeat (first | with_reducible exact Ext.refl _ | with_reducible assumption | with_reducible refine Ext.pAlloc ?_ _ | ((with_reducible refine Ext.pSet ?_ ?_ _); rotate_left; (simp <;> omega)) | with_reducible refine Ext.pDrew ?_ | with_reducible refine Ext.pDrewN ?_ _ | with_reducible refine Ext.trans ?_ (by with_reducible assumption))
  · have hr : rolled s = (stepD s, stepD s) := by simp [rolled, hd]
    rw [hr]; have Hr := Lib.hid hr; clear hr
    obtain ⟨hb1, hb2⟩ := diceOk_bd hd
    have hst := Lib.hid (show stepD s = (48271 * s + 11) % 999999937 from rfl)
    go_enter Try.func70, Try.ntmps70
    go_wp2_with (go_at_call 35; refine (specDiceOk_c _ _).mono ?_; rintro e w' ⟨rfl, hE⟩; obtain ⟨hc, hf, hz⟩ := hE.rules)
    refine bodyPost_ret (v := .tuple #[dice (stepD s), .int .i64 (stepD s)]) (by simp [results, Try.results70, go_sem, hc, stepD]) rfl ⟨rfl, ?_⟩
    repeat (first | with_reducible exact Ext.refl _ | with_reducible assumption | with_reducible refine Ext.pAlloc ?_ _ | ((with_reducible refine Ext.pSet ?_ ?_ _); rotate_left; (simp <;> omega)) | with_reducible refine Ext.pDrew ?_ | with_reducible refine Ext.pDrewN ?_ _ | with_reducible refine Ext.trans ?_ (by with_reducible assumption))

set_option maxHeartbeats 400000 in
theorem drawer_c (s : Int) (w : World) : Calls Try.prog 51 #[dice s] w fun e w' => ∃ b, e = .returned (.tuple #[.func (.func 71) #[] #[.pointer (some ⟨b, 0, none⟩)], .func (.func 72) #[] #[.pointer (some ⟨b, 0, none⟩)]]) ∧ Ext w w' ∧
    w.heap.size ≤ b ∧ b < w'.heap.size ∧ w'.cell? ⟨b, 0, none⟩ = some (.int .i64 s) ∧ w'.frozen? ⟨b, 0, none⟩ = false := by
  go_enter Try.func51, Try.ntmps51
  go_wp2
  go_ret2
  refine ⟨_, rfl, ?_, ?_, ?_, ?_, ?_⟩
  · repeat (first | with_reducible exact Ext.refl _ | with_reducible assumption | with_reducible refine Ext.pAlloc ?_ _ | ((with_reducible refine Ext.pSet ?_ ?_ _); rotate_left; (simp <;> omega)) | with_reducible refine Ext.pDrew ?_ | with_reducible refine Ext.pDrewN ?_ _ | with_reducible refine Ext.trans ?_ (by with_reducible assumption))
  all_goals simp

set_option maxHeartbeats 400000 in
theorem draw_c (n s : Int) (b : Nat) (w : World) (hc : w.cell? ⟨b, 0, none⟩ = some (.int .i64 s)) (hf : w.frozen? ⟨b, 0, none⟩ = false) (h1 : 0 ≤ s) (h2 : s ≤ 999999936) (hn : 1 ≤ n) :
    Calls Try.prog 71 #[.int .i64 n, .pointer (some ⟨b, 0, none⟩)] w fun e w' => e = .returned (.int .i64 (stepD s % n)) ∧ w' = w.setCell ⟨b, 0, none⟩ (.int .i64 (stepD s)) := by
  have hst := Lib.hid (show stepD s = (48271 * s + 11) % 999999937 from rfl)
  have hn0 : (n == 0) = false := by rw [beq_eq_false_iff_ne]; omega
  go_enter Try.func71, Try.ntmps71
  go_wp2
  go_ret
  exact ⟨retI (by rw [hst.out]), by rw [hst.out]⟩

set_option maxHeartbeats 400000 in
theorem now_c (s : Int) (b : Nat) (w : World) (hc : w.cell? ⟨b, 0, none⟩ = some (.int .i64 s)) :
    Calls Try.prog 72 #[.pointer (some ⟨b, 0, none⟩)] w fun e w' => e = .returned (dice s) ∧ Ext w w' := by
  have hb := World.block_lt_of_cell? w _ hc
  simp only at hb
  go_enter Try.func72, Try.ntmps72
  go_wp2
  refine bodyPost_ret (v := dice s) (by simp [results, Try.results72, go_sem]) rfl ⟨rfl, ?_⟩
  repeat (first | with_reducible exact Ext.refl _ | with_reducible assumption | with_reducible refine Ext.pAlloc ?_ _ | ((with_reducible refine Ext.pSet ?_ ?_ _); rotate_left; (simp <;> omega)) | with_reducible refine Ext.pDrew ?_ | with_reducible refine Ext.pDrewN ?_ _ | with_reducible refine Ext.trans ?_ (by with_reducible assumption))




set_option maxHeartbeats 800000 in
theorem specUnder_c (s n : Int) (w : World) : Calls Try.prog 49 #[dice s, .int .i64 n] w fun e w' => e = .returned (.tuple #[dice (under s n).1, .int .i64 (under s n).2]) ∧ Ext w w' := by
  cases hd : diceOk s
  · have hr : under s n = (0, 0) := by simp [under, hd]
    rw [hr]; have Hr := Lib.hid hr; clear hr
    go_enter Try.func49, Try.ntmps49
    go_wp2_with (go_at_call 35; refine (specDiceOk_c _ _).mono ?_; rintro e w' ⟨rfl, hE⟩; obtain ⟨hc, hf, hz⟩ := hE.rules)
    refine bodyPost_ret (v := .tuple #[dice 0, .int .i64 0]) (by simp [results, Try.results49, go_sem, hc]) rfl ⟨rfl, ?_⟩
    repeat (first | with_reducible exact Ext.refl _ | with_reducible assumption | with_reducible refine Ext.pAlloc ?_ _ | ((with_reducible refine Ext.pSet ?_ ?_ _); rotate_left; (simp <;> omega)) | with_reducible refine Ext.pDrew ?_ | with_reducible refine Ext.pDrewN ?_ _ | with_reducible refine Ext.trans ?_ (by with_reducible assumption))
  · cases hn : inB n 1 1000000000
    · have hr : under s n = (s, 0) := by simp [under, hd, hn]
      rw [hr]; have Hr := Lib.hid hr; clear hr
      go_enter Try.func49, Try.ntmps49
      go_wp2_with (first
        | (go_at_call 35; refine (specDiceOk_c _ _).mono ?_; rintro e w' ⟨rfl, hE⟩; obtain ⟨hc, hf, hz⟩ := hE.rules)
        | (go_at_call 48; refine (l1In_c _ _ _ _).mono ?_; rintro e w' ⟨rfl, rfl⟩))
      refine bodyPost_ret (v := .tuple #[dice s, .int .i64 0]) (by simp [results, Try.results49, go_sem, hc]) rfl ⟨rfl, ?_⟩
      repeat (first | with_reducible exact Ext.refl _ | with_reducible assumption | with_reducible refine Ext.pAlloc ?_ _ | ((with_reducible refine Ext.pSet ?_ ?_ _); rotate_left; (simp <;> omega)) | with_reducible refine Ext.pDrew ?_ | with_reducible refine Ext.pDrewN ?_ _ | with_reducible refine Ext.trans ?_ (by with_reducible assumption))
    · have hr : under s n = (stepD s, stepD s % n) := by simp [under, hd, hn]
      rw [hr]; have Hr := Lib.hid hr; clear hr
      have hR : rolled s = (stepD s, stepD s) := by simp [rolled, hd]
      have HR := Lib.hid hR; clear hR
      obtain ⟨hb1, hb2⟩ := inB_bd hn
      have hn0 : (n == 0) = false := by rw [beq_eq_false_iff_ne]; omega
      obtain ⟨hb3, hb4⟩ := stepD_bd s
      go_enter Try.func49, Try.ntmps49
      go_wp2_with (first
        | (go_at_call 35; refine (specDiceOk_c _ _).mono ?_; rintro e w1 ⟨rfl, hE⟩; obtain ⟨hc, hf, hz⟩ := hE.rules)
        | (go_at_call 48; refine (l1In_c _ _ _ _).mono ?_; rintro e w' ⟨rfl, rfl⟩)
        | (go_at_call 70; refine (specRolled_c _ _).mono ?_; rw [HR.out]; rintro e w2 ⟨rfl, hE2⟩; have hE3 := hE.trans hE2; clear hc hf hz hE; obtain ⟨hc, hf, hz⟩ := hE3.rules))
      have hcc := hc (w.heap.size + 1) 0 (by simp)
      have hff := hf (w.heap.size + 1) 0 (by simp)
      simp [go_sem] at hcc hff
      have hfin := cell_ext (World.cell?_setCell_same w2 ⟨w.heap.size + 1, 0, none⟩ (.int .i64 (stepD s)) hcc) (Ext.alloc _ (.cells #[.int .i64 (stepD s)] 24))
      have hs2 : w.heap.size + 1 < w2.heap.size := by simp at hz; omega
      go_region
      all_goals
        go_wp2
        refine bodyPost_ret (v := .tuple #[dice (stepD s), .int .i64 (stepD s % n)]) (by simp [results, Try.results49, go_sem, hfin]) rfl ⟨rfl, ?_⟩
        repeat (first | with_reducible exact Ext.refl _ | with_reducible assumption | with_reducible refine Ext.pAlloc ?_ _ | ((with_reducible refine Ext.pSet ?_ ?_ _); rotate_left; (simp <;> omega)) | with_reducible refine Ext.pDrew ?_ | with_reducible refine Ext.pDrewN ?_ _ | with_reducible refine Ext.trans ?_ (by with_reducible assumption))

set_option maxHeartbeats 800000 in
theorem implUnder_c (s n : Int) (w : World) : Calls Try.prog 39 #[dice s, .int .i64 n] w fun e w' => e = .returned (.tuple #[dice (under s n).1, .int .i64 (under s n).2]) ∧ Ext w w' := by
  cases hd : diceOk s
  · have hr : under s n = (0, 0) := by simp [under, hd]
    rw [hr]; have Hr := Lib.hid hr; clear hr
    go_enter Try.func39, Try.ntmps39
    go_wp2_with (go_at_call 36; refine (implDiceOk_c _ _).mono ?_; rintro e w' ⟨rfl, hE⟩; obtain ⟨hc, hf, hz⟩ := hE.rules)
    refine bodyPost_ret (v := .tuple #[dice 0, .int .i64 0]) (by simp [results, Try.results39, go_sem, hc]) rfl ⟨rfl, ?_⟩
    repeat (first | with_reducible exact Ext.refl _ | with_reducible assumption | with_reducible refine Ext.pAlloc ?_ _ | ((with_reducible refine Ext.pSet ?_ ?_ _); rotate_left; (simp <;> omega)) | with_reducible refine Ext.pDrew ?_ | with_reducible refine Ext.pDrewN ?_ _ | with_reducible refine Ext.trans ?_ (by with_reducible assumption))
  · cases hn : inB n 1 1000000000
    · have hr : under s n = (s, 0) := by simp [under, hd, hn]
      rw [hr]; have Hr := Lib.hid hr; clear hr
      go_enter Try.func39, Try.ntmps39
      go_wp2_with (first
        | (go_at_call 36; refine (implDiceOk_c _ _).mono ?_; rintro e w' ⟨rfl, hE⟩; obtain ⟨hc, hf, hz⟩ := hE.rules)
        | (go_at_call 50; refine (between_c _ _ _ _).mono ?_; rintro e w' ⟨rfl, rfl⟩))
      refine bodyPost_ret (v := .tuple #[dice s, .int .i64 0]) (by simp [results, Try.results39, go_sem, hc]) rfl ⟨rfl, ?_⟩
      repeat (first | with_reducible exact Ext.refl _ | with_reducible assumption | with_reducible refine Ext.pAlloc ?_ _ | ((with_reducible refine Ext.pSet ?_ ?_ _); rotate_left; (simp <;> omega)) | with_reducible refine Ext.pDrew ?_ | with_reducible refine Ext.pDrewN ?_ _ | with_reducible refine Ext.trans ?_ (by with_reducible assumption))
    · have hr : under s n = (stepD s, stepD s % n) := by simp [under, hd, hn]
      rw [hr]; have Hr := Lib.hid hr; clear hr
      obtain ⟨hb1, hb2⟩ := diceOk_bd hd
      obtain ⟨hn1, hn2⟩ := inB_bd hn
      go_enter Try.func39, Try.ntmps39
      go_wp2_with (first
        | (go_at_call 36; refine (implDiceOk_c _ _).mono ?_; rintro e w1 ⟨rfl, hE1⟩; obtain ⟨hc1, hf1, hz1⟩ := hE1.rules)
        | (go_at_call 50; refine (between_c _ _ _ _).mono ?_; rintro e w' ⟨rfl, rfl⟩)
        | (go_at_call 51; refine (drawer_c _ _).mono ?_; rintro e w2 ⟨b, rfl, hE2, hb5, hb6, hcb, hfb⟩; obtain ⟨hc2, hf2, hz2⟩ := hE2.rules))
      refine (draw_c _ s b _ (by simp [hcb]) (by simp [hfb]) hb1 hb2 (by omega)).mono ?_
      rintro e w3 ⟨rfl, rfl⟩
      go_wp2_with fail
      refine (now_c (stepD s) b _ (World.cell?_setCell_same _ _ _ hcb)).mono ?_
      rintro e w4 ⟨rfl, hE4⟩
      have hE : Ext _ w4 := hE1.trans (Ext.trans (Ext.pSet hE2 hb5 _) hE4)
      clear hc1 hf1 hc2 hf2 hE4 hE2 hE1 hcb hfb
      obtain ⟨hc, hf, hz⟩ := hE.rules
      go_wp2
      refine bodyPost_ret (v := .tuple #[dice (stepD s), .int .i64 (stepD s % n)]) (by simp [results, Try.results39, go_sem, hc]) rfl ⟨rfl, ?_⟩
      repeat (first | with_reducible exact Ext.refl _ | with_reducible assumption | with_reducible refine Ext.pAlloc ?_ _ | ((with_reducible refine Ext.pSet ?_ ?_ _); rotate_left; (simp <;> omega)) | with_reducible refine Ext.pDrew ?_ | with_reducible refine Ext.pDrewN ?_ _ | with_reducible refine Ext.trans ?_ (by with_reducible assumption))

end Go.Proofs.Ytdkhghnhggedbaa
