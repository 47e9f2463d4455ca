/- The draws: any row. -/
import Derived.Test.YtbapomhoipdanaaDr4
set_option linter.unusedVariables false
set_option linter.unusedSimpArgs false
namespace Go.Proofs.Ytbapomhoipdanaa
open Go.RowKit Go.Sl

set_option maxHeartbeats 1600000 in
theorem l1DrawAny_c (cb n cap : Nat) (a : Option Addr) (w : World) (hD : DC w cb a n cap) (hb : CodeAt w cb a n) :
    Calls Try.prog 114 #[.pointer (some ⟨cb, 0, none⟩)] w fun e w' => ∃ (v' : Value) (row : List Int), e = .returned v' ∧ row.length ≤ 49 ∧ Hid (∀ x ∈ row, -9223372036854775808 ≤ x ∧ x ≤ 9223372036854775807) ∧ rowC.own w.heap.size w'.heap.size w' [v'] row ∧ DC w' cb a n cap ∧ Chg cb (cb + 1) w w' := by
  have hlt := hD.lt
  go_enter Try.func114, Try.ntmps114
  go_wp2_with fail
  refine (l1DrawRow_c cb n cap a _ hD hb).mono ?_
  rintro e w1 ⟨u, row, rfl, hl, HR0, O1, hD1, C1⟩
  obtain ⟨ra, rc, rfl⟩ : ∃ a c, u = .slice a row.length c := by obtain ⟨a, c, h, _⟩ := row_open O1.view; exact ⟨a, c, h⟩
  have HR : Hid (∀ x ∈ row, -9223372036854775808 ≤ x ∧ x ≤ 9223372036854775807) := fun x hx => by have := HR0.out x hx; omega
  clear HR0
  have hb1 := hb.chg C1
  have hs1 := C1.size
  go_wp2_with fail
  refine (l1Once_c cb n cap a 6 _ (by omega) hD1 hb1).mono ?_
  rintro e w2 ⟨q, rfl, hD2, hC2⟩
  have C2 := C1.trans hC2
  have hb2 := hb.chg C2
  have hs2 := hC2.size
  have O2 := O1.chg hC2 (Or.inr hlt)
  cases q
  · go_wp2
    go_ret
    exact ⟨_, row, rfl, by omega, HR, Cd.own.wide O2 (Nat.le_refl _) hs2, hD2, C2⟩
  · go_wp2_with fail
    refine (l1Below_c cb n cap a 3 _ (by omega) hD2 hb2).mono ?_
    rintro e w3 ⟨x, hx0, hx1, rfl, hD3, hC3⟩
    have C3 := C2.trans hC3
    have hb3 := hb.chg C3
    have hs3 := hC3.size
    have O3 := O2.chg hC3 (Or.inr hlt)
    have hx : x = 0 ∨ x = 1 ∨ x = 2 := by omega
    clear hC2 hC3 hD2 hD1 hb1 hb2 C1 C2 O1 O2
    rcases hx with rfl | rfl | rfl
    · go_wp2_with fail
      refine (l1Num_c cb n cap a 1000000000 _ (by omega) (by omega) hD3 hb3).mono ?_
      rintro e w4 ⟨y, hy0, hy1, rfl, hD4, hC4⟩
      have C4 := C3.trans hC4
      have hs4 := hC4.size
      have O4 := O3.chg hC4 (Or.inr hlt)
      clear hC4 O3
      · go_wp2_with (at_builtin; refine wpList_snocC (R := intC) (y := y) (lo := w.heap.size) (hi := w1.heap.size) (lo' := w4.heap.size) (hi' := w4.heap.size) rfl _ _ _ rfl 2 _ 8 Try.underlying44 Try.infoI rfl (Cd.own.pAlloc O4 _) rfl (int_ownD _ _ _ _) (by omega) (by omega) (by simp; omega) _ _ rfl (CellsAt.lit _ _ _) (by omega) ?_)
        intro v5 w5 a5 c5 hv5 hO5 hC5
        subst hv5
        have C5 : Chg cb (cb + 1) w w5 := Chg.new (C4.trans ((Ext.alloc _ _).chg _ _)) hC5 (Nat.le_refl _)
        have D5 := (hD4.ext (Ext.alloc _ _)).far hC5 (Or.inl hlt)
        clear hC5 hD4 O4
        go_wp2
        go_ret
        exact ⟨_, row ++ [y], rfl, by simp; omega, (by intro z hz; rcases List.mem_append.1 hz with h | h; exact HR.out z h; rw [List.mem_singleton.1 h]; exact ⟨hy0, hy1⟩), hO5, D5, C5⟩
    · go_wp2_with fail
      refine (l1From_c cb n cap a (-1) 1 _ (by omega) (by omega) (by omega) hD3 hb3).mono ?_
      rintro e w4 ⟨y, hy0, hy1, rfl, hD4, hC4⟩
      have C4 := C3.trans hC4
      obtain ⟨m, hm⟩ : ∃ m : Nat, 48 + y = m := ⟨(48 + y).toNat, by omega⟩
      have hml : m ≤ 49 := by omega
      have hw : IntKind.i64.wrap (48 + y) = (m : Int) := by rw [hm]; exact IntWalk.i64_in _ (by omega)
      have Hs4 := Lib.hid (Nat.le_trans hs1 (Nat.le_trans hs2 (Nat.le_trans hs3 hC4.size)))
      clear hC4 O3 hs1 hs2 hs3 hl
      have hy : y = (m : Int) - 48 := by omega
      subst hy
      clear hm
      go_wp2_with (at_make; refine wpList_make_int _ rfl _ _ _ rfl 2 Try.underlying44 Try.infoI m rfl rfl ?b ?_)
      case b => omega
      intro w5 hI5 hE5 hl5
      go_wp2
      go_ret
      exact ⟨_, List.replicate m 0, rfl, by simp; omega, (by intro z hz; rw [List.eq_of_mem_replicate hz]; decide), row_own.2 ⟨_, m, by simp, by simp, by omega, hI5, by simp [ablk]; exact ⟨Hs4.out, hl5⟩⟩, hD4.ext hE5, C4.trans (hE5.chg _ _)⟩
    · go_wp2_with fail
      refine (l1Odd_c cb n cap a _ hD3 hb3).mono ?_
      rintro e w4 ⟨y, hy0, hy1, rfl, hD4, hC4⟩
      have C4 := C3.trans hC4
      have hs4 := hC4.size
      have O4 := O3.chg hC4 (Or.inr hlt)
      clear hC4 O3
      · go_wp2_with (at_builtin; refine wpList_snocC (R := intC) (y := y) (lo := w.heap.size) (hi := w1.heap.size) (lo' := w4.heap.size) (hi' := w4.heap.size) rfl _ _ _ rfl 2 _ 8 Try.underlying44 Try.infoI rfl (Cd.own.pAlloc O4 _) rfl (int_ownD _ _ _ _) (by omega) (by omega) (by simp; omega) _ _ rfl (CellsAt.lit _ _ _) (by omega) ?_)
        intro v5 w5 a5 c5 hv5 hO5 hC5
        subst hv5
        have C5 : Chg cb (cb + 1) w w5 := Chg.new (C4.trans ((Ext.alloc _ _).chg _ _)) hC5 (Nat.le_refl _)
        have D5 := (hD4.ext (Ext.alloc _ _)).far hC5 (Or.inl hlt)
        clear hC5 hD4 O4
        go_wp2
        go_ret
        exact ⟨_, row ++ [y], rfl, by simp; omega, (by intro z hz; rcases List.mem_append.1 hz with h | h; exact HR.out z h; rw [List.mem_singleton.1 h]; exact ⟨hy0, hy1⟩), hO5, D5, C5⟩

end Go.Proofs.Ytbapomhoipdanaa
