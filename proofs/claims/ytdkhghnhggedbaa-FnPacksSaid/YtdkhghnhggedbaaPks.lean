/- The draws of packed rows. -/
import Derived.Test.YtdkhghnhggedbaaDr7
import Derived.Test.YtdkhghnhggedbaaPk
set_option linter.unusedVariables false
set_option linter.unusedSimpArgs false
namespace Go.Sl
open Go.RowKit
theorem nilS_O {α : Type} {R : Cd α} (w : World) : (sliceC R).O w [.slice none 0 0] [] [] := ⟨none, 0, [], [], rfl, Nat.le_refl _, Nat.zero_le _, .inl ⟨rfl, rfl, rfl⟩, ⟨rfl, rfl⟩, rfl⟩
theorem rows_madeS {w : World} {b n lo hi : Nat} (h : SlAt w 1 (some ⟨b, 0, none⟩) n (List.replicate n (.slice none 0 0))) (hn : n ≤ 4194304) (hlo : lo ≤ b) (hhi : b < hi) : (sliceC rowC).own lo hi w [.slice (some ⟨b, 0, none⟩) n n] (List.replicate n []) := by
  have key : ∀ n, elemsO (rowC.O w) (List.replicate n (.slice none 0 0)) (List.replicate n []) [] := by
    intro n
    induction n with
    | zero => exact ⟨rfl, rfl⟩
    | succ n ih => exact ⟨[_], _, [], [], rfl, rfl, nilS_O w, ih⟩
  refine ⟨[b], ⟨_, n, _, [], by rw [List.length_replicate], by rw [List.length_replicate]; exact Nat.le_refl _, by simp only [maxLen]; omega, h, key n, rfl⟩, by simp, ?_⟩
  intro x hx
  rw [List.mem_singleton.1 hx]
  exact ⟨hlo, hhi⟩
theorem sl_formS {α : Type} {R : Cd α} {w : World} {v : Value} {l : List α} (h : (sliceC R).V w [v] l) : ∃ a cap, v = .slice a l.length cap := by
  obtain ⟨a, cap, xs, h1, _⟩ := h
  simp only [List.cons.injEq, and_true] at h1
  exact ⟨a, cap, h1⟩
theorem ISl.chgS {w w' : World} {a : Option Addr} {cap lo hi : Nat} {l : List Int} (h : ISl w a cap l) (hc : Chg lo hi w w') (hd : ∀ b ∈ ablk a, ¬ (lo ≤ b ∧ b < hi)) : ISl w' a cap l :=
  SlAt.frame h (fun b hb => hc.block b (SlAt.lt h b hb) (hd b hb))
theorem rows_emptyS (w : World) (E : TypeId) (lo : Nat) (h : lo ≤ w.heap.size) : (sliceC rowC).own lo (w.alloc (.cells #[] E)).heap.size (w.alloc (.cells #[] E)) [.slice (some ⟨w.heap.size, 0, none⟩) 0 0] [] :=
  ⟨[w.heap.size], ⟨_, 0, [], [], rfl, Nat.le_refl _, Nat.zero_le _, SlAt.lit w #[] E 1 0 rfl, ⟨rfl, rfl⟩, rfl⟩, by simp, fun b hb => by rw [List.mem_singleton.1 hb]; simp; omega⟩
end Go.Sl
namespace Go.Proofs.Ytdkhghnhggedbaa
open Go.RowKit Go.Sl
/-- The code at the law's start, as the draws ask it. -/
def CodeQ (w : World) (a : Option Addr) (n : Nat) : Prop := ∀ j, j < n → ∃ (b off : Nat) (x : Int), a = some ⟨b, off, none⟩ ∧ w.cell? ⟨b, off + j, none⟩ = some (.int .u8 x)
theorem CodeQ.at_ {w w' : World} {cb n : Nat} {a : Option Addr} (h : CodeQ w a n) (he : Ext w w') (hc : w.heap.size ≤ cb) : CodeAt w' cb a n := fun j hj => by
  obtain ⟨b, off, x, e, hcell⟩ := h j hj
  exact ⟨b, off, x, e, by have h1 : b < w.heap.size := World.block_lt_of_cell? _ _ hcell; omega, cell_ext hcell he⟩
theorem CodeQ.ext {w w' : World} {n : Nat} {a : Option Addr} (h : CodeQ w a n) (he : Ext w w') : CodeQ w' a n := fun j hj => by
  obtain ⟨b, off, x, e, hcell⟩ := h j hj
  exact ⟨b, off, x, e, cell_ext hcell he⟩

set_option maxHeartbeats 1600000 in
theorem drawPacked_c (n cap : Nat) (a : Option Addr) (w : World) (hn : n ≤ 1000000) (hb : CodeQ w a n) :
    Calls Try.prog 45 #[.slice a n cap] w fun e w' => ∃ (v' : Value) (rows : List (List Int)), e = .returned v' ∧ (sliceC rowC).own w.heap.size w'.heap.size w' [v'] rows ∧ Ext w w' := by
  have HB := Lib.hid hb
  have hinf : (Try.prog.info? 25).map (fun i => (i.zero, i.size, i.bytes)) = some (some (.slice none 0 0), 1, 24) := by kernel_rfl
  have Hinf := Lib.hid hinf; clear hinf
  go_enter Try.func45, Try.ntmps45
  go_wp2_with fail
  refine (l1New_c n cap a _ hn hb).mono ?_
  rintro e w1 ⟨cb, rfl, hcb, hD1, hb1, X1⟩
  have hlt := hD1.lt
  have z1 := X1.size
  clear hb1 hb
  go_wp2_with fail
  refine (l1Below_c cb n cap a 6 _ (by omega) (hD1.ext (Ext.alloc _ _)) (HB.out.at_ (X1.trans (Ext.alloc _ _)) hcb)).mono ?_
  rintro e w2 ⟨x, hx0, hx1, rfl, hD2, hC2⟩
  obtain ⟨x, rfl⟩ := Int.eq_ofNat_of_zero_le hx0
  have O2 : (sliceC rowC).own w1.heap.size w2.heap.size w2 [.slice (some ⟨w1.heap.size, 0, none⟩) 0 0] [] := ((rows_emptyS w1 25 w1.heap.size (Nat.le_refl _)).chg hC2 (Or.inr hlt)).wide (Nat.le_refl _) hC2.size
  have X2 : Ext w w2 := Chg.ext (X1.trans (Ext.alloc _ _)) hC2 hcb
  have HS2 := Lib.hid (And.intro O2 (And.intro hD2 X2))
  have z2 := hC2.size
  clear hD1 hC2 hD2 X2 O2 X1
  go_wp2
  go_loopw [4, 5] (fun v4 v5 wr => ∃ (k : Nat) (rows : List (List Int)), v5 = .int .i64 k ∧ k ≤ 5 ∧ rows.length + k ≤ 5 ∧ (∃ b c, v4 = .slice b rows.length c) ∧ Hid ((sliceC rowC).own w1.heap.size wr.heap.size wr [v4] rows ∧ DC wr cb a n cap ∧ Ext w wr) ∧ w1.heap.size ≤ wr.heap.size) (fun _ v5 _ => (intOf v5).toNat)
  case atStart => exact ⟨x, [], rfl, by omega, by simp; omega, ⟨_, _, rfl⟩, HS2, by (try simp at z2); omega⟩
  case round =>
    obtain ⟨k, rows, rfl, hk, hrk, ⟨rb, rc, rfl⟩, HI, zr⟩ := hrel
    by_cases hlt0 : 0 < k
    · have hkd : decide ((0 : Int) < k) = true := by rw [decide_eq_true_iff]; omega
      go_wp2_with fail
      refine (l1DrawAny_c cb n cap a _ HI.out.2.1 (HB.out.at_ HI.out.2.2 hcb)).mono ?_
      rintro e w3 ⟨v3, row, rfl, hl3, -, O3, hD3, hC3⟩
      obtain ⟨ya, yc, rfl⟩ : ∃ a c, v3 = .slice a row.length c := by obtain ⟨a, c, h, _⟩ := row_open O3.view; exact ⟨a, c, h⟩
      have OR := HI.out.1.chg hC3 (Or.inr hlt)
      have X3 : Ext w w3 := Chg.ext HI.out.2.2 hC3 hcb
      have z3 := hC3.size
      have HH := Lib.hid (And.intro OR (And.intro O3 (And.intro hD3 X3)))
      clear OR X3 O3 hD3 hC3 HI
      go_wp2_with (at_builtin; refine wpList_snocC (R := rowC) (y := row) (lo := w1.heap.size) (hi := wr.heap.size) (lo' := wr.heap.size) (hi' := w3.heap.size) rfl _ _ _ rfl 25 _ 24 Try.underlying39 Hinf.out rfl (Cd.own.pAlloc HH.out.1 _) rfl (Cd.own.pAlloc HH.out.2.1 _) (Nat.le_refl _) (by omega) (by simp; omega) _ _ rfl (CellsAt.lit _ _ _) (by omega) ?_)
      intro v5 w5 a5 c5 hv5 hO5 hC5
      subst hv5
      have z5 := hC5.size
      have hD5 := (HH.out.2.2.1.ext (Ext.alloc _ _)).far hC5 (Or.inl hlt)
      have X5 : Ext w w5 := Chg.ext (HH.out.2.2.2.trans (Ext.alloc _ _)) hC5 (by omega)
      have HI5 := Lib.hid (And.intro hO5 (And.intro hD5 X5))
      have hw1 : IntKind.i64.wrap ((k : Int) - 1) = ((k - 1 : Nat) : Int) := by rw [IntWalk.i64_in _ (by omega)]; omega
      clear hO5 hC5 hD5 X5 HH
      go_wp2
      go_roundw
      case rel => exact ⟨k - 1, rows ++ [row], valI (by omega), by omega, by simp; omega, ⟨a5, c5, by rw [List.length_append]; rfl⟩, HI5, by (try simp at z5); omega⟩
      case measure => simp [intOf]; omega
    · have hkd : decide ((0 : Int) < k) = false := by rw [decide_eq_false_iff_not]; omega
      go_wp2_with fail
      refine (l1Once_c cb n cap a 12 _ (by omega) HI.out.2.1 (HB.out.at_ HI.out.2.2 hcb)).mono ?_
      rintro e w3 ⟨q, rfl, hD3, hC3⟩
      have OR := HI.out.1.chg hC3 (Or.inr hlt)
      have X3 : Ext w w3 := Chg.ext HI.out.2.2 hC3 hcb
      have z3 := hC3.size
      have HH := Lib.hid (And.intro OR (And.intro hD3 X3))
      clear OR X3 hD3 hC3 HI
      cases q
      · go_wp2
        go_ret
        exact ⟨_, rows, rfl, HH.out.1.wide z1 z3, HH.out.2.2⟩
      · go_wp2_with fail
        refine (l1From_c cb n cap a (-2) 1 _ (by omega) (by omega) (by omega) HH.out.2.1 (HB.out.at_ HH.out.2.2 hcb)).mono ?_
        rintro e w4 ⟨y, hy0, hy1, rfl, hD4, hC4⟩
        have X4 : Ext w w4 := Chg.ext HH.out.2.2 hC4 hcb
        obtain ⟨m, hm⟩ : ∃ m : Nat, 48 + y = m := ⟨(48 + y).toNat, by omega⟩
        have hml : m ≤ 49 := by omega
        have hw : IntKind.i64.wrap (48 + y) = (m : Int) := by rw [hm]; exact IntWalk.i64_in _ (by omega)
        have z4 := X4.size
        have HX4 := Lib.hid X4
        clear hC4 X4 hD4 HH
        have hy : y = (m : Int) - 48 := by omega
        subst hy
        clear hm
        go_wp2_with (at_make; refine wpList_make_sl _ rfl _ _ _ rfl 25 Try.underlying39 _ 1 24 Hinf.out m rfl rfl ?b ?b2 ?_)
        case b => omega
        case b2 => omega
        intro w5 zs hS hl hz hE hlt5
        rw [toList_madeCells_one] at hz
        subst hz
        have HS := Lib.hid (And.intro hS (And.intro hE hlt5))
        clear hS hl hE hlt5
        go_wp2
        go_ret
        exact ⟨_, List.replicate m [], rfl, rows_madeS HS.out.1 (by omega) z4 HS.out.2.2, HX4.out.trans HS.out.2.1⟩

set_option maxHeartbeats 1600000 in
theorem drawUnpacked_c (n cap : Nat) (a : Option Addr) (w : World) (hn : n ≤ 1000000) (hb : CodeQ w a n) :
    Calls Try.prog 47 #[.slice a n cap] w fun e w' => ∃ (v' : Value) (row : List Int), e = .returned v' ∧ rowC.own w.heap.size w'.heap.size w' [v'] row ∧ Ext w w' := by
  have HB := Lib.hid hb
  go_enter Try.func47, Try.ntmps47
  go_wp2_with fail
  refine (l1New_c n cap a _ hn hb).mono ?_
  rintro e w1 ⟨cb, rfl, hcb, hD1, hb1, X1⟩
  have hlt := hD1.lt
  have z1 := X1.size
  clear hb1 hb
  go_wp2_with fail
  refine (drawPacked_c n cap a _ hn (HB.out.ext X1)).mono ?_
  rintro e w2 ⟨v2, rows, rfl, O2, X2⟩
  obtain ⟨pa, pc, rfl⟩ : ∃ a c, v2 = .slice a rows.length c := sl_formS O2.view
  have HH := Lib.hid (And.intro O2 (And.intro (hD1.ext X2) (X1.trans X2)))
  have z2 := X2.size
  clear O2 hD1 X1 X2
  go_wp2_with fail
  refine (specPacked_c _ rows _ HH.out.1.view).mono ?_
  have hpl := packed_len rows
  generalize packed rows = row at hpl ⊢
  rintro e w3 ⟨v3, rfl, X3, O3⟩
  obtain ⟨ra, rc, rfl, hr1, hr2, -⟩ := row_take O3
  have HI := Lib.hid (And.intro O3 (And.intro (HH.out.2.1.ext X3) (HH.out.2.2.trans X3)))
  have z3 := X3.size
  clear O3 X3 HH
  go_wp2_with fail
  refine (l1Once_c cb n cap a 3 _ (by omega) HI.out.2.1 (HB.out.at_ HI.out.2.2 hcb)).mono ?_
  rintro e w4 ⟨q, rfl, hD4, hC4⟩
  have HJ := Lib.hid (And.intro (HI.out.1.chg hC4 (by omega)) (And.intro hD4 (Chg.ext HI.out.2.2 hC4 hcb)))
  have z4 := hC4.size
  clear hD4 hC4 HI
  by_cases hq : q = true ∧ 0 < row.length
  · obtain ⟨rfl, hrl⟩ := hq
    have hd : decide ((0 : Int) < row.length) = true := by rw [decide_eq_true_iff]; omega
    go_wp2_with fail
    refine (l1Below_c cb n cap a row.length _ (by omega) HJ.out.2.1 (HB.out.at_ HJ.out.2.2 hcb)).mono ?_
    rintro e w5 ⟨i, hi0, hi1, rfl, hD5, hC5⟩
    obtain ⟨i, rfl⟩ := Int.eq_ofNat_of_zero_le hi0
    have HK := Lib.hid (And.intro (HJ.out.1.chg hC5 (by omega)) (And.intro hD5 (Chg.ext HJ.out.2.2 hC5 hcb)))
    have z5 := hC5.size
    clear hD5 hC5 HJ
    go_wp2_with fail
    refine (l1Below_c cb n cap a 6 _ (by omega) HK.out.2.1 (HB.out.at_ HK.out.2.2 hcb)).mono ?_
    rintro e w6 ⟨y, hy0, hy1, rfl, hD6, hC6⟩
    have HL := Lib.hid (And.intro (HK.out.1.chg hC6 (by omega)) (And.intro hD6 (Chg.ext HK.out.2.2 hC6 hcb)))
    have z6 := hC6.size
    clear hD6 hC6 HK
    obtain ⟨a9, c9, e9, g1, g2, hI, hin⟩ := row_own.1 HL.out.1
    cases e9
    obtain ⟨b6, o6, rfl⟩ := hI.some hrl
    obtain ⟨⟨u, hcu, -⟩, hfu, hst⟩ := hI.store (j := i) (by omega)
    have hb6 := hin b6 (by simp [ablk])
    have HM := Lib.hid (hst y)
    have hii : (i : Int) < row.length := by omega
    clear hst hI hin
    go_wp2_with fail
    refine (l1Once_c cb n cap a 6 _ (by omega) (DC.far HL.out.2.1 HM.out.2 (by omega)) (HB.out.at_ (Chg.ext HL.out.2.2 HM.out.2 (by omega)) hcb)).mono ?_
    rintro e w7 ⟨q, rfl, hD7, hC7⟩
    have HN := Lib.hid (And.intro (ISl.chgS HM.out.1 hC7 (by simp [ablk]; omega)) (And.intro hD7 (Chg.ext (Chg.ext HL.out.2.2 HM.out.2 (by omega)) hC7 hcb)))
    have z7 := hC7.size
    (try simp [World.setCell] at z7)
    clear hD7 hC7 HL HM
    cases q
    · go_wp2
      go_ret
      exact ⟨.slice (some ⟨b6, o6, none⟩) row.length rc, row.set i y, rfl, row_own.2 ⟨_, _, by rw [List.length_set], by rw [List.length_set]; exact g1, g2, HN.out.1, by simp [ablk]; omega⟩, HN.out.2.2⟩
    · go_wp2_with fail
      refine (l1DrawAny_c cb n cap a _ HN.out.2.1 (HB.out.at_ HN.out.2.2 hcb)).mono ?_
      rintro e w8 ⟨v8, row8, rfl, -, -, O8, hD8, hC8⟩
      go_wp2
      go_ret
      exact ⟨_, row8, rfl, O8.wide HN.out.2.2.size (Nat.le_refl _), Chg.ext HN.out.2.2 hC8 hcb⟩
  · have hq' : q = false ∨ (q = true ∧ ¬ 0 < row.length) := by cases q <;> simp_all
    clear hq
    rcases hq' with rfl | ⟨rfl, hnl⟩
    rotate_left
    have hd2 : decide ((0 : Int) < row.length) = false := by rw [decide_eq_false_iff_not]; omega
    rotate_left
    all_goals
      go_wp2_with fail
      refine (l1Once_c cb n cap a 6 _ (by omega) HJ.out.2.1 (HB.out.at_ HJ.out.2.2 hcb)).mono ?_
      rintro e w7 ⟨q, rfl, hD7, hC7⟩
      have HN := Lib.hid (And.intro (HJ.out.1.chg hC7 (by omega)) (And.intro hD7 (Chg.ext HJ.out.2.2 hC7 hcb)))
      have z7 := hC7.size
      clear hD7 hC7 HJ
      cases q
      · go_wp2
        go_ret
        exact ⟨_, row, rfl, HN.out.1.wide (by omega) (by omega), HN.out.2.2⟩
      · go_wp2_with fail
        refine (l1DrawAny_c cb n cap a _ HN.out.2.1 (HB.out.at_ HN.out.2.2 hcb)).mono ?_
        rintro e w8 ⟨v8, row8, rfl, -, -, O8, hD8, hC8⟩
        go_wp2
        go_ret
        exact ⟨_, row8, rfl, O8.wide HN.out.2.2.size (Nat.le_refl _), Chg.ext HN.out.2.2 hC8 hcb⟩

end Go.Proofs.Ytdkhghnhggedbaa
