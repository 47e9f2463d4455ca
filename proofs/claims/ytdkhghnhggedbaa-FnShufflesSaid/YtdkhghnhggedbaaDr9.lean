/- The draws: the arguments of Shuffled. -/
import Derived.Test.YtdkhghnhggedbaaDr7
set_option linter.unusedVariables false
set_option linter.unusedSimpArgs false
namespace Go.Proofs.Ytdkhghnhggedbaa
open Go.RowKit Go.Sl

section
variable {P : Program} {ops : Array Oper} {Q : Exit → Act → World → Prop} {md : Region.Mode} {S : World → Prop} {n : Nat}
/-- Either of two may be next. -/
theorem wpT_two {i j : Nat} {o o' : Oper} {fuel : Nat} {listed : Array Bool} {a : Act} {w : World} (hr : Region.ready md ops listed = [i, j]) (hin : i < n) (hjn : j < n) (ho : ops[i]? = some o) (ho' : ops[j]? = some o')
    (h : ∀ K' : Act → World → Prop, Shut (∀ a w, S w → (S w → wpT P md ops Q S n fuel (listed.setIfInBounds i true) a w) → K' a w) → if Region.wanted o (yielded ops a.tmps) = true then Oper.wp P o a w K' Q else K' (a.put o.dst undef) w)
    (h' : ∀ K' : Act → World → Prop, Shut (∀ a w, S w → (S w → wpT P md ops Q S n fuel (listed.setIfInBounds j true) a w) → K' a w) → if Region.wanted o' (yielded ops a.tmps) = true then Oper.wp P o' a w K' Q else K' (a.put o'.dst undef) w) :
    wpT P md ops Q S n (fuel + 1) listed a w := by
  intro inv
  have inv1 : HeadInv md ops n (listed.setIfInBounds i true) := inv.set (by rw [hr]; simp) hin
  have inv2 : HeadInv md ops n (listed.setIfInBounds j true) := inv.set (by rw [hr]; simp) hjn
  refine ⟨fun h0 => (by rw [hr] at h0; cases h0), fun k hk => ?_⟩
  rw [hr] at hk
  rcases List.mem_cons.1 hk with rfl | hk
  · refine wpOp_step ho (fun K' hK => h K' (fun a w hS hW => hK a w ?_))
    rw [if_neg (by omega)]
    exact ⟨hS, hW hS inv1⟩
  · rw [List.mem_singleton.1 hk]
    refine wpOp_step ho' (fun K' hK => h' K' (fun a w hS hW => hK a w ?_))
    rw [if_neg (by omega)]
    exact ⟨hS, hW hS inv2⟩
end
theorem opwp_make_int {P : Program} {w : World} {o : Oper} {a : Act} {K : Act → World → Prop} {Q : Exit → Act → World → Prop} (l c : Operand) (t : TypeId) (hop : o.op = Op.makeSlice t l c) (e : TypeId) (h1 : P.underlying t = some (.slice e))
    (hinfo : (P.info? e).map (fun i => (i.zero, i.size, i.bytes)) = some (some (.int .i64 0), 1, 8)) (n : Nat) (hl : a.eval l = .int .i64 (n : Int)) (hc : a.eval c = .int .i64 (n : Int)) (b2 : n ≤ 4194304)
    (hK : ∀ w', ISl w' (some ⟨w.heap.size, 0, none⟩) n (List.replicate n 0) → Ext w w' → w.heap.size < w'.heap.size → K (a.put o.dst (.slice (some ⟨w.heap.size, 0, none⟩) n n)) w') : Oper.wp P o a w K Q := by
  obtain ⟨i, hi, hz, hsize, hby⟩ := info_parts hinfo
  obtain ⟨w', hrun, r1, r2⟩ := run_make_full (P := P) w w.heap.size t e i (.int .i64 0) 1 h1 hi hz hsize .i64 .i64 n (by rw [hby]; omega) (by simp only [maxLen]; omega) (Nat.le_refl _)
  unfold Oper.wp
  simp [execOp, hop, hl, hc, hrun, Result.andThen]
  refine hK w' ?_ (Ext.grown r2) (r1.lt _ rfl).2
  have := SlAt.of_owns r1
  unfold ISl
  rw [show (Value.int .i64 0).cells = #[Value.int .i64 0] from rfl, Nat.mul_one, toList_madeCells_one] at this
  simpa using this
set_option maxHeartbeats 1600000 in
theorem drawShuffled_c (n cap : Nat) (a : Option Addr) (w : World) (hn : n ≤ 1000000) (hb : ∀ j, j < n → ∃ (b off : Nat) (x : Int), a = some ⟨b, off, none⟩ ∧ w.cell? ⟨b, off + j, none⟩ = some (.int .u8 x)) :
    Calls Try.prog 34 #[.slice a n cap] w fun e w' => ∃ (x : Int) (v' : Value) (row : List Int), e = .returned (.tuple #[dice x, v']) ∧ row.length ≤ 65 ∧ rowC.own w.heap.size w'.heap.size w' [v'] row ∧ Ext w w' := by
  go_enter Try.func34, Try.ntmps34
  go_wp2_with fail
  refine (l1New_c n cap a _ hn (fun j hj => by obtain ⟨b, off, x, e, hc⟩ := hb j hj; exact ⟨b, off, x, e, cell_ext hc (Ext.alloc _ _)⟩)).mono ?_
  rintro e w1 ⟨cb, rfl, hcb, hD1, hb1, X1⟩
  have hz : w.heap.size + 1 ≤ cb := by simpa using hcb
  have hB1 := (Bx.new w _ _ w.heap.size rfl).ext X1
  have X1' := (Ext.alloc _ _).trans X1
  go_wp2_with fail
  refine (l2Draw_c cb n cap a _ hD1 hb1).mono ?_
  rintro e w2 ⟨x, hx0, hx1, rfl, hD2, hC2⟩
  have hb2 := hb1.chg hC2
  have hB2 := hB1.chg hC2 (Or.inl (by omega))
  have X2 := Chg.ext X1' hC2 (by omega)
  have hlt := hD2.lt
  go_wp2_with fail
  refine (l1Once_c cb n cap a 12 _ (by omega) (hD2.ext (Ext.alloc _ _)) (hb2.ext (Ext.alloc _ _))).mono ?_
  rintro e w6 ⟨q, rfl, hD6, hC6⟩
  have hb6 := (hb2.ext (Ext.alloc _ _)).chg hC6
  have hB6 := (hB2.ext (Ext.alloc _ _)).chg hC6 (Or.inl (by omega))
  have hG6 := (Bx.new w2 _ _ w2.heap.size rfl).chg hC6 (Or.inr hlt)
  have X6 := Chg.ext (X2.trans (Ext.alloc _ _)) hC6 (by omega)
  clear hC6 hC2 hB2 hb2 hD2 hD1 hb1 hB1 X1 X1' X2
  cases q
  · go_wp2_with fail
    · refine wp_region_T (S := fun ω => Bx ω w2.heap.size [.int .i64 x] ∧ (∃ y, Bx ω w.heap.size [.int .i64 y]) ∧ Ext w ω) 4 (by kernel_rfl) ?_ (fun hHeld => ?_) (by decide)
      · exact ⟨hG6.ext (Ext.drewN _ _), ⟨_, hB6.ext (Ext.drewN _ _)⟩, X6.trans (Ext.drewN _ _)⟩
      refine wpT_take (i := 0) (v := dice x) rfl (by kernel_rfl) (by decide) (by kernel_rfl) (by kernel_rfl) (by kernel_rfl) (fun _ _ _ h => h) (Or.inl ⟨by rfl, ?_⟩) (by assumption) ?_
      · intro w9 hSw
        have c9 := hSw.1.cell 0 _ rfl
        (try dsimp only at hSw); go_simp; (first | done | with_reducible rfl)
      (try simp only [List.getElem_toArray, List.getElem_cons_succ, List.getElem_cons_zero, Act.put, List.setIfInBounds_toArray, List.set_cons_zero, List.set_cons_succ])
      refine wpT_take (i := 1) (v := ?_) rfl (by kernel_rfl) (by decide) (by kernel_rfl) (by kernel_rfl) (by kernel_rfl) (fun _ _ _ h => h) (Or.inl ⟨by rfl, ?_⟩) (by assumption) ?_
      rotate_left
      · intro w9 hSw; (try dsimp only at hSw); go_simp; (first | done | with_reducible rfl)
      (try simp only [List.getElem_toArray, List.getElem_cons_succ, List.getElem_cons_zero, Act.put, List.setIfInBounds_toArray, List.set_cons_zero, List.set_cons_succ])
      refine wpT_step (i := 2) (by kernel_rfl) (by decide) rfl (fun K hK => ?_)
      obtain ⟨hG7, ⟨y7, hB7⟩, X7⟩ := hHeld
      go_simp
      refine (l1DrawRow_c cb n cap a _ (hD6.ext (Ext.drewN _ _)) (hb6.ext (Ext.drewN _ _))).mono ?_
      rintro e w8 ⟨u, row, rfl, hl, HR, O8, hD8, hC8⟩
      (try go_wp2_with fail)
      have hB8 := hB7.chg hC8 (Or.inl (by omega))
      have hG8 := hG7.chg hC8 (Or.inr hlt)
      have X8 := Chg.ext X7 hC8 (by omega)
      refine hK.out _ _ ⟨hG8, ⟨_, hB8⟩, X8⟩ (fun hHeld2 => ?_)
      clear hK K
      (try simp only [List.getElem_toArray, List.getElem_cons_succ, List.getElem_cons_zero, Act.put, List.setIfInBounds_toArray, List.set_cons_zero, List.set_cons_succ])
      refine wpT_step (i := 3) (by kernel_rfl) (by decide) rfl (fun K hK => ?_)
      have c0 := hB8.cell 0 _ rfl
      have f0 := hB8.fr
      go_simp
      have hc9 := World.cell?_setCell_same w8 ⟨w.heap.size, 0, none⟩ (.int .i64 x) c0
      have X9 : Ext w (w8.setCell ⟨w.heap.size, 0, none⟩ (.int .i64 x)) := X8.pSet (Nat.le_refl _) _
      refine hK.out _ _ ⟨hG8.set_other (by omega) _, ⟨_, Bx.set10 hB8 _⟩, X9⟩ (fun hHeld3 => ?_)
      clear hK K
      (try simp only [List.getElem_toArray, List.getElem_cons_succ, List.getElem_cons_zero, Act.put, List.setIfInBounds_toArray, List.set_cons_zero, List.set_cons_succ])
      refine wpT_last (by kernel_rfl) (by kernel_rfl) rfl (fun K hK => ?_)
      go_simp
      refine hK.out _ _ ?_
      clear hK K
      go_wp2
      have hl6 : w.heap.size < w6.heap.size := hB6.lt
      refine bodyPost_ret (v := .tuple #[dice x, u]) (by simp [results, Try.results34, go_sem, hc9]) rfl ⟨x, u, row, rfl, by omega, ?_, X9⟩
      exact Cd.own.wide (Cd.own.pSet (a := ⟨w.heap.size, 0, none⟩) O8 (Or.inl (by simpa using hl6)) _) (by simp; omega) (by simp [World.setCell])
  · go_wp2_with fail
    · refine wp_region_T (S := fun ω => Bx ω w2.heap.size [.int .i64 x] ∧ (∃ y, Bx ω w.heap.size [.int .i64 y]) ∧ Ext w ω) 6 (by kernel_rfl) ?_ (fun hHeld => ?_) (by decide)
      · exact ⟨hG6.ext (Ext.drewN _ _), ⟨_, hB6.ext (Ext.drewN _ _)⟩, X6.trans (Ext.drewN _ _)⟩
      refine wpT_take (i := 0) (v := dice x) rfl (by kernel_rfl) (by decide) (by kernel_rfl) (by kernel_rfl) (by kernel_rfl) (fun _ _ _ h => h) (Or.inl ⟨by rfl, ?_⟩) (by assumption) ?_
      · intro w9 hSw
        have c9 := hSw.1.cell 0 _ rfl
        (try dsimp only at hSw); go_simp; (first | done | with_reducible rfl)
      (try simp only [List.getElem_toArray, List.getElem_cons_succ, List.getElem_cons_zero, Act.put, List.setIfInBounds_toArray, List.set_cons_zero, List.set_cons_succ])
      refine wpT_take (i := 1) (v := ?_) rfl (by kernel_rfl) (by decide) (by kernel_rfl) (by kernel_rfl) (by kernel_rfl) (fun _ _ _ h => h) (Or.inl ⟨by rfl, ?_⟩) (by assumption) ?_
      rotate_left
      · intro w9 hSw; (try dsimp only at hSw); go_simp; (first | done | with_reducible rfl)
      (try simp only [List.getElem_toArray, List.getElem_cons_succ, List.getElem_cons_zero, Act.put, List.setIfInBounds_toArray, List.set_cons_zero, List.set_cons_succ])
      refine wpT_step (i := 2) (by kernel_rfl) (by decide) rfl (fun K hK => ?_)
      obtain ⟨hG7, ⟨y7, hB7⟩, X7⟩ := hHeld
      go_simp
      refine (l1Below_c cb n cap a 2 _ (by omega) (hD6.ext (Ext.drewN _ _)) (hb6.ext (Ext.drewN _ _))).mono ?_
      rintro e w8 ⟨z, hz0, hz1, rfl, hD8, hC8⟩
      (try go_wp2_with fail)
      have hB8 := hB7.chg hC8 (Or.inl (by omega))
      have hG8 := hG7.chg hC8 (Or.inr hlt)
      have X8 := Chg.ext X7 hC8 (by omega)
      refine hK.out _ _ ⟨hG8, ⟨_, hB8⟩, X8⟩ (fun hHeld2 => ?_)
      clear hK K
      (try simp only [List.getElem_toArray, List.getElem_cons_succ, List.getElem_cons_zero, Act.put, List.setIfInBounds_toArray, List.set_cons_zero, List.set_cons_succ])
      obtain ⟨m, hm, hm2⟩ : ∃ m : Nat, IntKind.i64.wrap (64 + z) = (m : Int) ∧ m ≤ 65 := ⟨(64 + z).toNat, by rw [IntWalk.i64_in _ (by omega)]; omega, by omega⟩
      refine wpT_take (i := 3) (v := .int .i64 (m : Int)) rfl (by kernel_rfl) (by decide) (by kernel_rfl) (by kernel_rfl) (by kernel_rfl) (fun _ _ _ h => h) (Or.inl ⟨by rfl, ?_⟩) (by assumption) ?_
      · intro w9 hSw; (try dsimp only at hSw); go_simp; (first | done | with_reducible rfl | (simp [hm]; done) | (rw [← hm]; first | rfl | (congr 2; rw [IntWalk.i64_in _ (by omega)])))
      (try simp only [List.getElem_toArray, List.getElem_cons_succ, List.getElem_cons_zero, Act.put, List.setIfInBounds_toArray, List.set_cons_zero, List.set_cons_succ])
      refine wpT_two (i := 4) (j := 5) (by kernel_rfl) (by decide) (by decide) rfl rfl (fun K hK => ?_) (fun K hK => ?_)
      · rw [if_pos (by rfl)]
        refine opwp_make_int _ _ _ rfl 2 Try.underlying25 Try.infoI m (by rfl) (by rfl) (by omega) ?_
        intro w10 hI10 X10 hz10
        refine hK.out _ _ ⟨hG8.ext X10, ⟨_, hB8.ext X10⟩, X8.trans X10⟩ (fun hHeld3 => ?_)
        clear hK K
        (try simp only [List.getElem_toArray, List.getElem_cons_succ, List.getElem_cons_zero, Act.put, List.setIfInBounds_toArray, List.set_cons_zero, List.set_cons_succ])
        refine wpT_step (i := 5) (by kernel_rfl) (by decide) rfl (fun K hK => ?_)
        have hB10 := hB8.ext X10
        have c0 := hB10.cell 0 _ rfl
        have f0 := hB10.fr
        go_simp
        have hc9 := World.cell?_setCell_same w10 ⟨w.heap.size, 0, none⟩ (.int .i64 x) c0
        have X9 : Ext w (w10.setCell ⟨w.heap.size, 0, none⟩ (.int .i64 x)) := (X8.trans X10).pSet (Nat.le_refl _) _
        refine hK.out _ _ ⟨(hG8.ext X10).set_other (by omega) _, ⟨_, Bx.set10 hB10 _⟩, X9⟩ (fun hHeld3 => ?_)
        clear hK K
        (try simp only [List.getElem_toArray, List.getElem_cons_succ, List.getElem_cons_zero, Act.put, List.setIfInBounds_toArray, List.set_cons_zero, List.set_cons_succ])
        refine wpT_last (by kernel_rfl) (by kernel_rfl) rfl (fun K hK => ?_)
        go_simp
        refine hK.out _ _ ?_
        clear hK K
        go_wp2
        have hl8 : w.heap.size < w8.heap.size := hB8.lt
        refine bodyPost_ret (v := .tuple #[dice x, .slice (some ⟨w8.heap.size, 0, none⟩) m m]) (by simp [results, Try.results34, go_sem, hc9]) rfl ⟨x, _, List.replicate m 0, rfl, by simp; omega, ?_, X9⟩
        refine Cd.own.wide (lo := w8.heap.size) (hi := w10.heap.size) (Cd.own.pSet (a := ⟨w.heap.size, 0, none⟩) ?_ (Or.inl hl8) _) (by omega) (by simp [World.setCell])
        exact row_own.2 ⟨_, m, by simp, by simp, by omega, hI10, by simp [ablk]; exact hz10⟩
      · have c0 := hB8.cell 0 _ rfl
        have f0 := hB8.fr
        have hl8 : w.heap.size < w8.heap.size := hB8.lt
        go_simp
        have hc9 := World.cell?_setCell_same w8 ⟨w.heap.size, 0, none⟩ (.int .i64 x) c0
        have X9 : Ext w (w8.setCell ⟨w.heap.size, 0, none⟩ (.int .i64 x)) := X8.pSet (Nat.le_refl _) _
        refine hK.out _ _ ⟨hG8.set_other (by omega) _, ⟨_, Bx.set10 hB8 _⟩, X9⟩ (fun hHeld3 => ?_)
        clear hK K
        (try simp only [List.getElem_toArray, List.getElem_cons_succ, List.getElem_cons_zero, Act.put, List.setIfInBounds_toArray, List.set_cons_zero, List.set_cons_succ])
        refine wpT_step (i := 4) (by kernel_rfl) (by decide) rfl (fun K hK => ?_)
        rw [if_pos (by rfl)]
        refine opwp_make_int _ _ _ rfl 2 Try.underlying25 Try.infoI m (by rfl) (by rfl) (by omega) ?_
        intro w10 hI10 X10 hz10
        refine hK.out _ _ ⟨(hG8.set_other (by omega) _).ext X10, ⟨_, (Bx.set10 hB8 _).ext X10⟩, X9.trans X10⟩ (fun hHeld3 => ?_)
        clear hK K
        (try simp only [List.getElem_toArray, List.getElem_cons_succ, List.getElem_cons_zero, Act.put, List.setIfInBounds_toArray, List.set_cons_zero, List.set_cons_succ])
        have hc10 := cell_ext hc9 X10
        refine wpT_last (by kernel_rfl) (by kernel_rfl) rfl (fun K hK => ?_)
        go_simp
        refine hK.out _ _ ?_
        clear hK K
        go_wp2
        refine bodyPost_ret (v := .tuple #[dice x, .slice (some ⟨(w8.setCell ⟨w.heap.size, 0, none⟩ (.int .i64 x)).heap.size, 0, none⟩) m m]) (by simp [results, Try.results34, go_sem, hc10]) rfl ⟨x, _, List.replicate m 0, rfl, by simp; omega, ?_, X9.trans X10⟩
        refine Cd.own.wide (lo := w8.heap.size) (hi := w10.heap.size) ?_ (by omega) (Nat.le_refl _)
        exact row_own.2 ⟨_, m, by simp, by simp, by omega, hI10, by simp [ablk] at hz10 ⊢; exact hz10⟩

end Go.Proofs.Ytdkhghnhggedbaa
