/- From a law's contract to its statement: the arguments read as data, whatever they are; the call returns true and leaves all that was there. Plain lemmas, over every program. -/
import Derived.Test.YtbapomhoipdanaaBase
import Derived.ProofKit
import Derived.Deep.Slices
set_option linter.unusedVariables false
set_option linter.unusedSimpArgs false
namespace Go.Sl
open Go.ChangeShapes Go.WideShapes Go.ChangeAt Go.RowKit

/-! ## a reading of the form's is a reading of ours -/

/-- Whatever reads at type t reads by R. -/
def Tied (P : Program) {α : Type} (R : Cd α) (t : TypeId) : Prop :=
  ∀ {H : Type} (enc : TypeId × Value → H) (w : World) (base : Nat) (spare : Nat → Bool) (held : Bool) (fuel : Nat) (cs : List Value) (x : DataW H × List MemPlace),
    DataW.trod enc P w base spare held fuel t cs = some x → ∃ d : α, R.V w cs d

section
variable {P : Program}

theorem Tied.int {t : TypeId} (ht : P.underlying t = some (.int .i64)) : Tied P intC t := by
  intro H enc w base spare held fuel cs x h
  obtain ⟨n, rfl, _⟩ := DataW.trod_int ht h
  exact ⟨n, rfl⟩

theorem add_off {a : Addr} {n b o : Nat} (h : a.add n = ⟨b, o, none⟩) (hs : a.spot = none) : a = ⟨b, a.off, none⟩ ∧ o = a.off + n := by
  obtain ⟨ab, ao, as⟩ := a
  simp only at hs
  subst hs
  unfold Addr.add at h
  split at h
  · rename_i e; simp at h; obtain ⟨rfl, rfl⟩ := h; simp [e]
  · simp at h; obtain ⟨rfl, rfl⟩ := h; simp

theorem Tied.slice {α : Type} {R : Cd α} {t e : TypeId} (ht : P.underlying t = some (.slice e)) (hn : P.cellsOf e = R.n) (hp : 0 < R.n) (hR : Tied P R e) : Tied P (sliceC R) t := by
  intro H enc w base spare held fuel cs x h
  rcases Deep.open_slice ht h with ⟨rfl, _⟩ | ⟨a, len, cap, m, n, D, Pl, rfl, _, hl, hm, hmm, _, hx⟩
  · exact ⟨[], none, 0, [], rfl, Nat.le_refl _, Nat.zero_le _, fun j u hj => by simp at hj, rfl⟩
  · have hlm : len ≤ m := by rw [hmm]; split <;> omega
    have key : ∀ k, k ≤ len → ∃ (l : List α) (xs : List Value), l.length = k ∧ xs.length = k * R.n ∧ elemsV (R.V w) xs l ∧ CellsAt w (some a) xs := by
      intro k
      induction k with
      | zero => intro _; exact ⟨[], [], rfl, by simp, rfl, fun j u hj => by simp at hj⟩
      | succ k ih =>
        intro hk
        obtain ⟨l, xs, h1, h2, h3, h4⟩ := ih (by omega)
        obtain ⟨cs', hc, ht'⟩ := hx k (by omega)
        obtain ⟨d, hd⟩ := hR enc w base spare held n cs' _ ht'
        have hlen := R.len hd
        obtain ⟨_, _, hcell⟩ := World.cells?_some hc
        rw [hn] at hcell
        refine ⟨l ++ [d], xs ++ cs', by simp [h1], by rw [List.length_append, h2, hlen, Nat.add_mul]; omega, (elemsV_append R).2 ⟨xs, cs', rfl, h3, cs', [], by simp, hd, rfl⟩, ?_⟩
        intro j u hj
        by_cases hjx : j < xs.length
        · exact h4 j u (by rw [List.getElem?_append_left hjx] at hj; exact hj)
        · rw [List.getElem?_append_right (by omega)] at hj
          have hlt : j - xs.length < cs'.length := (List.getElem?_eq_some_iff.1 hj).1
          have hc' := hcell (j - xs.length) (by omega)
          rw [hj, Deep.add_add, ← h2, show xs.length + (j - xs.length) = j by omega] at hc'
          have hs : a.spot = none := by
            unfold World.cell? at hc'
            split at hc'
            · split at hc'
              · cases hc'
              · rename_i hh
                unfold Addr.add at hh
                split at hh
                · simpa using hh
                · by_cases hj0 : j = 0
                  · omega
                  · -- element 0's first cell lies at a itself
                    have h0 : a.add (0 * P.cellsOf e) = a := by unfold Addr.add; simp
                    obtain ⟨cs0, hc0, ht0⟩ := hx 0 (by omega)
                    rw [h0] at hc0
                    obtain ⟨_, hl0, hcell0⟩ := World.cells?_some hc0
                    have := hcell0 0 (by omega)
                    rw [show a.add 0 = a by unfold Addr.add; simp] at this
                    rw [List.getElem?_eq_getElem (by omega)] at this
                    unfold World.cell? at this
                    split at this
                    · split at this
                      · cases this
                      · rename_i h5; simpa using h5
                    · cases this
            · cases hc'
          obtain ⟨ab, ao, as⟩ := a
          simp only at hs
          subst hs
          exact ⟨ab, ao, rfl, by rw [Addr.add_lit] at hc'; exact hc'⟩
    obtain ⟨l, xs, h1, _, h3, h4⟩ := key len (Nat.le_refl _)
    exact ⟨l, some a, cap, xs, by rw [h1], by rw [h1]; exact hl, hm, h4, h3⟩

theorem Tied.struct1 {α : Type} {R : Cd α} {t : TypeId} {f : Field} (ht : P.underlying t = some (.struct #[f])) (ho : f.offset = 0) (hc : P.cellsOf t = R.n) (hf : P.cellsOf f.type = R.n) (hR : Tied P R f.type) : Tied P R t := by
  intro H enc w base spare held fuel cs x h
  obtain ⟨xs, n, _, rfl, hl, hlen, hx⟩ := DataW.trod_struct ht h
  have h0 := hx 0 f rfl
  rw [ho, hf, List.drop_zero, List.take_of_length_le (by omega)] at h0
  match xs, hlen with
  | [y], _ => exact hR enc w base spare held n cs y (by simpa using h0)

theorem Tied.struct2 {α β : Type} {R : Cd α} {S : Cd β} {t : TypeId} {f g : Field} (ht : P.underlying t = some (.struct #[f, g])) (ho : f.offset = 0 ∧ g.offset = R.n) (hc : P.cellsOf t = R.n + S.n)
    (hf : P.cellsOf f.type = R.n) (hg : P.cellsOf g.type = S.n) (hR : Tied P R f.type) (hS : Tied P S g.type) : Tied P (prodC R S) t := by
  intro H enc w base spare held fuel cs x h
  obtain ⟨xs, n, _, rfl, hl, hlen, hx⟩ := DataW.trod_struct ht h
  have h0 := hx 0 f rfl
  have h1 := hx 1 g rfl
  rw [ho.1, hf, List.drop_zero] at h0
  rw [ho.2, hg, List.take_of_length_le (by rw [List.length_drop]; omega)] at h1
  match xs, hlen with
  | [y, z], _ =>
    obtain ⟨d, hd⟩ := hR enc w base spare held n _ y (by simpa using h0)
    obtain ⟨d', hd'⟩ := hS enc w base spare held n _ z (by simpa using h1)
    exact ⟨(d, d'), _, _, (List.take_append_drop R.n cs).symm, hd, hd'⟩

theorem Tied.struct3 {α β γ : Type} {R : Cd α} {S : Cd β} {U : Cd γ} {t : TypeId} {f g k : Field} (ht : P.underlying t = some (.struct #[f, g, k])) (ho : f.offset = 0 ∧ g.offset = R.n ∧ k.offset = R.n + S.n) (hc : P.cellsOf t = R.n + (S.n + U.n))
    (hf : P.cellsOf f.type = R.n) (hg : P.cellsOf g.type = S.n) (hk : P.cellsOf k.type = U.n) (hR : Tied P R f.type) (hS : Tied P S g.type) (hU : Tied P U k.type) : Tied P (prodC R (prodC S U)) t := by
  intro H enc w base spare held fuel cs x h
  obtain ⟨xs, n, _, rfl, hl, hlen, hx⟩ := DataW.trod_struct ht h
  have h0 := hx 0 f rfl
  have h1 := hx 1 g rfl
  have h2 := hx 2 k rfl
  rw [ho.1, hf, List.drop_zero] at h0
  rw [ho.2.1, hg] at h1
  rw [ho.2.2, hk, List.take_of_length_le (by rw [List.length_drop]; omega)] at h2
  match xs, hlen with
  | [y, z, u], _ =>
    obtain ⟨d, hd⟩ := hR enc w base spare held n _ y (by simpa using h0)
    obtain ⟨d', hd'⟩ := hS enc w base spare held n _ z (by simpa using h1)
    obtain ⟨d'', hd''⟩ := hU enc w base spare held n _ u (by simpa using h2)
    refine ⟨(d, d', d''), _, _, (List.take_append_drop R.n cs).symm, hd, _, _, ?_, hd', hd''⟩
    rw [← List.drop_drop, List.take_append_drop]

/-! ## arguments -/

/-- An argument: it fits its type, and it reads. -/
def ArgOk (P : Program) (W : World) (t : TypeId) (v : Value) : Prop :=
  ∃ (H : Type) (enc : TypeId × Value → H) (base : Nat) (d : DataW H) (p : List MemPlace), Value.okWide P W .any base t v ∧ DataW.Trod enc P W 0 (fun _ => true) true t v d p

theorem ArgOk.int {W : World} {t : TypeId} {v : Value} (h : ArgOk P W t v) (ht : P.underlying t = some (.int .i64)) : ∃ n, v = .int .i64 n := by
  obtain ⟨H, enc, base, d, p, h1, h2⟩ := h
  exact okWide_int ht h1

theorem ArgOk.slice {α : Type} {R : Cd α} {W : World} {t e : TypeId} {v : Value} (h : ArgOk P W t v) (ht : P.underlying t = some (.slice e)) (hR : Tied P (sliceC R) t) : ∃ l : List α, (sliceC R).V W [v] l := by
  obtain ⟨H, enc, base, d, p, h1, fuel, h2⟩ := h
  obtain ⟨a, len, cap, rfl⟩ := okWide_slice ht h1
  exact hR enc W 0 _ _ fuel _ _ h2

theorem ArgOk.struct {α : Type} {R : Cd α} {W : World} {t : TypeId} {fs : Array Field} {v : Value} (h : ArgOk P W t v) (ht : P.underlying t = some (.struct fs)) (hR : Tied P R t) : ∃ (cs : List Value) (x : α), v = .agg cs.toArray ∧ R.V W cs x := by
  obtain ⟨H, enc, base, d, p, h1, fuel, h2⟩ := h
  obtain ⟨cs, rfl, _⟩ := okWide_struct ht h1
  obtain ⟨x, hx⟩ := hR enc W 0 _ _ fuel _ _ h2
  exact ⟨cs.toList, x, by simp, hx⟩
end

/-! ## the statement -/

section
variable {H : Type} {enc : TypeId × Value → H} {P : Program}

theorem post_of_below {f : Func} {s : ChangeSpec} {apart fresh handsOn again : Bool} {W W' : World} {args : Array Value} {v : Value} {ds gs : List (DataW H)} {before pa pv : List MemPlace}
    (hW : DataW.Whole enc P f.params.toList s.vars apart W args.toList ds gs before)
    (hres : ∀ (b : Nat) (sp : Nat → Bool) (hd : Bool), DataW.TrodAll enc P W' b sp hd f.resultTypes.toList (v.resultList f.resultTypes.size) (s.fn H (ds ++ gs)).results [])
    (hargs : ∀ sp : Nat → Bool, (∀ p ∈ before, sp p.block = true) → DataW.TrodAll enc P W' 0 sp true f.params.toList args.toList (s.fn H (ds ++ gs)).args pa)
    (hvars : ∀ sp : Nat → Bool, (∀ p ∈ before, sp p.block = true) → DataW.TrodVars enc P W' sp s.vars (s.fn H (ds ++ gs)).vars pv)
    (hps : before = pa ++ pv) (hb : Below W.heap.size W W')
    (hok : ∀ (j : Nat) (t : TypeId) (r : Value), f.resultTypes[j]? = some t → (v.resultList f.resultTypes.size)[j]? = some r → Value.okWide P W' .any 0 t r) :
    s.post enc P f apart fresh handsOn again W args v W' := by
  have hlt : ∀ p ∈ before, p.block < W.heap.size := fun p hp => hW.lt p hp
  have hold : ∀ p ∈ before, (fun b => decide (b < W.heap.size)) p.block = true := fun p hp => by simpa using hlt p hp
  refine ⟨ds, gs, before, [], pa, pv, hW, hres _ _ _, hargs _ hold, hvars _ hold, World.keptBut_mono (fun p hp => ⟨hp, ?_⟩) (hb.frame (· ∈ before)), fun _ => ?_⟩
  · rw [hps, List.mem_append] at hp
    exact Or.inr hp
  · obtain ⟨_, _, _, _, _, hz, hn⟩ := hW
    refine ⟨hok, _, _, ([] ++ pa) ++ pv, ⟨[] ++ pa, pv, trodAll_append (hargs _ (fun _ _ => rfl)) (hres _ _ _), hvars _ (fun _ _ => rfl), rfl, ?_, ?_⟩, ?_⟩
    · intro b off hp
      have hin : MemPlace.cell b off ∈ before := by rw [hps]; simpa using hp
      rw [hb.frozen (hlt _ hin)]
      exact hz b off hin
    · intro ha
      have := hn ha
      rw [hps] at this
      simpa using this
    · intro p hp _
      rw [hps]
      simpa using hp

theorem trodAll_length {w : World} {base : Nat} {spare : Nat → Bool} {held : Bool} : ∀ {ts : List TypeId} {vs : List Value} {ds : List (DataW H)} {ps : List MemPlace}, DataW.TrodAll enc P w base spare held ts vs ds ps → vs.length = ts.length ∧ ds.length = ts.length
  | [], [], [], _, _ => ⟨rfl, rfl⟩
  | t :: ts, v :: vs, d :: ds, ps, ⟨p, q, _, h, _⟩ => by have := trodAll_length h; simp [this.1, this.2]

theorem trodAll_below {W W' : World} (hl : laidOutB P = true) (hb : Below W.heap.size W W') : ∀ {ts : List TypeId} {vs : List Value} {ds : List (DataW H)} {ps : List MemPlace} (sp : Nat → Bool),
    (∀ t ∈ ts, P.readableRec t = true ∧ t < P.types.size) → DataW.TrodAll enc P W 0 (fun _ => true) true ts vs ds ps → (∀ p ∈ ps, p.block < W.heap.size) → (∀ p ∈ ps, sp p.block = true) → DataW.TrodAll enc P W' 0 sp true ts vs ds ps
  | [], [], [], _, _, _, h, _, _ => h
  | t :: ts, v :: vs, d :: ds, ps, sp, hr, ⟨p, q, h1, h2, he⟩, hlt, hsp => by
    subst he
    exact ⟨p, q, WideElems.Trod_stays hl (hr t (by simp)).1 (hr t (by simp)).2 h1 (fun x hx => hb.same (hlt x (List.mem_append_left _ hx))) (fun x hx => hsp x (List.mem_append_left _ hx)),
      trodAll_below hl hb sp (fun t ht => hr t (by simp [ht])) h2 (fun x hx => hlt x (List.mem_append_right _ hx)) (fun x hx => hsp x (List.mem_append_right _ hx)), rfl⟩

theorem trodAll_args {W : World} : ∀ {ts : List TypeId} {vs : List Value} {ds : List (DataW H)} {ps : List MemPlace}, DataW.TrodAll enc P W 0 (fun _ => true) true ts vs ds ps →
    ∀ (j : Nat) (t : TypeId) (v : Value), ts[j]? = some t → vs[j]? = some v → ∃ d p, DataW.Trod enc P W 0 (fun _ => true) true t v d p
  | t :: ts, v :: vs, d :: ds, ps, ⟨p, q, h1, h2, he⟩, j, t', v', ht, hv => by
    cases j with
    | zero => simp at ht hv; subst ht; subst hv; exact ⟨d, p, h1⟩
    | succ j => exact trodAll_args h2 j t' v' (by simpa using ht) (by simpa using hv)
end

/-- A law whose contract says: for arguments that fit and read, it returns true and leaves all that was there. -/
theorem law_lifted {H : Type} {enc : TypeId × Value → H} {C : Checked} {os : Os} {f : FuncId} {fn : Func} {s : ChangeSpec} {tb : TypeId}
    (own : ownKnob C.prog.godebug = none) (started : os.Started) (noInit : C.prog.inits.idxOf? f = none) (hfn : C.prog.funcs[f]? = some fn) (hl : laidOutB C.prog = true)
    (hread : ∀ t ∈ fn.params.toList, C.prog.readableRec t = true ∧ t < C.prog.types.size) (hres : fn.resultTypes = #[tb]) (htb : C.prog.underlying tb = some .bool)
    (hv : s.vars = []) (hspec : ∀ ds : List (DataW H), ds.length = fn.params.toList.length → (s.fn H ds).results = [.lit (.bool true)] ∧ (s.fn H ds).args = ds ∧ (s.fn H ds).vars = [])
    (witness : ∃ (w : World) (tape : Tape) (i : Input), w.os = os ∧ (w.forCall tape i).Shaped C.prog ∧ i.vars = [] ∧ Input.okWide C.prog (w.forCall tape i) .any w.heap.size f i ∧
      s.pre6 enc C.prog fn [] false (w.forCall tape i).memory i.args ∧ ({} : Assume).holds C.prog (lone (Frame.enter C.prog f i.args .normal) [] (w.forCall tape i)))
    (contract : ∀ (W : World) (args : Array Value), args.size = fn.params.size → (∀ (j : Nat) t v, fn.params[j]? = some t → args[j]? = some v → ArgOk C.prog W t v) →
      Calls C.prog f args W fun e W' => e = .returned (.bool true) ∧ Ext W W') :
    ReturnsInHanded {} C os f .any (s.pre6 enc C.prog fn [] false) (s.post enc C.prog fn false true false false) := by
  refine returnsInHanded_of_change own started noInit hfn witness ?_
  intro W base args ds gs before hval hW hcnd _
  have hW' := hW
  obtain ⟨p, q, hA, hV, hpq, hfz, hnd⟩ := hW
  rw [hv] at hV
  have hgq : gs = [] ∧ q = [] := by
    cases gs with
    | nil => exact ⟨rfl, hV⟩
    | cons g gs => exact hV.elim
  obtain ⟨rfl, rfl⟩ := hgq
  have hlen := trodAll_length hA
  refine (contract W args (by simpa using hlen.1) (fun j t v ht hv' => ?_)).mono fun e W' ⟨he, hb⟩ => ?_
  · obtain ⟨d, p', h'⟩ := trodAll_args hA j t v (by simpa using ht) (by simpa using hv')
    exact ⟨H, enc, base, d, p', hval j t v ht hv', h'⟩
  · obtain ⟨hr, ha, hvs⟩ := hspec ds hlen.2
    have hlt : ∀ p ∈ before, p.block < W.heap.size := fun p hp => hW'.lt p hp
    have e0 : ds ++ ([] : List (DataW H)) = ds := List.append_nil ds
    refine ⟨_, he, post_of_below (pa := p) (pv := []) hW' ?_ ?_ ?_ hpq hb.below (ok_one hres rfl (okWide_bool_mk htb true))⟩
    · intro b sp hd
      rw [e0, hr, hres]
      exact trodAll_mk1 (shut_bool htb true)
    · intro sp hsp
      rw [e0, ha]
      exact trodAll_below hl hb.below sp hread hA (fun x hx => hlt x (by rw [hpq]; exact List.mem_append_left _ hx)) (fun x hx => hsp x (by rw [hpq]; exact List.mem_append_left _ hx))
    · intro sp hsp
      rw [hv, e0, hvs]
      exact rfl

end Go.Sl
