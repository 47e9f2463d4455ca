/- Links in order: what a cut and a healing leave, in plain words. No program. -/
import Derived.Test.YtjjeagblgjmcpaaNt11b
set_option linter.unusedVariables false
set_option linter.unusedSimpArgs false
namespace Go.Proofs.Ytjjeagblgjmcpaa
open Go.RowKit Go.Sl

theorem less_trans {x y z : LinkD} (h : linkLess x y = true) (k : linkLess y z = true) : linkLess x z = true := by
  simp only [linkLess, Bool.or_eq_true, Bool.and_eq_true, decide_eq_true_eq] at h k ⊢
  omega
theorem less_irrefl (x : LinkD) : linkLess x x = false := by
  simp [linkLess]
theorem less_total {x y : LinkD} (h : linkLess y x = false) (hn : y ≠ x) : linkLess x y = true := by
  obtain ⟨a, b⟩ := x
  obtain ⟨c, d⟩ := y
  have h' : ¬ (linkLess (c, d) (a, b) = true) := by rw [h]; simp
  simp only [linkLess, Bool.or_eq_true, Bool.and_eq_true, decide_eq_true_eq] at h' ⊢
  have : ¬ (c = a ∧ d = b) := fun e => hn (by rw [e.1, e.2])
  omega
/-- The links are right, and in order. -/
def LinksIn (l : List LinkD) : Prop := (∀ x ∈ l, linkOk x = true) ∧ l.Pairwise (fun x y => linkLess x y = true)
theorem linksIn_of {l : List LinkD} (h : (List.range l.length).all (cutAt l) = true) : LinksIn l := by
  have hk : ∀ k (hk : k < l.length), linkOk l[k] = true ∧ ∀ j (hj : j + 1 = k), linkLess (l[j]'(by omega)) l[k] = true := by
    intro k hk
    have h1 := List.all_eq_true.1 h k (List.mem_range.2 hk)
    unfold cutAt at h1
    simp only [Bool.and_eq_true, Bool.or_eq_true, decide_eq_true_eq] at h1
    rw [cutAt_get (x := l[k]) (List.getElem?_eq_getElem hk)] at h1
    refine ⟨h1.1, fun j hj => ?_⟩
    rcases h1.2 with h2 | h2
    · omega
    · subst hj
      rw [Nat.add_sub_cancel, cutAt_get (x := l[j]'(by omega)) (List.getElem?_eq_getElem _)] at h2
      exact h2
  refine ⟨fun x hx => ?_, List.pairwise_iff_getElem.2 (fun i j hi hj hij => ?_)⟩
  · obtain ⟨k, hk1, rfl⟩ := List.mem_iff_getElem.1 hx
    exact (hk k hk1).1
  · induction j with
    | zero => omega
    | succ j ih =>
      have h1 := (hk (j + 1) hj).2 j rfl
      by_cases e : i = j
      · subst e; exact h1
      · exact less_trans (ih (by omega) (by omega)) h1
theorem linksIn_to {l : List LinkD} (h : LinksIn l) : (List.range l.length).all (cutAt l) = true := by
  refine List.all_eq_true.2 (fun k hk => ?_)
  have hk := List.mem_range.1 hk
  unfold cutAt
  simp only [Bool.and_eq_true, Bool.or_eq_true, decide_eq_true_eq]
  rw [cutAt_get (x := l[k]) (List.getElem?_eq_getElem hk)]
  refine ⟨h.1 _ (List.getElem_mem hk), ?_⟩
  by_cases e : k = 0
  · exact .inl e
  · refine .inr ?_
    rw [cutAt_get (x := l[k - 1]'(by omega)) (List.getElem?_eq_getElem _)]
    exact List.pairwise_iff_getElem.1 h.2 (k - 1) k (by omega) hk (by omega)
/-- Where a link stands among all. -/
def linkRank (x : LinkD) : Int := if x.1 = 0 then x.2 - 1 else if x.1 = 1 then x.2 + 3 else if x.1 = 2 then x.2 + 6 else if x.1 = 3 then x.2 + 8 else 14
theorem linkOk_bd {x : LinkD} (h : linkOk x = true) : 0 ≤ x.1 ∧ x.1 < x.2 ∧ x.2 < 6 := by
  simp only [linkOk, nodeOk, inB, Bool.and_eq_true, decide_eq_true_eq] at h
  omega
theorem rank_bd {x : LinkD} (h : linkOk x = true) : 0 ≤ linkRank x ∧ linkRank x < 15 := by
  have := linkOk_bd h
  unfold linkRank
  repeat' split
  all_goals omega
theorem rank_lt {x y : LinkD} (hx : linkOk x = true) (hy : linkOk y = true) (h : linkLess x y = true) : linkRank x < linkRank y := by
  have h1 := linkOk_bd hx
  have h2 := linkOk_bd hy
  simp only [linkLess, Bool.or_eq_true, Bool.and_eq_true, decide_eq_true_eq] at h
  unfold linkRank
  repeat' split
  all_goals omega
theorem pairs_short : ∀ (l : List Int) (lo : Int), (∀ x ∈ l, lo ≤ x ∧ x < 15) → l.Pairwise (· < ·) → lo ≤ 15 → (l.length : Int) ≤ 15 - lo
  | [], lo, _, _, hl => by simp; omega
  | x :: l, lo, h, hp, hl => by
    have h0 := h x (by simp)
    rw [List.pairwise_cons] at hp
    have := pairs_short l (x + 1) (fun y hy => ⟨by have := hp.1 y hy; omega, (h y (by simp [hy])).2⟩) hp.2 (by omega)
    simp only [List.length_cons]
    omega
theorem linksIn_len {l : List LinkD} (h : LinksIn l) : l.length ≤ 15 := by
  have := pairs_short (l.map linkRank) 0 (fun x hx => by
    obtain ⟨y, hy, rfl⟩ := List.mem_map.1 hx
    exact rank_bd (h.1 y hy)) (by
    rw [List.pairwise_map]
    exact List.Pairwise.imp_of_mem (fun hx hy hl => rank_lt (h.1 _ hx) (h.1 _ hy) hl) h.2) (by omega)
  simp at this
  omega
theorem netOk_iff {ms : List MsgD} {l : List LinkD} : netOk (ms, l) = true ↔ (ms.length ≤ 60 ∧ ms.all msgOk = true) ∧ LinksIn l := by
  unfold netOk
  simp only [Bool.and_eq_true, decide_eq_true_eq]
  constructor
  · rintro ⟨⟨⟨h1, h2⟩, h3⟩, h4⟩
    exact ⟨⟨h1, h3⟩, linksIn_of h4⟩
  · rintro ⟨⟨h1, h3⟩, h4⟩
    exact ⟨⟨⟨h1, linksIn_len h4⟩, h3⟩, linksIn_to h4⟩
theorem linksIn_put {l : List LinkD} {x : LinkD} (h : LinksIn l) (hx : linkOk x = true) (hn : ¬ x ∈ l) : LinksIn (l.take (cutPos l x) ++ x :: l.drop (cutPos l x)) := by
  have hp := h.2
  rw [← List.take_append_drop (cutPos l x) l, List.pairwise_append] at hp
  have ha : ∀ y ∈ l.take (cutPos l x), linkLess y x = true := fun y hy => by
    obtain ⟨k, hk, rfl⟩ := List.mem_iff_getElem.1 hy
    rw [List.length_take] at hk
    rw [List.getElem_take]
    exact cutPos_lt (l := l) (k := k) (by omega) (List.getElem?_eq_getElem _)
  have hb : ∀ y ∈ l.drop (cutPos l x), linkLess x y = true := fun y hy => by
    have hlt : cutPos l x < l.length := by
      rcases Nat.lt_or_ge (cutPos l x) l.length with h | h
      · exact h
      · rw [List.drop_eq_nil_of_le h] at hy; cases hy
    rw [List.drop_eq_getElem_cons hlt] at hy
    have h0 : linkLess x l[cutPos l x] = true := less_total (cutPos_at (List.getElem?_eq_getElem hlt)) (fun e => hn (e ▸ List.getElem_mem hlt))
    rcases List.mem_cons.1 hy with rfl | hy
    · exact h0
    · have h1 := hp.2.1
      rw [List.drop_eq_getElem_cons hlt, List.pairwise_cons] at h1
      exact less_trans h0 (h1.1 y hy)
  refine ⟨fun y hy => ?_, ?_⟩
  · rcases List.mem_append.1 hy with hy | hy
    · exact h.1 y (List.mem_of_mem_take hy)
    · rcases List.mem_cons.1 hy with rfl | hy
      · exact hx
      · exact h.1 y (List.mem_of_mem_drop hy)
  · rw [List.pairwise_append, List.pairwise_cons]
    refine ⟨hp.1, ⟨hb, hp.2.1⟩, fun y hy z hz => ?_⟩
    rcases List.mem_cons.1 hz with rfl | hz
    · exact ha y hy
    · exact less_trans (ha y hy) (hb z hz)
theorem mem_put {l : List LinkD} {x y : LinkD} (k : Nat) : y ∈ l.take k ++ x :: l.drop k ↔ y = x ∨ y ∈ l := by
  rw [List.mem_append, List.mem_cons]
  constructor
  · rintro (h | h | h)
    · exact .inr (List.mem_of_mem_take h)
    · exact .inl h
    · exact .inr (List.mem_of_mem_drop h)
  · rintro (h | h)
    · exact .inr (.inl h)
    · rw [← List.take_append_drop k l, List.mem_append] at h
      rcases h with h | h
      · exact .inl h
      · exact .inr (.inr h)
theorem linksIn_nodup {l : List LinkD} (h : LinksIn l) : l.Nodup := List.Pairwise.imp (fun {a b} hl e => by subst e; rw [less_irrefl] at hl; cases hl) h.2
theorem linksIn_cut {l : List LinkD} {x : LinkD} (h : LinksIn l) : LinksIn (l.eraseIdx (l.idxOf x)) :=
  ⟨fun y hy => h.1 y ((List.eraseIdx_sublist l _).subset hy), List.Pairwise.sublist (List.eraseIdx_sublist l _) h.2⟩
theorem mem_cut {l : List LinkD} {x y : LinkD} (h : LinksIn l) (hx : x ∈ l) : y ∈ l.eraseIdx (l.idxOf x) ↔ y ≠ x ∧ y ∈ l := by
  rw [← List.erase_eq_eraseIdx_of_idxOf (rfl : l.idxOf x = l.idxOf x)]
  exact (linksIn_nodup h).mem_erase_iff
theorem linkOf_ok {a b : Int} (ha : 0 ≤ a ∧ a < 6) (hb : 0 ≤ b ∧ b < 6) (hn : a ≠ b) : linkOk (linkOf a b) = true := by
  simp only [linkOk, nodeOk, inB, linkOf, Bool.and_eq_true, decide_eq_true_eq]
  split <;> simp <;> omega
theorem linkOf_eq {a b c d : Int} : linkOf a b = linkOf c d ↔ (a = c ∧ b = d) ∨ (a = d ∧ b = c) := by
  unfold linkOf
  repeat' split
  all_goals simp only [Prod.mk.injEq]
  all_goals omega
theorem linkOf_self {a : Int} {l : List LinkD} (h : LinksIn l) : ¬ linkOf a a ∈ l := fun hm => by
  have := linkOk_bd (h.1 _ hm)
  unfold linkOf at this
  split at this <;> simp at this <;> omega

/-- The table of the cuts tells the links that are cut. -/
def Told (l : List LinkD) (M : List Bool) : Prop := LinksIn l ∧ M.length = 36 ∧ ∀ a b : Nat, a < 6 → b < 6 → M[6 * a + b]? = some (decide (linkOf a b ∈ l))
theorem told_start : Told [] (List.replicate 36 false) := by
  refine ⟨⟨by simp, List.Pairwise.nil⟩, by simp, fun a b ha hb => ?_⟩
  rw [List.getElem?_replicate, if_pos (by omega)]
  simp
theorem told_set {l l' : List LinkD} {M : List Bool} {a b : Nat} {v : Bool} (h : Told l M) (h' : LinksIn l') (ha : a < 6) (hb : b < 6) (hv : decide (linkOf a b ∈ l') = v) (ho : ∀ y, y ≠ linkOf a b → (y ∈ l' ↔ y ∈ l)) : Told l' ((M.set (6 * a + b) v).set (6 * b + a) v) := by
  refine ⟨h', by rw [List.length_set, List.length_set]; exact h.2.1, fun c d hc hd => ?_⟩
  have hl := h.2.1
  rw [List.getElem?_set, List.getElem?_set, List.length_set]
  by_cases e1 : 6 * b + a = 6 * c + d
  · rw [if_pos e1, if_pos (by omega), ← hv]
    have : linkOf (c : Int) d = linkOf a b := linkOf_eq.2 (.inr (by omega))
    rw [this]
  · rw [if_neg e1]
    by_cases e2 : 6 * a + b = 6 * c + d
    · rw [if_pos e2, if_pos (by omega), ← hv]
      have : linkOf (c : Int) d = linkOf a b := linkOf_eq.2 (.inl (by omega))
      rw [this]
    · rw [if_neg e2, h.2.2 c d hc hd]
      have : linkOf (c : Int) d ≠ linkOf a b := fun e => by
        rcases linkOf_eq.1 e with h | h <;> omega
      have := ho _ this
      simp [this]
end Go.Proofs.Ytjjeagblgjmcpaa
