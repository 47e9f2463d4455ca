/- The append's law over cells: what it leaves. -/
import Derived.Test.YtbapomhoipdanaaApd
set_option linter.unusedVariables false
set_option linter.unusedSimpArgs false
namespace Go.Sl
open Go.RowKit
theorem opwp_append_sl {P : Program} {w : World} {o : Oper} {ac : Act} {K : Act → World → Prop} {Q : Exit → Act → World → Prop} (s x : Operand) (t : TypeId)
    (ho : o.op = .call { callee := .builtin .append, args := #[s, x], argTypes := #[t, t] })
    (e : TypeId) (z : Value) (n bytes : Nat) (ht : P.underlying t = some (.slice e)) (hinfo : (P.info? e).map (fun i => (i.zero, i.size, i.bytes)) = some (some z, n, bytes)) (hzs : z.cells.size = n)
    (a : Option Addr) (len cap : Nat) (xs : List Value) (hs : ac.eval s = .slice a len cap) (hl : xs.length = len * n) (hsl : SlAt w n a cap xs) (hlc : len ≤ cap) (hcap : cap ≤ 9223372036854775807)
    (ax : Option Addr) (m c : Nat) (news : List Value) (hx : ac.eval x = .slice ax m c) (hnl : news.length = m * n) (hnews : CellsAt w ax news) (h1 : ∀ u ∈ news, u.oneCell' = true)
    (hbytes : (len + m) * bytes ≤ 140737488355328 ∧ len + m ≤ 9223372036854775807)
    (h : ∀ a' cap' w', SlAt w' n a' cap' (xs ++ news) → len + m ≤ cap' → cap' ≤ 9223372036854775807 → AppW w w' a a' → K (ac.put o.dst (.slice a' (len + m) cap')) w') : Oper.wp P o ac w K Q := by
  obtain ⟨i, hi, hz, hsize, hby⟩ := info_parts hinfo
  obtain ⟨a', cap', w', hr, h2, h3, h4, h5⟩ := run_append_sl (P := P) w t o.type e i z n bytes ht hi hz hsize hby hzs a len cap xs hl hsl hlc ax m c news hnl hnews h1 (by simpa [maxLen] using hcap) (by simpa [maxLen] using hbytes.2) hbytes.1
  unfold Oper.wp execOp
  simp only [ho, resolve, invoke, builtin, Sem.run_bind, Sem.run_pure, Result.andThen_ok, List.map_toArray, List.map_cons, List.map_nil, hs, hx, hr]
  exact h a' cap' w' h2 h3 (by simpa [maxLen] using h4) h5

theorem made_two (x y : Value) (n : Nat) : (madeCells #[x, y] (n * 2)).toList = (List.replicate n [x, y]).flatten := by
  induction n with
  | zero => simp [madeCells]
  | succ n ih =>
    rw [List.replicate_succ', List.flatten_append, ← ih]
    simp only [madeCells, Array.toList_map, Array.toList_range]
    rw [show (n + 1) * 2 = n * 2 + 1 + 1 by omega, List.range_succ, List.range_succ]
    simp only [List.map_append, List.map_cons, List.map_nil, List.append_assoc]
    congr 1
    have h1 : n * 2 % 2 = 0 := by omega
    have h2 : (n * 2 + 1) % 2 = 1 := by omega
    simp [h1, h2]
theorem made_O {α : Type} {R : Cd α} {w : World} {c : List Value} {x : α} (h : R.O w c x []) (n : Nat) : elemsO (R.O w) (List.replicate n c).flatten (List.replicate n x) [] := by
  induction n with
  | zero => exact ⟨rfl, rfl⟩
  | succ n ih => exact ⟨c, _, [], [], by rw [List.replicate_succ, List.flatten_cons], rfl, h, ih⟩
theorem flat_one (v : Value) (n : Nat) : (List.replicate n [v]).flatten = List.replicate n v := by
  induction n with
  | zero => rfl
  | succ n ih => rw [List.replicate_succ, List.flatten_cons, ih]; rfl
end Go.Sl
