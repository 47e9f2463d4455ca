/- The draws: whole arguments. -/
import Derived.Test.YtdkhghnhggedbaaDr6
set_option linter.unusedVariables false
set_option linter.unusedSimpArgs false
namespace Go.Proofs.Ytdkhghnhggedbaa
open Go.RowKit Go.Sl

theorem drawWithSum_c (n cap : Nat) (a : Option Addr) (w : World) (hn : n ≤ 1000000) (hb : ∀ j, j < n → ∃ (b off : Nat) (x : Int), a = some ⟨b, off, none⟩ ∧ w.cell? ⟨b, off + j, none⟩ = some (.int .u8 x)) :
    Calls Try.prog 40 #[.slice a n cap] w fun e w' => ∃ (v' : Value) (row : List Int), e = .returned v' ∧ row.length ≤ 49 ∧ Hid (∀ x ∈ row, -9223372036854775808 ≤ x ∧ x ≤ 9223372036854775807) ∧ rowC.own w.heap.size w'.heap.size w' [v'] row ∧ Ext w w' := by
  go_enter Try.func40, Try.ntmps40
  go_wp2_with fail
  refine (l1New_c n cap a _ hn hb).mono ?_
  rintro e w1 ⟨cb, rfl, hcb, hD1, hb1, X1⟩
  go_wp2_with fail
  refine (l1DrawAny_c cb n cap a _ hD1 hb1).mono ?_
  rintro e w2 ⟨v, row, rfl, hl, HR, O2, hD2, hC2⟩
  go_wp2
  go_ret
  exact ⟨v, row, rfl, hl, HR, Cd.own.wide O2 X1.size (Nat.le_refl _), Chg.ext X1 hC2 hcb⟩

end Go.Proofs.Ytdkhghnhggedbaa
