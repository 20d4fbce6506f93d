import Derived.Test.YteombjhaanohiaaT07t
import Derived.Test.YteombjhaanohiaaShapes
set_option linter.all false
/-! MatrixTells, MatrixJoins, called. -/
namespace Go.AR
open Go Go.Proofs
theorem hasN_rows {k : IntKind} {c : Nat} : ∀ (n : Nat) (cs : List PV), hasN (Sh.arr c (.int k)).has n cs → ∃ l : List Int, l.length = n * c ∧ cs = l.map (.int k)
  | 0, cs, h => ⟨[], by simp, h⟩
  | n + 1, cs, h => by
    obtain ⟨a, b, e, ha, hb⟩ := h
    obtain ⟨l1, h1, h2, _⟩ := hasN_ints c a ha
    obtain ⟨l2, h3, h4⟩ := hasN_rows n b hb
    exact ⟨l1 ++ l2, by rw [List.length_append, h1, h3, Nat.add_mul]; omega, by rw [e, h2, h4, List.map_append]⟩
theorem call_MatrixTells : ∀ ps, HasArgs [.arr 16 (.arr 16 (.int .i64)), .int .i64, .arr 16 (.int .i64), .int .i64, .struct [.int .i64, .int .i64]] ps → ACall Try.prog (F07 n_plaw07_MatrixTells) (ps.map .v) (.val (.bool true)) [] := by
  intro ps hps
  obtain ⟨c1, p1, h1, rfl, k1⟩ := args_cons hps
  obtain ⟨c2, p2, ⟨i, rfl, _⟩, rfl, k2⟩ := args_cons k1
  obtain ⟨c3, p3, h3, rfl, k3⟩ := args_cons k2
  obtain ⟨c4, p4, ⟨n, rfl, _⟩, rfl, k4⟩ := args_cons k3
  obtain ⟨c5, p5, h5, rfl, k5⟩ := args_cons k4
  obtain rfl := args_nil k5
  obtain ⟨m, hm, rfl⟩ := hasN_rows 16 c1 h1
  obtain ⟨v, hv, rfl, _⟩ := hasN_ints 16 c3 h3
  obtain ⟨_, _, rfl, ⟨r, rfl, _⟩, _, _, rfl, ⟨k, rfl, _⟩, rfl⟩ := h5
  exact t07_MatrixTells m i v n r k hm hv
theorem call_MatrixJoins : ∀ ps, HasArgs [.arr 16 (.arr 16 (.int .i64)), .arr 16 (.arr 16 (.int .i64)), .int .i64, .int .i64] ps → ACall Try.prog (F07 n_plaw07_MatrixJoins) (ps.map .v) (.val (.bool true)) [] := by
  intro ps hps
  obtain ⟨c1, p1, h1, rfl, k1⟩ := args_cons hps
  obtain ⟨c2, p2, h2, rfl, k2⟩ := args_cons k1
  obtain ⟨c3, p3, ⟨n, rfl, _⟩, rfl, k3⟩ := args_cons k2
  obtain ⟨c4, p4, ⟨i, rfl, _⟩, rfl, k4⟩ := args_cons k3
  obtain rfl := args_nil k4
  obtain ⟨a, ha, rfl⟩ := hasN_rows 16 c1 h1
  obtain ⟨b, hb, rfl⟩ := hasN_rows 16 c2 h2
  exact t07_MatrixJoins a b n i ha hb
end Go.AR
