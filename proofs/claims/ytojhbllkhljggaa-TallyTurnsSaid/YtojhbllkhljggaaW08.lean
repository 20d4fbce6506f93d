import Derived.Test.YtojhbllkhljggaaT08
import Derived.Test.YtojhbllkhljggaaShapes
set_option linter.all false
/-! Chapter 8's laws, called. -/
namespace Go.AR
open Go Go.Proofs
abbrev dSh : Sh := .struct [.int .i64, .int .i64]
abbrev uSh : Sh := .struct [dSh, .int .i64]
theorem has_dt {r : List PV} (h : dSh.has r) : ∃ d : Dt, r = [.int .i64 d.1, .int .i64 d.2] := by
  obtain ⟨_, _, rfl, ⟨a, rfl, _⟩, _, _, rfl, ⟨b, rfl, _⟩, rfl⟩ := h
  exact ⟨(a, b), rfl⟩
theorem has_ud {r : List PV} (h : uSh.has r) : ∃ u : Ud, r = uRow u := by
  obtain ⟨_, _, rfl, h1, _, _, rfl, ⟨n, rfl, _⟩, rfl⟩ := h
  obtain ⟨d, rfl⟩ := has_dt h1
  exact ⟨(d, n), rfl⟩
theorem has_us {cs : List PV} (h : (Sh.sl uSh).has cs) : ∃ l : List Ud, cs = [usP l] := by
  obtain ⟨rows, rfl, _, hr⟩ := h
  have key : ∀ rows : List (List PV), (∀ r ∈ rows, uSh.has r) → ∃ l : List Ud, rows = uRows l := by
    intro rows
    induction rows with
    | nil => intro _; exact ⟨[], rfl⟩
    | cons r rows ih =>
      intro h
      obtain ⟨l, rfl⟩ := ih (fun x hx => h x (by simp [hx]))
      obtain ⟨u, rfl⟩ := has_ud (h r (by simp))
      exact ⟨u :: l, rfl⟩
  obtain ⟨l, rfl⟩ := key rows hr
  exact ⟨l, rfl⟩
theorem call_TallyTells : ∀ ps, HasArgs [.sl uSh, uSh] ps → ACall Try.prog (F08 n_plaw08_TallyTells) (ps.map .v) (.val (.bool true)) [] := by
  intro ps hps
  obtain ⟨c1, p1, h1, rfl, k1⟩ := args_cons hps
  obtain ⟨c2, p2, h2, rfl, k2⟩ := args_cons k1
  obtain rfl := args_nil k2
  obtain ⟨l, rfl⟩ := has_us h1
  obtain ⟨u, rfl⟩ := has_ud h2
  exact t08_plaw08_TallyTells l u
theorem call_TallyJoins : ∀ ps, HasArgs [.sl uSh, .sl uSh] ps → ACall Try.prog (F08 n_plaw08_TallyJoins) (ps.map .v) (.val (.bool true)) [] := by
  intro ps hps
  obtain ⟨c1, p1, h1, rfl, k1⟩ := args_cons hps
  obtain ⟨c2, p2, h2, rfl, k2⟩ := args_cons k1
  obtain rfl := args_nil k2
  obtain ⟨a, rfl⟩ := has_us h1
  obtain ⟨b, rfl⟩ := has_us h2
  exact t08_plaw08_TallyJoins a b
theorem call_TallyLattice : ∀ ps, HasArgs [.sl uSh, .sl uSh, .sl uSh] ps → ACall Try.prog (F08 n_plaw08_TallyLattice) (ps.map .v) (.val (.bool true)) [] := by
  intro ps hps
  obtain ⟨c1, p1, h1, rfl, k1⟩ := args_cons hps
  obtain ⟨c2, p2, h2, rfl, k2⟩ := args_cons k1
  obtain ⟨c3, p3, h3, rfl, k3⟩ := args_cons k2
  obtain rfl := args_nil k3
  obtain ⟨a, rfl⟩ := has_us h1
  obtain ⟨b, rfl⟩ := has_us h2
  obtain ⟨c, rfl⟩ := has_us h3
  exact t08_plaw08_TallyLattice a b c
theorem call_TallyDeltas : ∀ ps, HasArgs [.sl uSh, .sl uSh, dSh] ps → ACall Try.prog (F08 n_plaw08_TallyDeltas) (ps.map .v) (.val (.bool true)) [] := by
  intro ps hps
  obtain ⟨c1, p1, h1, rfl, k1⟩ := args_cons hps
  obtain ⟨c2, p2, h2, rfl, k2⟩ := args_cons k1
  obtain ⟨c3, p3, h3, rfl, k3⟩ := args_cons k2
  obtain rfl := args_nil k3
  obtain ⟨a, rfl⟩ := has_us h1
  obtain ⟨b, rfl⟩ := has_us h2
  obtain ⟨d, rfl⟩ := has_dt h3
  exact t08_plaw08_TallyDeltas a b d
theorem call_TallyTurns : ∀ ps, HasArgs [.sl uSh, dSh, dSh] ps → ACall Try.prog (F08 n_plaw08_TallyTurns) (ps.map .v) (.val (.bool true)) [] := by
  intro ps hps
  obtain ⟨c1, p1, h1, rfl, k1⟩ := args_cons hps
  obtain ⟨c2, p2, h2, rfl, k2⟩ := args_cons k1
  obtain ⟨c3, p3, h3, rfl, k3⟩ := args_cons k2
  obtain rfl := args_nil k3
  obtain ⟨l, rfl⟩ := has_us h1
  obtain ⟨d, rfl⟩ := has_dt h2
  obtain ⟨o, rfl⟩ := has_dt h3
  exact t08_plaw08_TallyTurns l d o
end Go.AR
