import Derived.Test.YtcpkejkpabgabaaDoorOpen
set_option linter.all false
/-! What shapes are, as lists. -/
namespace Go.AR
open Go
theorem hasN_ints {k : IntKind} : ∀ (n : Nat) (cs : List PV), hasN (Sh.int k).has n cs → ∃ l : List Int, l.length = n ∧ cs = l.map (.int k) ∧ ∀ x ∈ l, (Lit.int k x).wf = true
  | 0, cs, h => ⟨[], rfl, h, by simp⟩
  | n + 1, cs, h => by
    obtain ⟨a, b, e, ⟨x, ha, hx⟩, hb⟩ := h
    obtain ⟨l, h1, h2, h3⟩ := hasN_ints n b hb
    refine ⟨x :: l, by simp [h1], by rw [e, ha, h2]; rfl, fun y hy => ?_⟩
    rcases List.mem_cons.1 hy with rfl | hy
    · exact hx
    · exact h3 y hy
theorem args1 {s : Sh} {ps : List PV} (h : HasArgs [s] ps) : ∃ cs, s.has cs ∧ ps = [s.pv cs] := by
  rcases ps with _ | ⟨p, _ | ⟨q, ps⟩⟩ <;> simp [HasArgs] at h
  obtain ⟨cs, h1, h2⟩ := h
  exact ⟨cs, h1, by rw [h2]⟩
theorem args_cons {s : Sh} {ss : List Sh} {ps : List PV} (h : HasArgs (s :: ss) ps) : ∃ cs ps', s.has cs ∧ ps = s.pv cs :: ps' ∧ HasArgs ss ps' := by
  cases ps with
  | nil => exact h.elim
  | cons p ps =>
    obtain ⟨⟨cs, h1, h2⟩, h3⟩ := h
    exact ⟨cs, ps, h1, by rw [h2], h3⟩
theorem args_nil {ps : List PV} (h : HasArgs [] ps) : ps = [] := by
  cases ps with
  | nil => rfl
  | cons p ps => exact h.elim
end Go.AR
