import Derived.Test.YtcpflnhmdpfdkaaShapes
import Derived.Test.YtcpflnhmdpfdkaaS02
import Derived.Test.YtcpflnhmdpfdkaaS21b
set_option linter.all false
/-! What arguments are: numbers, texts, rows of texts. -/
namespace Go.AR
open Go
theorem wf_i64 {n : Int} (h : (Lit.int .i64 n).wf = true) : i64ok n := by
  simp [Lit.wf, IntKind.min, IntKind.max, IntKind.signed, IntKind.bits] at h
  unfold i64ok; omega
theorem wf_u8 {n : Int} (h : (Lit.int .u8 n).wf = true) : ∃ c : UInt8, n = c.toNat := by
  simp only [Lit.wf, Bool.and_eq_true, decide_eq_true_eq] at h
  have h1 : (0 : Int) ≤ n := h.1
  have h2 : n ≤ 255 := h.2
  refine ⟨UInt8.ofNat n.toNat, ?_⟩
  simp
  omega
theorem has_texts {cs : List PV} (h : (Sh.sl .str).has cs) : ∃ l : List (List UInt8), cs = [.sl 1 (tRows l)] ∧ l.length ≤ 9223372036854775807 ∧ ∀ s ∈ l, s.length ≤ 9223372036854775807 := by
  obtain ⟨rows, rfl, hl, hr⟩ := h
  have key : ∀ rows : List (List PV), (∀ r ∈ rows, Sh.str.has r) → ∃ l : List (List UInt8), rows = tRows l ∧ ∀ s ∈ l, s.length ≤ 9223372036854775807 := by
    intro rows
    induction rows with
    | nil => intro _; exact ⟨[], rfl, by simp⟩
    | cons r rows ih =>
      intro h
      obtain ⟨l, rfl, hl⟩ := ih (fun x hx => h x (by simp [hx]))
      obtain ⟨s, rfl, hs⟩ := h r (by simp)
      refine ⟨s :: l, rfl, fun x hx => ?_⟩
      rcases List.mem_cons.1 hx with rfl | hx
      · exact hs
      · exact hl x hx
  obtain ⟨l, rfl, h2⟩ := key rows hr
  exact ⟨l, rfl, by rw [tRows_len] at hl; exact hl, h2⟩
end Go.AR
