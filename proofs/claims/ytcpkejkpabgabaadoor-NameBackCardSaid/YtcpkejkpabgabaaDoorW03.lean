import Derived.Test.YtcpkejkpabgabaaDoorT03
import Derived.Test.YtcpkejkpabgabaaDoorShapes
import Derived.Test.YtcpkejkpabgabaaDoorOpen
set_option linter.all false
/-! Chapter 03's laws, called. -/
namespace Go.AR
open Go Go.Proofs
theorem has_text {cs : List PV} (h : (Sh.str).has cs) : ∃ s : List UInt8, cs = [.str s] := by
  obtain ⟨l, rfl, _⟩ := h
  exact ⟨l, rfl⟩
theorem has_texts {cs : List PV} (h : (Sh.sl .str).has cs) : ∃ l : List (List UInt8), cs = [.sl 1 (xRows l)] := by
  obtain ⟨rows, rfl, _, hr⟩ := h
  have key : ∀ rows : List (List PV), (∀ r ∈ rows, (Sh.str).has r) → ∃ l : List (List UInt8), rows = xRows l := by
    intro rows
    induction rows with
    | nil => intro _; exact ⟨[], rfl⟩
    | cons r rows ih =>
      intro h
      obtain ⟨l, rfl⟩ := ih (fun x hx => h x (by simp [hx]))
      obtain ⟨s, rfl⟩ := has_text (h r (by simp))
      exact ⟨s :: l, rfl⟩
  obtain ⟨l, rfl⟩ := key rows hr
  exact ⟨l, rfl⟩
theorem call_NameTells : ∀ ps, HasArgs [.str] ps → C03 (F03 n_plaw03_NameTells) (ps.map .v) (.val (.bool true)) [] := by
  intro ps hps
  obtain ⟨c1, p1, h1, rfl, k1⟩ := args_cons hps
  obtain rfl := args_nil k1
  obtain ⟨s, rfl⟩ := has_text h1
  exact t03_NameTells s
theorem call_NameCleans : ∀ ps, HasArgs [.str] ps → C03 (F03 n_plaw03_NameCleans) (ps.map .v) (.val (.bool true)) [] := by
  intro ps hps
  obtain ⟨c1, p1, h1, rfl, k1⟩ := args_cons hps
  obtain rfl := args_nil k1
  obtain ⟨s, rfl⟩ := has_text h1
  exact t03_NameCleans s
theorem call_NameSplits : ∀ ps, HasArgs [.str] ps → C03 (F03 n_plaw03_NameSplits) (ps.map .v) (.val (.bool true)) [] := by
  intro ps hps
  obtain ⟨c1, p1, h1, rfl, k1⟩ := args_cons hps
  obtain rfl := args_nil k1
  obtain ⟨s, rfl⟩ := has_text h1
  exact t03_NameSplits s
theorem call_NameBack : ∀ ps, HasArgs [.sl .str] ps → C03 (F03 n_plaw03_NameBack) (ps.map .v) (.val (.bool true)) [] := by
  intro ps hps
  obtain ⟨c1, p1, h1, rfl, k1⟩ := args_cons hps
  obtain rfl := args_nil k1
  obtain ⟨l, rfl⟩ := has_texts h1
  exact t03_NameBack l
end Go.AR
