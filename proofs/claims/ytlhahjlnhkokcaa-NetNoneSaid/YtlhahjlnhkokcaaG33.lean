import Derived.Test.YtlhahjlnhkokcaaG31
import Derived.Test.YtlhahjlnhkokcaaG32
set_option linter.all false
/-! Chapter 31's laws, called. -/
namespace Go.AR
open Go Go.Proofs
theorem has_int31 {k : IntKind} {cs : List PV} (h : (Sh.int k).has cs) : ∃ n : Int, cs = [.int k n] := by
  obtain ⟨n, rfl, _⟩ := h
  exact ⟨n, rfl⟩
theorem has_text31 {cs : List PV} (h : Sh.str.has cs) : ∃ s : List UInt8, cs = [.str s] := by
  obtain ⟨l, rfl, _⟩ := h
  exact ⟨l, rfl⟩
abbrev flSh : Sh := .struct [.int .i64, .int .i64, .str]
theorem has_fl {cs : List PV} (h : flSh.has cs) : ∃ f : Fl, cs = fCells f := by
  obtain ⟨a1, b1, rfl, h1, a2, b2, rfl, h2, a3, b3, rfl, h3, h4⟩ := h
  obtain ⟨x, rfl⟩ := has_int31 h1
  obtain ⟨y, rfl⟩ := has_int31 h2
  obtain ⟨s, rfl⟩ := has_text31 h3
  have h4 : b3 = [] := h4
  subst h4
  exact ⟨(x, y, s), rfl⟩
theorem call_NetNone : ∀ ps, HasArgs [flSh, .int .i64, .int .i64] ps → C31 (F31 n_plaw31_NetNone) (ps.map .v) (.val (.bool true)) [] := by
  intro ps hps
  obtain ⟨c1, p1, h1, rfl, k1⟩ := args_cons hps
  obtain ⟨c2, p2, h2, rfl, k2⟩ := args_cons k1
  obtain ⟨c3, p3, h3, rfl, k3⟩ := args_cons k2
  obtain rfl := args_nil k3
  obtain ⟨f, rfl⟩ := has_fl h1
  obtain ⟨k, rfl⟩ := has_int31 h2
  obtain ⟨x, rfl⟩ := has_int31 h3
  exact t31_NetNone f k x
end Go.AR
