import Derived.Test.YtlhahjlnhkokcaaG34
import Derived.Test.YtlhahjlnhkokcaaG35
set_option linter.all false
/-! Chapter 31's laws, called. -/
namespace Go.AR
open Go Go.Proofs
theorem has_int31 {k : IntKind} {cs : List PV} (h : (Sh.int k).has cs) : ∃ n : Int, cs = [.int k n] := by
  obtain ⟨n, rfl, _⟩ := h
  exact ⟨n, rfl⟩
theorem has_text31 {cs : List PV} (h : Sh.str.has cs) : ∃ s : List UInt8, cs = [.str s] := by
  obtain ⟨l, rfl, _⟩ := h
  exact ⟨l, rfl⟩
abbrev flSh : Sh := .struct [.int .i64, .int .i64, .str]
theorem has_fl {cs : List PV} (h : flSh.has cs) : ∃ f : Fl, cs = fCells f := by
  obtain ⟨a1, b1, rfl, h1, a2, b2, rfl, h2, a3, b3, rfl, h3, h4⟩ := h
  obtain ⟨x, rfl⟩ := has_int31 h1
  obtain ⟨y, rfl⟩ := has_int31 h2
  obtain ⟨s, rfl⟩ := has_text31 h3
  have h4 : b3 = [] := h4
  subst h4
  exact ⟨(x, y, s), rfl⟩
theorem call_NetNone : ∀ ps, HasArgs [flSh, .int .i64, .int .i64] ps → C31 (F31 n_plaw31_NetNone) (ps.map .v) (.val (.bool true)) [] := by
  intro ps hps
  obtain ⟨c1, p1, h1, rfl, k1⟩ := args_cons hps
  obtain ⟨c2, p2, h2, rfl, k2⟩ := args_cons k1
  obtain ⟨c3, p3, h3, rfl, k3⟩ := args_cons k2
  obtain rfl := args_nil k3
  obtain ⟨f, rfl⟩ := has_fl h1
  obtain ⟨k, rfl⟩ := has_int31 h2
  obtain ⟨x, rfl⟩ := has_int31 h3
  exact t31_NetNone f k x
theorem rows31 {α : Type} {q : List PV → Prop} {f : α → List PV} (hq : ∀ r, q r → ∃ x, r = f x) : ∀ rows : List (List PV), (∀ r ∈ rows, q r) → ∃ l : List α, rows = l.map f
  | [], _ => ⟨[], rfl⟩
  | r :: rows, h => by
    obtain ⟨x, hx⟩ := hq r (h r (by simp))
    obtain ⟨l, hl⟩ := rows31 hq rows (fun r hr => h r (by simp [hr]))
    exact ⟨x :: l, by simp [hx, hl]⟩
abbrev ddSh : Sh := .struct [.int .i64, .int .i64, .int .i64, flSh]
theorem has_dd {cs : List PV} (h : ddSh.has cs) : ∃ d : Dd, cs = dCells d := by
  obtain ⟨a1, b1, rfl, h1, a2, b2, rfl, h2, a3, b3, rfl, h3, a4, b4, rfl, h4, h5⟩ := h
  obtain ⟨x, rfl⟩ := has_int31 h1
  obtain ⟨y, rfl⟩ := has_int31 h2
  obtain ⟨z, rfl⟩ := has_int31 h3
  obtain ⟨f, rfl⟩ := has_fl h4
  have h5 : b4 = [] := h5
  subst h5
  exact ⟨⟨x, y, z, f⟩, rfl⟩
theorem call_NetKeeps : ∀ ps, HasArgs [.sl flSh, .int .i64, .int .i64] ps → C31 (F31 n_plaw31_NetKeeps) (ps.map .v) (.val (.bool true)) [] := by
  intro ps hps
  obtain ⟨c1, p1, h1, rfl, k1⟩ := args_cons hps
  obtain ⟨c2, p2, h2, rfl, k2⟩ := args_cons k1
  obtain ⟨c3, p3, h3, rfl, k3⟩ := args_cons k2
  obtain rfl := args_nil k3
  obtain ⟨rows, rfl, _, hr⟩ := h1
  obtain ⟨l, rfl⟩ := rows31 (f := fCells) (fun r h => has_fl h) rows hr
  obtain ⟨k, rfl⟩ := has_int31 h2
  obtain ⟨x, rfl⟩ := has_int31 h3
  exact t31_NetKeeps l k x
theorem call_NetPlays : ∀ ps, HasArgs [.sl ddSh] ps → C31 (F31 n_plaw31_NetPlays) (ps.map .v) (.val (.bool true)) [] := by
  intro ps hps
  obtain ⟨c1, p1, h1, rfl, k1⟩ := args_cons hps
  obtain rfl := args_nil k1
  obtain ⟨rows, rfl, _, hr⟩ := h1
  obtain ⟨l, rfl⟩ := rows31 (f := dCells) (fun r h => has_dd h) rows hr
  exact t31_NetPlays l
end Go.AR
