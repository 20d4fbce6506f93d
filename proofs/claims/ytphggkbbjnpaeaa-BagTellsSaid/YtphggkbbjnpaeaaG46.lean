import Derived.Test.YtphggkbbjnpaeaaG45
import Derived.Test.YtphggkbbjnpaeaaG30
set_option linter.all false
/-! What operations are, as shapes. -/
namespace Go.AR
open Go
theorem has_rows2 {α : Type} {q : List PV → Prop} {f : α → List PV} (hq : ∀ r, q r → ∃ x, r = f x) : ∀ rows : List (List PV), (∀ r ∈ rows, q r) → ∃ l : List α, rows = l.map f
  | [], _ => ⟨[], rfl⟩
  | r :: rows, h => by
    obtain ⟨x, hx⟩ := hq r (h r (by simp))
    obtain ⟨l, hl⟩ := has_rows2 hq rows (fun r hr => h r (by simp [hr]))
    exact ⟨x :: l, by simp [hx, hl]⟩
theorem has_int {k : IntKind} {cs : List PV} (h : (Sh.int k).has cs) : ∃ n : Int, cs = [.int k n] := by
  obtain ⟨n, rfl, _⟩ := h
  exact ⟨n, rfl⟩
abbrev dSh : Sh := .struct [.int .i64, .int .i64]
abbrev rSh : Sh := .struct [dSh, .int .i64]
abbrev vSh : Sh := .struct [.int .i64, .int .i64, .str]
abbrev oSh : Sh := .struct [.int .i64, .sl .str, vSh, .int .i64, .sl rSh]
theorem has_dt {cs : List PV} (h : dSh.has cs) : ∃ d : Dt, cs = [.int .i64 d.1, .int .i64 d.2] := by
  obtain ⟨a, b, rfl, h1, c, d, rfl, h2, h3⟩ := h
  obtain ⟨x, rfl⟩ := has_int h1
  obtain ⟨y, rfl⟩ := has_int h2
  have h3 : d = [] := h3
  subst h3
  exact ⟨(x, y), rfl⟩
theorem has_ref {cs : List PV} (h : rSh.has cs) : ∃ r : Ud, cs = uRow r := by
  obtain ⟨a, b, rfl, h1, c, d, rfl, h2, h3⟩ := h
  obtain ⟨x, rfl⟩ := has_dt h1
  obtain ⟨y, rfl⟩ := has_int h2
  have h3 : d = [] := h3
  subst h3
  exact ⟨(x, y), rfl⟩
theorem has_vl {cs : List PV} (h : vSh.has cs) : ∃ v : Vl, cs = vCells v := by
  obtain ⟨a, b, rfl, h1, c, d, rfl, h2, e, f, rfl, h3, h4⟩ := h
  obtain ⟨x, rfl⟩ := has_int h1
  obtain ⟨y, rfl⟩ := has_int h2
  obtain ⟨s, rfl⟩ := has_text h3
  have h4 : f = [] := h4
  subst h4
  exact ⟨(x, y, s), rfl⟩
theorem has_refs {cs : List PV} (h : (Sh.sl rSh).has cs) : ∃ l : List Ud, cs = [usP l] := by
  obtain ⟨rows, rfl, _, hr⟩ := h
  obtain ⟨l, rfl⟩ := has_rows2 (f := uRow) (fun r h => has_ref h) rows hr
  exact ⟨l, rfl⟩
theorem has_op {cs : List PV} (h : oSh.has cs) : ∃ o : Ov, cs = oCells o := by
  obtain ⟨a1, b1, rfl, h1, a2, b2, rfl, h2, a3, b3, rfl, h3, a4, b4, rfl, h4, a5, b5, rfl, h5, h6⟩ := h
  obtain ⟨k, rfl⟩ := has_int h1
  obtain ⟨p, rfl⟩ := has_texts h2
  obtain ⟨v, rfl⟩ := has_vl h3
  obtain ⟨am, rfl⟩ := has_int h4
  obtain ⟨rs, rfl⟩ := has_refs h5
  have h6 : b5 = [] := h6
  subst h6
  exact ⟨⟨k, p, v, am, rs⟩, rfl⟩
end Go.AR

/-! What transactions are, as shapes. -/
namespace Go.AR
open Go
abbrev tSh : Sh := .struct [dSh, .int .i64, .int .i64, .bool, .sl oSh]
theorem has_bool {cs : List PV} (h : (Sh.bool).has cs) : ∃ b : Bool, cs = [.bool b] := h
theorem has_ops {cs : List PV} (h : (Sh.sl oSh).has cs) : ∃ l : List Ov, cs = [osP l] := by
  obtain ⟨rows, rfl, _, hr⟩ := h
  obtain ⟨l, rfl⟩ := has_rows2 (f := oCells) (fun r h => has_op h) rows hr
  exact ⟨l, rfl⟩
theorem has_tx {cs : List PV} (h : tSh.has cs) : ∃ x : Tx, cs = tCells x := by
  obtain ⟨a1, b1, rfl, h1, a2, b2, rfl, h2, a3, b3, rfl, h3, a4, b4, rfl, h4, a5, b5, rfl, h5, h6⟩ := h
  obtain ⟨d, rfl⟩ := has_dt h1
  obtain ⟨u, rfl⟩ := has_int h2
  obtain ⟨t, rfl⟩ := has_int h3
  obtain ⟨un, rfl⟩ := has_bool h4
  obtain ⟨ops, rfl⟩ := has_ops h5
  have h6 : b5 = [] := h6
  subst h6
  exact ⟨⟨d, u, t, un, ops⟩, rfl⟩
theorem has_txs {cs : List PV} (h : (Sh.sl tSh).has cs) : ∃ l : List Tx, cs = [tsP l] := by
  obtain ⟨rows, rfl, _, hr⟩ := h
  obtain ⟨l, rfl⟩ := has_rows2 (f := tCells) (fun r h => has_tx h) rows hr
  exact ⟨l, rfl⟩
end Go.AR
