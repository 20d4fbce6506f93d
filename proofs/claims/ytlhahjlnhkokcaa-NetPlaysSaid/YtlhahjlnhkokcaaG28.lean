import Derived.Test.YtlhahjlnhkokcaaG09
import Derived.Test.YtlhahjlnhkokcaaG26
set_option linter.all false
/-! Nets: what their rows are in the model's world. -/
namespace Go.AR
open Go
def fVal (f : Fl) : List Value := [.int .i64 f.1, .int .i64 f.2.1, .string ⟨⟨f.2.2⟩⟩]
def fVals (l : List Fl) : List Value := (l.map fVal).flatten
theorem fVals_cons (f : Fl) (l : List Fl) : fVals (f :: l) = fVal f ++ fVals l := by simp [fVals]
theorem fVals_len : ∀ l : List Fl, (fVals l).length = l.length * 3
  | [] => rfl
  | f :: l => by rw [fVals_cons, List.length_append, fVals_len l, List.length_cons]; simp [fVal]; omega
theorem fVals_app : ∀ a b : List Fl, fVals (a ++ b) = fVals a ++ fVals b
  | [], b => rfl
  | f :: a, b => by rw [List.cons_append, fVals_cons, fVals_cons, fVals_app a b, List.append_assoc]
theorem fVals_take : ∀ (l : List Fl) (k : Nat), (fVals l).take (k * 3) = fVals (l.take k)
  | [], k => by simp [fVals]
  | f :: l, 0 => by simp [fVals]
  | f :: l, k + 1 => by
    rw [fVals_cons, List.take_succ_cons, fVals_cons, ← fVals_take l k, show (k + 1) * 3 = (fVal f).length + k * 3 by simp [fVal]; omega, List.take_length_add_append]
theorem fVals_drop : ∀ (l : List Fl) (k : Nat), (fVals l).drop (k * 3) = fVals (l.drop k)
  | [], k => by simp [fVals]
  | f :: l, 0 => by simp
  | f :: l, k + 1 => by
    rw [fVals_cons, List.drop_succ_cons, ← fVals_drop l k, show (k + 1) * 3 = (fVal f).length + k * 3 by simp [fVal]; omega, List.drop_length_add_append]
theorem fVals_one (l : List Fl) : ∀ v ∈ fVals l, v.oneCell' = true := by
  intro v hv
  obtain ⟨r, hr, hv⟩ := List.mem_flatten.1 hv
  obtain ⟨f, _, rfl⟩ := List.mem_map.1 hr
  simp only [fVal, List.mem_cons, List.not_mem_nil, or_false] at hv
  rcases hv with rfl | rfl | rfl <;> rfl
theorem fRows_flat' : ∀ l : List Fl, (fRows l).flatten.length = l.length * 3
  | [] => rfl
  | f :: l => by
    have := fRows_flat' l
    simp only [fRows, List.map_cons, List.flatten_cons, List.length_append, List.length_cons, List.length_nil] at this ⊢
    omega
theorem fVals_rep {w : World} {G : Nat → Nat} : ∀ (l : List Fl) (j : Nat) (p : PV) (x : Value), (fRows l).flatten[j]? = some p → (fVals l)[j]? = some x → Rep w G p x
  | [], j, p, x, h, _ => by simp [fRows] at h
  | f :: l, 0, p, x, h, k => by
    simp [fRows] at h; simp [fVals, fVal] at k; subst h k; exact .int _ _
  | f :: l, 1, p, x, h, k => by
    simp [fRows] at h; simp [fVals, fVal] at k; subst h k; exact .int _ _
  | f :: l, 2, p, x, h, k => by
    simp [fRows] at h; simp [fVals, fVal] at k; subst h k; exact .str _
  | f :: l, j + 3, p, x, h, k => by
    refine fVals_rep l j p x ?_ ?_
    · have e : (fRows (f :: l)).flatten = fCells f ++ (fRows l).flatten := by simp [fRows]
      rw [e, List.getElem?_append_right (by simp)] at h
      simpa using h
    · rw [fVals_cons, List.getElem?_append_right (by simp [fVal])] at k
      simpa [fVal] using k
theorem fVals_of {w : World} {G : Nat → Nat} (l : List Fl) (xs : List Value) (hl : xs.length = (fRows l).flatten.length) (h : ∀ (j : Nat) (p : PV) (x : Value), (fRows l).flatten[j]? = some p → xs[j]? = some x → Rep w G p x) : xs = fVals l := by
  apply List.ext_getElem
  · rw [hl, fRows_flat', fVals_len]
  · intro j h1 h2
    have hj : j < (fRows l).flatten.length := by rw [← hl]; exact h1
    have a := h j _ _ (List.getElem?_eq_getElem hj) (List.getElem?_eq_getElem h1)
    have b := fVals_rep (w := w) (G := G) l j _ _ (List.getElem?_eq_getElem hj) (List.getElem?_eq_getElem h2)
    generalize xs[j] = u at a
    generalize (fVals l)[j] = v at b
    have hp : ∃ f : Fl, (fRows l).flatten[j] = .int .i64 f.1 ∨ (fRows l).flatten[j] = .str f.2.2 := by
      obtain ⟨r, hr, hm⟩ := List.mem_flatten.1 (List.getElem_mem hj)
      obtain ⟨f, _, rfl⟩ := List.mem_map.1 hr
      simp only [fCells, List.mem_cons, List.not_mem_nil, or_false] at hm
      rcases hm with e | e | e
      · exact ⟨f, .inl e⟩
      · exact ⟨(f.2.1, 0, []), .inl e⟩
      · exact ⟨f, .inr e⟩
    obtain ⟨f, e | e⟩ := hp
    · rw [e] at a b
      rw [Rep.int_inv a, Rep.int_inv b]
    · rw [e] at a b
      rw [Rep.str_inv a, Rep.str_inv b]
/-- A pair of a message and a truth. -/
theorem pair_rep {w : World} {G : Nat → Nat} {f : Fl} {b : Bool} {v : Value} (h : Rep w G (.tup [fP f, .bool b]) v) : v = .tuple #[.agg #[.int .i64 f.1, .int .i64 f.2.1, .string ⟨⟨f.2.2⟩⟩], .bool b] := by
  generalize hp : PV.tup [fP f, .bool b] = p at h
  cases h <;> cases hp
  rename_i vs hl hx
  obtain ⟨l⟩ := vs
  simp at hl
  rcases l with _ | ⟨v0, _ | ⟨v1, _ | ⟨v2, l⟩⟩⟩ <;> simp at hl
  have h0 := hx 0 _ v0 rfl rfl
  have h1 := hx 1 _ v1 rfl rfl
  have e1 := Rep.bool_inv h1
  obtain ⟨us, e0, hl2, hr, _⟩ := Rep.agg_inv h0
  obtain ⟨ul⟩ := us
  simp at hl2
  rcases ul with _ | ⟨u0, _ | ⟨u1, _ | ⟨u2, _ | ⟨u3, ul⟩⟩⟩⟩ <;> simp at hl2
  have a0 := Rep.int_inv (hr 0 _ u0 rfl rfl)
  have a1 := Rep.int_inv (hr 1 _ u1 rfl rfl)
  have a2 := Rep.str_inv (hr 2 _ u2 rfl rfl)
  subst a0 a1 a2 e0 e1
  rfl
theorem rep_pair {w : World} {G : Nat → Nat} (f : Fl) (b : Bool) : Rep w G (.tup [fP f, .bool b]) (.tuple #[.agg #[.int .i64 f.1, .int .i64 f.2.1, .string ⟨⟨f.2.2⟩⟩], .bool b]) := by
  refine .tup _ _ rfl (fun i p v hp hv => ?_)
  match i, hp, hv with
  | 0, hp, hv =>
    simp at hp hv; subst hp hv
    refine .agg _ _ rfl (fun i p v hp hv => ?_) (fun p hp => ?_)
    · match i, hp, hv with
      | 0, hp, hv => simp at hp hv; subst hp hv; exact .int _ _
      | 1, hp, hv => simp at hp hv; subst hp hv; exact .int _ _
      | 2, hp, hv => simp at hp hv; subst hp hv; exact .str _
      | i + 3, hp, _ => simp at hp
    · simp only [List.mem_cons, List.not_mem_nil, or_false] at hp
      rcases hp with rfl | rfl | rfl <;> rfl
  | 1, hp, hv => simp at hp hv; subst hp hv; exact .bool _
  | i + 2, hp, _ => simp at hp
end Go.AR
