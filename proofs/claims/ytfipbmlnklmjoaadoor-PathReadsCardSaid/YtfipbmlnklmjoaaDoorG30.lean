import Derived.Test.YtfipbmlnklmjoaaDoorG27
set_option linter.all false
/-! Names: quoting and splitting, the plain laws. -/
namespace Go.AR
open Go
/-- Texts quoted, with a slash between. -/
def joinQ : List (List UInt8) → List UInt8
  | [] => []
  | [w] => quo w
  | w :: ws => quo w ++ 47 :: joinQ ws
theorem joinQ_app : ∀ (l : List (List UInt8)) (w : List UInt8), joinQ (l ++ [w]) = if l = [] then quo w else joinQ l ++ ([47] ++ quo w)
  | [], w => by simp [joinQ]
  | [a], w => by simp [joinQ]
  | a :: b :: l, w => by
    have ih := joinQ_app (b :: l) w
    rw [if_neg (by simp)] at ih ⊢
    simp only [List.cons_append] at ih ⊢
    rw [joinQ, ih]
    · simp [joinQ]
    · simp
theorem spl_len : ∀ (s : List UInt8) (out : List (List UInt8)) (cur : List UInt8) (esc : Bool) (l : List (List UInt8)), spl s out cur esc = some l → l.length ≤ out.length + s.length + 1
  | [], out, cur, esc, l, h => by
    simp only [spl] at h
    split at h
    · cases h
    · cases h; simp
  | c :: s, out, cur, esc, l, h => by
    simp only [spl] at h
    split at h
    · split at h
      · cases h
      · have := spl_len s _ _ _ l h
        simp; omega
    · split at h
      · have := spl_len s _ _ _ l h
        simp; omega
      · split at h
        · have := spl_len s _ _ _ l h
          simp at this ⊢; omega
        · have := spl_len s _ _ _ l h
          simp; omega
theorem spl_quo (w : List UInt8) : ∀ (r : List UInt8) (out : List (List UInt8)) (cur : List UInt8), spl (quo w ++ r) out cur false = spl r out (cur ++ w) false := by
  induction w with
  | nil => intro r out cur; simp [quo]
  | cons c w ih =>
    intro r out cur
    have e : quo (c :: w) = quo [c] ++ quo w := quo_app [c] w
    by_cases h : c = 47 ∨ c = 92
    · rw [e, quo_1 h]
      simp only [List.cons_append, List.nil_append]
      rw [spl, if_neg (by simp), if_pos rfl, spl, if_pos rfl, if_neg (by rintro ⟨h1, h2⟩; rcases h with h | h <;> contradiction), ih]
      simp
    · have h1 : ¬ c = 47 := fun e => h (.inl e)
      have h2 : ¬ c = 92 := fun e => h (.inr e)
      rw [e, quo_0 h]
      simp only [List.cons_append, List.nil_append]
      rw [spl, if_neg (by simp), if_neg h2, if_neg h1, ih]
      simp
theorem spl_joins : ∀ (l : List (List UInt8)), l ≠ [] → ∀ out : List (List UInt8), spl (joinQ l) out [] false = some (out ++ l)
  | [], h, _ => absurd rfl h
  | [w], _, out => by
    have := spl_quo w [] out []
    rw [List.append_nil] at this
    rw [joinQ, this]
    simp [spl]
  | w :: v :: l, _, out => by
    rw [joinQ]
    · rw [spl_quo, spl, if_neg (by simp), if_neg (by decide), if_pos rfl, spl_joins (v :: l) (by simp)]
      simp
    · simp
theorem spl_join (l : List (List UInt8)) (h : l ≠ []) : spl (joinQ l) [] [] false = some l := by
  have := spl_joins l h []
  simpa using this
theorem runes_bound : ∀ (k : Nat) (l : List UInt8) (out cs : List Int), l.length ≤ k → (∀ x ∈ out, 0 ≤ x ∧ x ≤ 1114111) → runes l out = some cs → ∀ x ∈ cs, 0 ≤ x ∧ x ≤ 1114111
  | k, [], out, cs, _, ho, h => by
    rw [runes_nil] at h
    cases h; exact ho
  | 0, b :: l, out, cs, hk, _, h => by simp at hk
  | k + 1, b :: l, out, cs, hk, ho, h => by
    by_cases h2 : (chr (b :: l)).2 = 0
    · rw [runes_none _ (by simp) h2] at h; cases h
    · rw [runes_some _ (by simp) h2] at h
      have hle := (chr_le (b :: l)).2.1
      refine runes_bound k _ _ _ (by rw [List.length_drop]; simp at hk ⊢; omega) (fun x hx => ?_) h
      rcases List.mem_append.1 hx with hx | hx
      · exact ho x hx
      · simp at hx; subst hx; omega
end Go.AR
