import Derived.Test.YtcpkejkpabgabaaDoorUtf
set_option linter.all false
/-! Names, by definition. -/
namespace Go.AR
open Go
def runes (l : List UInt8) (out : List Int) : Option (List Int) :=
  if h : l = [] then some out else if h2 : (chr l).2 = 0 then none else runes (l.drop (chr l).2) (out ++ [((chr l).1 : Int)])
termination_by l.length
decreasing_by
  rw [List.length_drop]
  have := List.length_pos_iff.2 h
  omega
theorem runes_nil (out : List Int) : runes [] out = some out := by rw [runes]; simp
theorem runes_none {l : List UInt8} (out : List Int) (h : l ≠ []) (h2 : (chr l).2 = 0) : runes l out = none := by rw [runes, dif_neg h, dif_pos h2]
theorem runes_some {l : List UInt8} (out : List Int) (h : l ≠ []) (h2 : (chr l).2 ≠ 0) : runes l out = runes (l.drop (chr l).2) (out ++ [((chr l).1 : Int)]) := by rw [runes, dif_neg h, dif_neg h2]
def mayB (c : Int) : Bool := !decide (c < 32) && (!(decide (127 ≤ c) && decide (c < 160)) && c != 65533)
def rightB (s : List UInt8) : Bool := match runes s [] with
  | none => false
  | some l => decide (1 ≤ l.length) && (decide (l.length ≤ 24) && l.all mayB)
def clean (l out : List UInt8) (many : Nat) : List UInt8 :=
  if h : l = [] then (if many = 0 then [95] else out) else if h2 : (chr l).2 = 0 then clean (l.drop 1) out many
  else if mayB (chr l).1 = true ∧ many < 24 then clean (l.drop (chr l).2) (out ++ l.take (chr l).2) (many + 1) else clean (l.drop (chr l).2) out many
termination_by l.length
decreasing_by
  all_goals (rw [List.length_drop]; have := List.length_pos_iff.2 h; omega)
theorem clean_nil (out : List UInt8) (many : Nat) : clean [] out many = if many = 0 then [95] else out := by rw [clean]; simp
theorem clean_bad {l : List UInt8} (out : List UInt8) (many : Nat) (h : l ≠ []) (h2 : (chr l).2 = 0) : clean l out many = clean (l.drop 1) out many := by rw [clean, dif_neg h, dif_pos h2]
theorem clean_in {l : List UInt8} (out : List UInt8) (many : Nat) (h : l ≠ []) (h2 : (chr l).2 ≠ 0) (h3 : mayB (chr l).1 = true ∧ many < 24) : clean l out many = clean (l.drop (chr l).2) (out ++ l.take (chr l).2) (many + 1) := by rw [clean, dif_neg h, dif_neg h2, if_pos h3]
theorem clean_out {l : List UInt8} (out : List UInt8) (many : Nat) (h : l ≠ []) (h2 : (chr l).2 ≠ 0) (h3 : ¬ (mayB (chr l).1 = true ∧ many < 24)) : clean l out many = clean (l.drop (chr l).2) out many := by rw [clean, dif_neg h, dif_neg h2, if_neg h3]
theorem chr_ne {l : List UInt8} (h : (chr l).2 ≠ 0) : l ≠ [] := by rintro rfl; simp [chr] at h
theorem chr_app (l q : List UInt8) (h : (chr l).2 ≠ 0) : chr (l ++ q) = chr l := by
  have e : l ++ q = l.take (chr l).2 ++ (l.drop (chr l).2 ++ q) := by rw [← List.append_assoc, List.take_append_drop]
  rw [e, chr_pre l _ h]
/-- A text of so many characters, each of which may stand in a name. -/
inductive Wd : List UInt8 → Nat → Prop where
  | nil : Wd [] 0
  | cons {l : List UInt8} {n : Nat} (h : (chr l).2 ≠ 0) (hm : mayB (chr l).1 = true) (hr : Wd (l.drop (chr l).2) n) : Wd l (n + 1)
theorem Wd.one {q : List UInt8} (h : (chr q).2 ≠ 0) (hm : mayB (chr q).1 = true) : Wd (q.take (chr q).2) 1 := by
  have e := chr_pre q [] h
  rw [List.append_nil] at e
  refine .cons (by rw [e]; exact h) (by rw [e]; exact hm) ?_
  rw [e, List.drop_take_self]
  exact .nil
theorem Wd.app : ∀ {a : List UInt8} {n : Nat}, Wd a n → ∀ {b : List UInt8} {m : Nat}, Wd b m → Wd (a ++ b) (n + m) := by
  intro a n h
  induction h with
  | nil => intro b m h; simpa using h
  | @cons l n h hm hr ih =>
    intro b m hb
    have e := chr_app l b h
    rw [show n + 1 + m = (n + m) + 1 by omega]
    refine .cons (by rw [e]; exact h) (by rw [e]; exact hm) ?_
    rw [e, List.drop_append_of_le_length (chr_le l).1]
    exact ih hb
theorem Wd.runes {l : List UInt8} {n : Nat} (h : Wd l n) : ∀ out : List Int, ∃ cs : List Int, runes l out = some (out ++ cs) ∧ cs.length = n ∧ cs.all mayB = true := by
  induction h with
  | nil => intro out; exact ⟨[], by rw [runes_nil]; simp, rfl, rfl⟩
  | @cons l n h hm hr ih =>
    intro out
    obtain ⟨cs, h1, h2, h3⟩ := ih (out ++ [((chr l).1 : Int)])
    exact ⟨((chr l).1 : Int) :: cs, by rw [runes_some _ (chr_ne h) h, h1]; simp, by simp [h2], by simp [hm, h3]⟩
theorem wd_of_runes : ∀ (k : Nat) (l : List UInt8) (out cs : List Int), l.length ≤ k → Go.AR.runes l out = some cs → ∃ r, cs = out ++ r ∧ (r.all mayB = true → Wd l r.length)
  | k, [], out, cs, _, h => by
    rw [runes_nil] at h
    cases h
    exact ⟨[], by simp, fun _ => .nil⟩
  | 0, b :: l, out, cs, hk, h => by simp at hk
  | k + 1, b :: l, out, cs, hk, h => by
    by_cases h2 : (chr (b :: l)).2 = 0
    · rw [runes_none _ (by simp) h2] at h; cases h
    · rw [runes_some _ (by simp) h2] at h
      obtain ⟨r, e, hr⟩ := wd_of_runes k _ _ _ (by rw [List.length_drop]; simp at hk ⊢; omega) h
      refine ⟨((chr (b :: l)).1 : Int) :: r, by rw [e]; simp, fun ha => ?_⟩
      simp only [List.all_cons, Bool.and_eq_true] at ha
      exact .cons h2 ha.1 (hr ha.2)
theorem right_iff (s : List UInt8) : rightB s = true ↔ ∃ n, Wd s n ∧ 1 ≤ n ∧ n ≤ 24 := by
  unfold rightB
  constructor
  · intro h
    split at h
    · cases h
    · rename_i l hl
      obtain ⟨r, e, hr⟩ := wd_of_runes s.length s [] l (Nat.le_refl _) hl
      rw [List.nil_append] at e
      subst e
      simp only [Bool.and_eq_true, decide_eq_true_eq] at h
      exact ⟨l.length, hr h.2.2, h.1, h.2.1⟩
  · rintro ⟨n, h, h1, h2⟩
    obtain ⟨cs, e1, e2, e3⟩ := h.runes []
    rw [e1]
    simp [e2, e3, h1, h2]
theorem wd_95 : Wd [95] 1 := by
  have e : chr [95] = (95, 1) := by decide
  refine .cons (by rw [e]; decide) (by rw [e]; decide) ?_
  rw [e]; exact .nil
theorem clean_wd : ∀ (k : Nat) (l out : List UInt8) (many : Nat), l.length ≤ k → Wd out many → many ≤ 24 → ∃ n, Wd (clean l out many) n ∧ 1 ≤ n ∧ n ≤ 24
  | k, [], out, many, _, h, hm => by
    rw [clean_nil]
    split
    · exact ⟨1, wd_95, by omega, by omega⟩
    · exact ⟨many, h, by omega, hm⟩
  | 0, b :: l, out, many, hk, _, _ => by simp at hk
  | k + 1, b :: l, out, many, hk, h, hm => by
    by_cases h2 : (chr (b :: l)).2 = 0
    · rw [clean_bad _ _ (by simp) h2]
      exact clean_wd k _ _ _ (by simp at hk ⊢; omega) h hm
    · have hd : ((b :: l).drop (chr (b :: l)).2).length ≤ k := by rw [List.length_drop]; simp at hk ⊢; omega
      by_cases h3 : mayB (chr (b :: l)).1 = true ∧ many < 24
      · rw [clean_in _ _ (by simp) h2 h3]
        exact clean_wd k _ _ _ hd (h.app (.one h2 h3.1)) (by omega)
      · rw [clean_out _ _ (by simp) h2 h3]
        exact clean_wd k _ _ _ hd h hm
theorem wd_clean {l : List UInt8} {n : Nat} (h : Wd l n) : ∀ (out : List UInt8) (many : Nat), many + n ≤ 24 → clean l out many = if many + n = 0 then [95] else out ++ l := by
  induction h with
  | nil => intro out many _; rw [clean_nil]; simp
  | @cons l n h hm hr ih =>
    intro out many hle
    rw [clean_in _ _ (chr_ne h) h ⟨hm, by omega⟩, ih _ _ (by omega), if_neg (by omega), if_neg (by omega), List.append_assoc, List.take_append_drop]
theorem clean_right (s : List UInt8) : rightB (clean s [] 0) = true := by
  obtain ⟨n, h, h1, h2⟩ := clean_wd s.length s [] 0 (Nat.le_refl _) .nil (by omega)
  exact (right_iff _).2 ⟨n, h, h1, h2⟩
theorem right_clean {s : List UInt8} (h : rightB s = true) : clean s [] 0 = s := by
  obtain ⟨n, h, h1, h2⟩ := (right_iff s).1 h
  rw [wd_clean h [] 0 (by omega), if_neg (by omega)]
  rfl
theorem clean_clean (s : List UInt8) : clean (clean s [] 0) [] 0 = clean s [] 0 := right_clean (clean_right s)
theorem right_same (s : List UInt8) : rightB s = (clean s [] 0 == s) := by
  rw [Bool.eq_iff_iff, beq_iff_eq]
  exact ⟨right_clean, fun h => h ▸ clean_right s⟩
theorem clean_len : ∀ (k : Nat) (l out : List UInt8) (many : Nat), l.length ≤ k → (clean l out many).length ≤ out.length + l.length + 1
  | k, [], out, many, _ => by
    rw [clean_nil]
    split <;> simp
  | 0, b :: l, out, many, hk => by simp at hk
  | k + 1, b :: l, out, many, hk => by
    by_cases h2 : (chr (b :: l)).2 = 0
    · rw [clean_bad _ _ (by simp) h2]
      have := clean_len k ((b :: l).drop 1) out many (by simp at hk ⊢; omega)
      simp at this ⊢; omega
    · have hd : ((b :: l).drop (chr (b :: l)).2).length ≤ k := by rw [List.length_drop]; simp at hk ⊢; omega
      have hle := (chr_le (b :: l)).1
      by_cases h3 : mayB (chr (b :: l)).1 = true ∧ many < 24
      · rw [clean_in _ _ (by simp) h2 h3]
        have := clean_len k _ (out ++ (b :: l).take (chr (b :: l)).2) (many + 1) hd
        rw [List.length_append, List.length_drop, List.length_take] at this
        omega
      · rw [clean_out _ _ (by simp) h2 h3]
        have := clean_len k _ out many hd
        rw [List.length_drop] at this
        omega
end Go.AR
