import Derived.Test.YtillphnjhefioaaG08
set_option linter.all false
/-! Counts of dots: the laws, plain. -/
namespace Go.AR
/-- Rows that may be: they rise, and none is nothing. -/
structure Ri (l : List Ud) : Prop where
  up : l.Pairwise fun a b => dcmp a.1 b.1 < 0
  ok : ∀ u ∈ l, uOk u = true
theorem uOk_pos {u : Ud} (h : uOk u = true) : 1 ≤ u.2 ∧ u.2 ≤ 64 ∧ dotOk u.1 = true := by simp [uOk] at h; exact ⟨h.1.2, h.2, h.1.1⟩
theorem Ri.nil : Ri [] := ⟨by simp, by simp⟩
theorem Ri.tail {x : Ud} {l : List Ud} (h : Ri (x :: l)) : Ri l := ⟨(List.pairwise_cons.1 h.up).2, fun u hu => h.ok u (List.mem_cons_of_mem _ hu)⟩
theorem Ri.head {x : Ud} {l : List Ud} (h : Ri (x :: l)) : (∀ y ∈ l, dcmp x.1 y.1 < 0) ∧ uOk x = true := ⟨(List.pairwise_cons.1 h.up).1, h.ok x (by simp)⟩
theorem Ri.cons {x : Ud} {l : List Ud} (h : Ri l) (h1 : ∀ y ∈ l, dcmp x.1 y.1 < 0) (h2 : uOk x = true) : Ri (x :: l) :=
  ⟨List.pairwise_cons.2 ⟨h1, h.up⟩, fun u hu => by rcases List.mem_cons.1 hu with rfl | hu; · exact h2
                                                   · exact h.ok u hu⟩
theorem getD_mem {l : List Ud} {j : Nat} (h : j < l.length) : l.getD j z3 = l[j] := by simp [List.getD_eq_getElem?_getD, h]
theorem ri_iff {l : List Ud} : rightU l = true ↔ Ri l := by
  constructor
  · intro h
    refine ⟨?_, fun u hu => ?_⟩
    · rw [List.pairwise_iff_getElem]
      intro i j hi hj hij
      have := sort_of_right h i j hij hj
      rwa [getD_mem hi, getD_mem hj] at this
    · obtain ⟨k, hk, rfl⟩ := List.getElem_of_mem hu
      have := rightU_iff.1 h k hk
      simp only [okAt, Bool.and_eq_true] at this
      rw [← getD_mem hk]; exact this.1
  · intro h
    rw [rightU_iff]
    intro j hj
    have h1 := List.pairwise_iff_getElem.1 h.up
    unfold okAt
    rw [getD_mem hj, h.ok _ (List.getElem_mem hj), Bool.true_and]
    by_cases e : j = 0
    · subst e; rfl
    · have hj' : j - 1 < l.length := by omega
      rw [getD_mem hj', decide_eq_true (h1 (j - 1) j hj' hj (by omega))]; simp
theorem dcmp_irr {a : Dt} : ¬ dcmp a a < 0 := by rw [dcmp_neg]; omega
theorem dcmp_ne {a b : Dt} (h : dcmp a b < 0) : a ≠ b := fun e => dcmp_irr (e ▸ h)
theorem above_cons {d : Dt} {x : Ud} {l : List Ud} (h : dcmp d x.1 < 0) (hl : ∀ y ∈ l, dcmp x.1 y.1 < 0) : ∀ z ∈ x :: l, dcmp d z.1 < 0 := by
  intro z hz
  rcases List.mem_cons.1 hz with rfl | hz
  · exact h
  · exact dcmp_trans h (hl z hz)
theorem get_above {l : List Ud} {d : Dt} (h : ∀ y ∈ l, dcmp d y.1 < 0) : getU l d = 0 := by
  induction l with
  | nil => rfl
  | cons x l ih =>
    have := dcmp_ne (h x (by simp))
    rw [getU, if_neg (fun e => this e.symm)]
    exact ih (fun y hy => h y (List.mem_cons_of_mem _ hy))
theorem get_nonneg {l : List Ud} (h : Ri l) (d : Dt) : 0 ≤ getU l d := by
  induction l with
  | nil => simp [getU]
  | cons x l ih =>
    have := uOk_pos h.head.2
    rw [getU]; split
    · omega
    · exact ih h.tail
/-- Rows that tell the same are the same. -/
theorem ri_ext : ∀ {l m : List Ud}, Ri l → Ri m → (∀ d, getU l d = getU m d) → l = m
  | [], [], _, _, _ => rfl
  | [], y :: m, _, hm, h => by
    have := h y.1; have := uOk_pos hm.head.2
    simp [getU] at *; omega
  | x :: l, [], hl, _, h => by
    have := h x.1; have := uOk_pos hl.head.2
    simp [getU] at *; omega
  | x :: l, y :: m, hl, hm, h => by
    have px := uOk_pos hl.head.2; have py := uOk_pos hm.head.2
    have hx := h x.1; have hy := h y.1
    have lx := get_above hl.head.1
    have ly := get_above hm.head.1
    have e : x.1 = y.1 := by
      rcases dcmp_cases x.1 y.1 with ⟨q, _⟩ | ⟨_, e⟩ | ⟨q, _⟩
      · have q' : dcmp x.1 y.1 < 0 := by omega
        have : getU (y :: m) x.1 = 0 := get_above (above_cons q' hm.head.1)
        rw [this, getU, if_pos rfl] at hx; omega
      · exact e
      · have q' : dcmp y.1 x.1 < 0 := dcmp_pos.1 (by omega)
        have : getU (x :: l) y.1 = 0 := get_above (above_cons q' hl.head.1)
        rw [this, getU, if_pos rfl] at hy; omega
    have e2 : x.2 = y.2 := by rw [getU, getU, if_pos rfl, if_pos e.symm] at hx; exact hx
    have : l = m := ri_ext hl.tail hm.tail (fun d => by
      by_cases q : d = x.1
      · subst q; rw [lx, e, ly]
      · have := h d
        rwa [getU, getU, if_neg (fun e => q e.symm), if_neg (fun e' => q (by rw [e, e']))] at this)
    rw [this, Prod.ext e e2]
def insU : List Ud → Ud → List Ud
  | [], u => [u]
  | x :: l, u => if dcmp x.1 u.1 < 0 then x :: insU l u else if x.1 = u.1 then (if x.2 ≥ u.2 then x :: l else u :: l) else u :: x :: l
theorem ins_mem {u z : Ud} : ∀ {l : List Ud}, z ∈ insU l u → z ∈ l ∨ z = u
  | [], h => by simp [insU] at h; exact .inr h
  | x :: l, h => by
    simp only [insU] at h
    split at h
    · rcases List.mem_cons.1 h with rfl | h
      · exact .inl (by simp)
      · rcases ins_mem h with h | h
        · exact .inl (List.mem_cons_of_mem _ h)
        · exact .inr h
    · split at h
      · split at h
        · exact .inl h
        · rcases List.mem_cons.1 h with rfl | h
          · exact .inr rfl
          · exact .inl (List.mem_cons_of_mem _ h)
      · rcases List.mem_cons.1 h with rfl | h
        · exact .inr rfl
        · exact .inl h
theorem ins_ri {u : Ud} (hu : uOk u = true) : ∀ {l : List Ud}, Ri l → Ri (insU l u)
  | [], _ => Ri.nil.cons (by simp) hu
  | x :: l, h => by
    simp only [insU]
    split
    · rename_i q
      refine (ins_ri hu h.tail).cons (fun y hy => ?_) h.head.2
      rcases ins_mem hy with hy | rfl
      · exact h.head.1 y hy
      · exact q
    · split
      · rename_i e
        split
        · exact h
        · exact h.tail.cons (fun y hy => by rw [← e]; exact h.head.1 y hy) hu
      · rename_i q e
        have q' : dcmp u.1 x.1 < 0 := by
          rcases dcmp_cases x.1 u.1 with ⟨k, _⟩ | ⟨_, k⟩ | ⟨k, _⟩
          · omega
          · exact absurd k e
          · exact dcmp_pos.1 (by omega)
        exact h.cons (above_cons q' h.head.1) hu
theorem ins_get {u : Ud} (hu : uOk u = true) (d : Dt) : ∀ {l : List Ud}, Ri l → getU (insU l u) d = if d = u.1 then max (getU l d) u.2 else getU l d
  | [], _ => by
    have := uOk_pos hu
    by_cases e : d = u.1
    · subst e; simp [insU, getU]; omega
    · have e' : ¬ u.1 = d := fun h => e h.symm
      simp [insU, getU, e, e']
  | x :: l, h => by
    have ih := ins_get hu d h.tail
    have px := uOk_pos h.head.2; have pu := uOk_pos hu
    simp only [insU]
    split
    · rename_i q
      have ne := dcmp_ne q
      rw [getU, getU, ih]
      by_cases e : x.1 = d
      · rw [if_pos e, if_pos e, if_neg (by rw [← e]; exact ne)]
      · rw [if_neg e, if_neg e]
    · split
      · rename_i e
        split
        · rename_i q
          by_cases k : d = u.1
          · rw [if_pos k, getU, if_pos (by rw [e, k])]; omega
          · rw [if_neg k]
        · by_cases k : d = u.1
          · rw [if_pos k, getU, getU, if_pos k.symm, if_pos (by rw [e, k])]; omega
          · rw [if_neg k, getU, getU, if_neg (fun h => k h.symm), if_neg (fun h => k (by rw [← h, e]))]
      · rename_i q e
        have q' : dcmp u.1 x.1 < 0 := by
          rcases dcmp_cases x.1 u.1 with ⟨k, _⟩ | ⟨_, k⟩ | ⟨k, _⟩
          · omega
          · exact absurd k e
          · exact dcmp_pos.1 (by omega)
        by_cases k : d = u.1
        · have : getU (x :: l) d = 0 := get_above (by rw [k]; exact above_cons q' h.head.1)
          rw [if_pos k, this, getU, if_pos k.symm]; omega
        · rw [if_neg k, getU, if_neg (fun h => k h.symm)]
theorem put_ins {u : Ud} (hu : uOk u = true) : ∀ {l : List Ud}, Ri l → putU l u = insU l u := by
  have core : ∀ {l : List Ud}, Ri l → (if hasU l u.1 = false then l.take (lowU l u.1) ++ u :: l.drop (lowU l u.1) else if (l.getD (lowU l u.1) z3).2 ≥ u.2 then l else l.set (lowU l u.1) u) = insU l u := by
    intro l
    induction l with
    | nil => intro _; simp [insU, hasU, lowU]
    | cons x l ih =>
      intro h
      have ih := ih h.tail
      by_cases q : dcmp x.1 u.1 < 0
      · have l1 : lowU (x :: l) u.1 = lowU l u.1 + 1 := by unfold lowU; rw [List.filter_cons_of_pos (by simpa using q)]; rfl
        have l2 : hasU (x :: l) u.1 = hasU l u.1 := by unfold hasU; rw [List.any_cons, decide_eq_false (dcmp_ne q), Bool.false_or]
        rw [l1, l2, insU, if_pos q, ← ih]
        cases hasU l u.1
        · simp
        · simp only [Bool.true_eq_false, if_false, List.getD_cons_succ, List.set_cons_succ]
          split <;> rfl
      · have none : ∀ y ∈ l, ¬ dcmp y.1 u.1 < 0 := fun y hy k => q (dcmp_trans (h.head.1 y hy) k)
        have l1 : lowU (x :: l) u.1 = 0 := by
          unfold lowU
          rw [List.filter_cons_of_neg (by simpa using q), List.filter_eq_nil_iff.2 (fun y hy => by simpa using none y hy)]; rfl
        rw [l1, insU, if_neg q]
        by_cases e : x.1 = u.1
        · have l2 : hasU (x :: l) u.1 = true := by unfold hasU; rw [List.any_cons, decide_eq_true e, Bool.true_or]
          rw [l2, if_pos e]
          simp
        · have l2 : hasU (x :: l) u.1 = false := by
            rw [← Bool.not_eq_true]
            intro k
            simp only [hasU, List.any_eq_true, decide_eq_true_eq] at k
            obtain ⟨y, hy, e2⟩ := k
            rcases List.mem_cons.1 hy with rfl | hy
            · exact e e2
            · have := h.head.1 y hy; rw [e2] at this; exact q this
          rw [l2, if_neg e]; simp
  intro l h
  unfold putU
  rw [if_neg (by rw [hu]; simp)]
  exact core h
theorem rput_ins {u : Ud} (hu : uOk u = true) {l : List Ud} (h : Ri l) : rPut l u = insU l u := by
  have rest : ∀ (l : List Ud) (o : List Ud), (∀ y ∈ l, dcmp u.1 y.1 < 0) → l.foldl (pStep u) (o, true) = (o ++ l, true) := by
    intro l
    induction l with
    | nil => intro o _; simp
    | cons x l ih =>
      intro o k
      have k1 : ¬ dcmp u.1 x.1 = 0 := by have := k x (by simp); omega
      rw [List.foldl_cons, show pStep u (o, true) x = (o ++ [x], true) by simp [pStep, k1], ih _ (fun y hy => k y (List.mem_cons_of_mem _ hy))]; simp
  have main : ∀ (l : List Ud) (o : List Ud), Ri l → getU l u.1 < u.2 → (let st := l.foldl (pStep u) (o, false); if st.2 = true then st.1 else st.1 ++ [u]) = o ++ insU l u := by
    intro l
    induction l with
    | nil => intro o _ _; simp [insU]
    | cons x l ih =>
      intro o h k
      rw [List.foldl_cons]
      by_cases q : dcmp x.1 u.1 < 0
      · have q1 : dcmp u.1 x.1 > 0 := dcmp_pos.2 q
        rw [show pStep u (o, false) x = (o ++ [x], false) by simp [pStep, show ¬ dcmp u.1 x.1 ≤ 0 by omega, show ¬ dcmp u.1 x.1 = 0 by omega]]
        rw [getU, if_neg (dcmp_ne q)] at k
        have := ih (o ++ [x]) h.tail k
        rw [insU, if_pos q]
        simpa using this
      · rw [insU, if_neg q]
        by_cases e : x.1 = u.1
        · rw [getU, if_pos e] at k
          have z : dcmp u.1 x.1 = 0 := dcmp_zero.2 e.symm
          rw [show pStep u (o, false) x = (o ++ [u], true) by simp [pStep, z], rest l _ (fun y hy => by rw [← e]; exact h.head.1 y hy), if_pos e, if_neg (show ¬ x.2 ≥ u.2 by omega)]
          simp
        · have q' : dcmp u.1 x.1 < 0 := by
            rcases dcmp_cases x.1 u.1 with ⟨k, _⟩ | ⟨_, k⟩ | ⟨k, _⟩
            · omega
            · exact absurd k e
            · exact dcmp_pos.1 (by omega)
          rw [show pStep u (o, false) x = (o ++ [u] ++ [x], true) by simp [pStep, show dcmp u.1 x.1 ≤ 0 by omega, show ¬ dcmp u.1 x.1 = 0 by omega], rest l _ (fun y hy => dcmp_trans q' (h.head.1 y hy)), if_neg e]
          simp
  unfold rPut
  by_cases g : getU l u.1 ≥ u.2
  · rw [if_pos (.inr g)]
    refine ri_ext h (ins_ri hu h) (fun d => ?_)
    rw [ins_get hu d h]
    split
    · rename_i e; rw [e]; omega
    · rfl
  · rw [if_neg (by rw [hu]; simp; omega)]
    have := main l [] h (by omega)
    simpa using this
theorem put_eq {l : List Ud} (h : Ri l) (u : Ud) : putU l u = rPut l u := by
  cases hu : uOk u with
  | true => rw [put_ins hu h, rput_ins hu h]
  | false => unfold putU rPut; rw [if_pos hu, if_pos (.inl hu)]
theorem put_ri {l : List Ud} (h : Ri l) (u : Ud) : Ri (putU l u) := by
  cases hu : uOk u with
  | true => rw [put_ins hu h]; exact ins_ri hu h
  | false => unfold putU; rw [if_pos hu]; exact h
end Go.AR
