import Derived.Test.YtlhahjlnhkokcaaG23
set_option linter.all false
/-! Regions: in order, and in whatever order. -/
namespace Go.AR
open Go

/-! ### An operation touches what it names, and no more -/
def applyT {α : Type} (m : List (Nat × α)) : List (Nat × α) → List (Nat × α)
  | [] => m
  | (i, a) :: r => applyT (set m i a) r
theorem setAll_apply {α : Type} : ∀ (m : List (Nat × α)) (is : List Nat) (bs : List α), setAll m is bs = applyT m (is.zip bs)
  | m, [], bs => by simp [setAll, applyT]
  | m, i :: is, [] => by simp [setAll, applyT]
  | m, i :: is, b :: bs => by simp only [setAll, List.zip_cons_cons, applyT]; exact setAll_apply _ is bs
theorem get_applyT {α : Type} : ∀ (r : List (Nat × α)) (m : List (Nat × α)) (s : Nat), (∀ e ∈ r, e.1 ≠ s) → get (applyT m r) s = get m s
  | [], _, _, _ => rfl
  | (i, a) :: r, m, s, h => by
    simp only [applyT]
    rw [get_applyT r _ s (fun e he => h e (by simp [he])), get_set, if_neg (fun e => h (i, a) (by simp) e.symm)]
theorem applyT_set {α : Type} : ∀ (r : List (Nat × α)) (m : List (Nat × α)) (i : Nat) (a : α), (∀ e ∈ r, e.1 ≠ i) → applyT (set m i a) r = set (applyT m r) i a
  | [], _, _, _, _ => rfl
  | (j, b) :: r, m, i, a, h => by
    simp only [applyT]
    rw [set_comm m i j a b (fun e => h (j, b) (by simp) e.symm)]
    exact applyT_set r _ i a (fun e he => h e (by simp [he]))
theorem applyT_comm {α : Type} : ∀ (r q : List (Nat × α)) (m : List (Nat × α)), (∀ e ∈ r, ∀ f ∈ q, e.1 ≠ f.1) → applyT (applyT m r) q = applyT (applyT m q) r
  | [], _, _, _ => rfl
  | (i, a) :: r, q, m, h => by
    simp only [applyT]
    rw [applyT_comm r q (set m i a) (fun e he => h e (by simp [he])), applyT_set q m i a (fun f hf e => h (i, a) (by simp) f hf e.symm)]
theorem applyT_app {α : Type} : ∀ (r q : List (Nat × α)) (m : List (Nat × α)), applyT m (r ++ q) = applyT (applyT m r) q
  | [], _, _ => rfl
  | (i, a) :: r, q, m => by simp only [List.cons_append, applyT]; exact applyT_app r q _

theorem mkArgs_congr {m m' : List (Nat × Blk)} : ∀ (vs : List TV) (ss : List Nat), (∀ s ∈ ss, get m' s = get m s) → mkArgs m' vs ss = mkArgs m vs ss := by
  intro vs
  induction vs with
  | nil => intro ss h; cases ss <;> rfl
  | cons v vs ih =>
    intro ss h
    cases v with
    | lp s off =>
      cases off with
      | zero =>
        cases ss with
        | nil => rfl
        | cons s' ss =>
          simp only [mkArgs]
          by_cases e : s = s'
          · subst e
            rw [if_pos rfl, if_pos rfl, h s (by simp), ih ss (fun q hq => h q (by simp [hq]))]
          · rw [if_neg e, if_neg e]
      | succ n => cases ss <;> simp [mkArgs]
    | val p => simp only [mkArgs]; rw [ih ss h]
    | ownE e1 c r => simp only [mkArgs]; rw [ih ss h]
    | rp _ _ => cases ss <;> simp [mkArgs]
    | self => cases ss <;> simp [mkArgs]
    | undef => cases ss <;> simp [mkArgs]
    | exc _ _ => cases ss <;> simp [mkArgs]
    | xs _ _ _ => cases ss <;> simp [mkArgs]
    | anyb => cases ss <;> simp [mkArgs]
    | mp _ => cases ss <;> simp [mkArgs]
    | tag _ _ => cases ss <;> simp [mkArgs]

theorem mkArgsX_congr {m m' : List (Nat × Blk)} : ∀ (vs : List TV) (ss : List Nat), (∀ s ∈ ss, get m' s = get m s) → mkArgsX m' vs ss = mkArgsX m vs ss := by
  intro vs
  induction vs with
  | nil => intro ss h; cases ss <;> rfl
  | cons v vs ih =>
    intro ss h
    cases v with
    | lp s off =>
      cases off with
      | zero =>
        cases ss with
        | nil => rfl
        | cons s' ss =>
          simp only [mkArgsX]
          by_cases e : s = s'
          · subst e
            rw [if_pos rfl, if_pos rfl, h s (by simp), ih ss (fun q hq => h q (by simp [hq]))]
          · rw [if_neg e, if_neg e]
      | succ n => cases ss <;> simp [mkArgsX]
    | val p => simp only [mkArgsX]; rw [ih ss h]
    | ownE e1 c r => simp only [mkArgsX]; rw [ih ss h]
    | rp _ _ => cases ss <;> simp [mkArgsX]
    | self => cases ss <;> simp [mkArgsX]
    | undef => cases ss <;> simp [mkArgsX]
    | exc _ _ => simp only [mkArgsX]; rw [ih ss h]
    | xs _ _ _ => cases ss <;> simp [mkArgsX]
    | anyb => cases ss <;> simp [mkArgsX]
    | mp _ => cases ss <;> simp [mkArgsX]
    | tag _ _ => cases ss <;> simp [mkArgsX]

theorem mkArgsB_congr {m m' : List (Nat × Blk)} {mr : List Nat} : ∀ (vs : List TV), (∀ s ∈ mr, get m' s = get m s) → mkArgsB m' mr vs = mkArgsB m mr vs := by
  intro vs hs
  induction vs with
  | nil => rfl
  | cons v vs ih =>
    cases v with
    | xs s c n =>
      by_cases h : s ∈ mr
      · simp only [mkArgsB, hs s h, ih]
      · have h' : mr.contains s = false := by rw [← Bool.not_eq_true]; simpa using h
        have none1 : ∀ (q : List (Nat × Blk)), mkArgsB q mr (.xs s c n :: vs) = none := by
          intro q
          simp only [mkArgsB, h']
          split
          · split
            · simp
            · rfl
          · rfl
        rw [none1, none1]
    | _ => simp only [mkArgsB, ih]
theorem rds_ev {o : AOp} {m m' : List (Nat × TV)} (h : ∀ n ∈ o.rds, tget m' n = tget m n) : o.rd.map (·.ev m') = o.rd.map (·.ev m) := by
  apply List.map_congr_left
  intro x hx
  cases x with
  | t n => exact h n (by simp only [AOp.rds, List.mem_append, List.mem_filterMap]; exact .inl ⟨.t n, hx, rfl⟩)
  | c p => rfl
theorem rds_wanted {o : AOp} {σ τ : Fr} (h : ∀ n ∈ o.rds, tget τ.tmps n = tget σ.tmps n) : wantedA o τ = wantedA o σ := by
  unfold wantedA
  cases hg : o.guard with
  | none => rfl
  | some g =>
    obtain ⟨g, b⟩ := g
    simp only
    rw [h g (by simp [AOp.rds, hg])]

theorem put_apply (σ : Fr) (d : Option Nat) (v : TV) : σ.put d v = { tmps := applyT σ.tmps (d.toList.map fun i => (i, v)), mem := σ.mem } := by cases d <;> rfl

/-- What a step writes, it writes in every frame that has what it reads. -/
theorem step_eff {C : CallRel} {o : AOp} {σ σ' : Fr} (h : AStep C o σ σ') :
    ∃ (vs : List (Nat × TV)) (bs : List (Nat × Blk)), (∀ e ∈ vs, e.1 ∈ o.wrs) ∧ (∀ e ∈ bs, e.1 ∈ o.mw) ∧ σ' = { tmps := applyT σ.tmps vs, mem := applyT σ.mem bs } ∧
      ∀ τ : Fr, (∀ n ∈ o.rds, tget τ.tmps n = tget σ.tmps n) → (∀ s ∈ o.mr ++ o.mw, get τ.mem s = get σ.mem s) → AStep C o τ { tmps := applyT τ.tmps vs, mem := applyT τ.mem bs } := by
  unfold AStep at h
  cases hw : wantedA o σ with
  | none => simp [hw] at h
  | some b =>
    cases b with
    | false =>
      simp only [hw] at h
      refine ⟨o.dst.toList.map fun i => (i, .val (.tup [])), [], fun e he => ?_, by simp, by rw [h, put_apply]; rfl, fun τ ht _ => ?_⟩
      · obtain ⟨i, hi, rfl⟩ := List.mem_map.1 he
        simp only [AOp.wrs, List.mem_append]; exact .inl hi
      · unfold AStep
        rw [rds_wanted ht, hw]
        simp only
        rw [put_apply]; rfl
    | true =>
      simp only [hw] at h
      have nocall : semOp o σ = some σ' → (∀ n b, o.k ≠ .call n b ∧ o.k ≠ .callx n b ∧ o.k ≠ .callb) → ∃ (vs : List (Nat × TV)) (bs : List (Nat × Blk)), (∀ e ∈ vs, e.1 ∈ o.wrs) ∧ (∀ e ∈ bs, e.1 ∈ o.mw) ∧ σ' = { tmps := applyT σ.tmps vs, mem := applyT σ.mem bs } ∧
          ∀ τ : Fr, (∀ n ∈ o.rds, tget τ.tmps n = tget σ.tmps n) → (∀ s ∈ o.mr ++ o.mw, get τ.mem s = get σ.mem s) → AStep C o τ { tmps := applyT τ.tmps vs, mem := applyT τ.mem bs } := by
        intro h hk
        obtain ⟨v, ws, bs, hs, rfl⟩ := semOp_inv h
        refine ⟨(o.dst.toList.map fun i => (i, v)) ++ o.wb.zip ws, o.mw.zip bs, fun e he => ?_, fun e he => (List.of_mem_zip he).1, ?_, fun τ ht hm => ?_⟩
        · simp only [AOp.wrs, List.mem_append] at he ⊢
          rcases he with he | he
          · obtain ⟨i, hi, rfl⟩ := List.mem_map.1 he; exact .inl hi
          · exact .inr (List.of_mem_zip he).1
        · rw [put_apply, setAll_apply, setAll_apply, applyT_app]
        · have hsem : semOp o τ = some { tmps := setAll (τ.put o.dst v).tmps o.wb ws, mem := setAll τ.mem o.mw bs } := by
            unfold semOp
            rw [rds_ev ht, List.map_congr_left (fun s hs => hm s (by simp [hs]) : ∀ s ∈ o.mr, get τ.mem s = get σ.mem s), List.map_congr_left (fun s hs => hm s (by simp [hs]) : ∀ s ∈ o.mw, get τ.mem s = get σ.mem s), hs]
          have : AStep C o τ { tmps := setAll (τ.put o.dst v).tmps o.wb ws, mem := setAll τ.mem o.mw bs } := by
            unfold AStep
            rw [rds_wanted ht, hw]
            simp only
            cases hkk : o.k <;> first | exact hsem | exact absurd hkk (hk 0 true).2.2 | exact absurd hkk (hk _ _).1 | exact absurd hkk (hk _ _).2.1
          rw [put_apply, setAll_apply, setAll_apply, ← applyT_app] at this
          exact this
      cases hk : o.k with
      | call nref new =>
        simp only [hk] at h
        obtain ⟨f, vs, as, rv, outs, h1, h2, h3, h4, h5, rfl⟩ := h
        -- what the answer writes
        have hrv : ∃ (tv : List (Nat × TV)) (bv : List (Nat × Blk)), (∀ e ∈ tv, e.1 ∈ o.wrs) ∧ (∀ e ∈ bv, e.1 ∈ o.mw) ∧ ∀ τ : Fr, putRV τ o.dst rv = { tmps := applyT τ.tmps tv, mem := applyT τ.mem bv } := by
          cases rv with
          | val p => exact ⟨o.dst.toList.map fun i => (i, .val p), [], fun e he => by obtain ⟨i, hi, rfl⟩ := List.mem_map.1 he; simp only [AOp.wrs, List.mem_append]; exact .inl hi, by simp, fun τ => by simp only [putRV]; rw [put_apply]; rfl⟩
          | own c r => exact ⟨o.dst.toList.map fun i => (i, .own c r), [], fun e he => by obtain ⟨i, hi, rfl⟩ := List.mem_map.1 he; simp only [AOp.wrs, List.mem_append]; exact .inl hi, by simp, fun τ => by simp only [putRV]; rw [put_apply]; rfl⟩
          | exc c r => exact ⟨o.dst.toList.map fun i => (i, .exc c r), [], fun e he => by obtain ⟨i, hi, rfl⟩ := List.mem_map.1 he; simp only [AOp.wrs, List.mem_append]; exact .inl hi, by simp, fun τ => by simp only [putRV]; rw [put_apply]; rfl⟩
          | new b =>
            obtain ⟨_, d, hd, hdm, _⟩ := h5
            refine ⟨[(d, .lp d 0)], [(d, b)], fun e he => ?_, fun e he => ?_, fun τ => by simp [putRV, hd, applyT]⟩
            · simp at he; subst he; simp [AOp.wrs, hd]
            · simp at he; subst he
              exact List.mem_of_mem_drop (by rw [hdm]; simp)
          | newm b =>
            obtain ⟨_, d, hd, hdm, _⟩ := h5
            refine ⟨[(d, .mp d)], [(d, b)], fun e he => ?_, fun e he => ?_, fun τ => by simp [putRV, hd, applyT]⟩
            · simp at he; subst he; simp [AOp.wrs, hd]
            · simp at he; subst he
              exact List.mem_of_mem_drop (by rw [hdm]; simp)
        obtain ⟨tv, bv, ht1, ht2, ht3⟩ := hrv
        refine ⟨tv, (o.mw.take nref).zip outs ++ bv, ht1, fun e he => ?_, by rw [ht3, setAll_apply, applyT_app], fun τ ht hm => ?_⟩
        · rcases List.mem_append.1 he with he | he
          · exact List.mem_of_mem_take (List.of_mem_zip he).1
          · exact ht2 e he
        · unfold AStep
          rw [rds_wanted ht, hw]
          simp only [hk]
          refine ⟨f, vs, as, rv, outs, by rw [rds_ev ht]; exact h1, by rw [mkArgs_congr vs _ (fun s hs => hm s (by simp [List.mem_of_mem_take hs]))]; exact h2, h3, h4, ?_, by rw [ht3, setAll_apply, applyT_app]⟩
          cases rv with
          | val p => trivial
          | own c r => trivial
          | exc c r => trivial
          | new b =>
            obtain ⟨hn, d, hd, hdm, hg⟩ := h5
            exact ⟨hn, d, hd, hdm, by rw [hm d (by simp; exact .inr (List.mem_of_mem_drop (by rw [hdm]; simp)))]; exact hg⟩
          | newm b =>
            obtain ⟨hn, d, hd, hdm, hg⟩ := h5
            exact ⟨hn, d, hd, hdm, by rw [hm d (by simp; exact .inr (List.mem_of_mem_drop (by rw [hdm]; simp)))]; exact hg⟩
      | callx nref new =>
        simp only [hk] at h
        obtain ⟨f, vs, as, rv, outs, h1, h2, h3, h4, hgv, h5, rfl⟩ := h
        -- what the answer writes
        have hrv : ∃ (tv : List (Nat × TV)) (bv : List (Nat × Blk)), (∀ e ∈ tv, e.1 ∈ o.wrs) ∧ (∀ e ∈ bv, e.1 ∈ o.mw) ∧ ∀ τ : Fr, putRV τ o.dst rv = { tmps := applyT τ.tmps tv, mem := applyT τ.mem bv } := by
          cases rv with
          | val p => exact ⟨o.dst.toList.map fun i => (i, .val p), [], fun e he => by obtain ⟨i, hi, rfl⟩ := List.mem_map.1 he; simp only [AOp.wrs, List.mem_append]; exact .inl hi, by simp, fun τ => by simp only [putRV]; rw [put_apply]; rfl⟩
          | own c r => exact ⟨o.dst.toList.map fun i => (i, .own c r), [], fun e he => by obtain ⟨i, hi, rfl⟩ := List.mem_map.1 he; simp only [AOp.wrs, List.mem_append]; exact .inl hi, by simp, fun τ => by simp only [putRV]; rw [put_apply]; rfl⟩
          | exc c r => exact ⟨o.dst.toList.map fun i => (i, .exc c r), [], fun e he => by obtain ⟨i, hi, rfl⟩ := List.mem_map.1 he; simp only [AOp.wrs, List.mem_append]; exact .inl hi, by simp, fun τ => by simp only [putRV]; rw [put_apply]; rfl⟩
          | new b =>
            obtain ⟨_, d, hd, hdm, _⟩ := h5
            refine ⟨[(d, .lp d 0)], [(d, b)], fun e he => ?_, fun e he => ?_, fun τ => by simp [putRV, hd, applyT]⟩
            · simp at he; subst he; simp [AOp.wrs, hd]
            · simp at he; subst he
              exact List.mem_of_mem_drop (by rw [hdm]; simp)
          | newm b =>
            obtain ⟨_, d, hd, hdm, _⟩ := h5
            refine ⟨[(d, .mp d)], [(d, b)], fun e he => ?_, fun e he => ?_, fun τ => by simp [putRV, hd, applyT]⟩
            · simp at he; subst he; simp [AOp.wrs, hd]
            · simp at he; subst he
              exact List.mem_of_mem_drop (by rw [hdm]; simp)
        obtain ⟨tv, bv, ht1, ht2, ht3⟩ := hrv
        refine ⟨(o.wb.zip (o.wb.map fun _ => .undef)) ++ tv, (o.mw.take nref).zip outs ++ bv, fun e he => ?_, fun e he => ?_, by rw [ht3, setAll_apply, setAll_apply, applyT_app, applyT_app], fun τ ht hm => ?_⟩
        · rcases List.mem_append.1 he with he | he
          · simp only [AOp.wrs, List.mem_append]; exact .inr (List.of_mem_zip he).1
          · exact ht1 e he
        · rcases List.mem_append.1 he with he | he
          · exact List.mem_of_mem_take (List.of_mem_zip he).1
          · exact ht2 e he
        · unfold AStep
          rw [rds_wanted ht, hw]
          simp only [hk]
          refine ⟨f, vs, as, rv, outs, by rw [rds_ev ht]; exact h1, by rw [mkArgsX_congr vs _ (fun s hs => hm s (by simp [List.mem_of_mem_take hs]))]; exact h2, h3, h4, fun n hn hx => hgv n hn (by rw [← ht n (by simp only [AOp.rds, List.mem_append, List.mem_filterMap]; exact .inl ⟨.t n, hn, rfl⟩)]; exact hx), ?_, by rw [ht3, setAll_apply, setAll_apply, applyT_app, applyT_app]⟩
          cases rv with
          | val p => trivial
          | own c r => trivial
          | exc c r => trivial
          | new b =>
            obtain ⟨hn, d, hd, hdm, hg⟩ := h5
            exact ⟨hn, d, hd, hdm, by rw [hm d (by simp; exact .inr (List.mem_of_mem_drop (by rw [hdm]; simp)))]; exact hg⟩
          | newm b =>
            obtain ⟨hn, d, hd, hdm, hg⟩ := h5
            exact ⟨hn, d, hd, hdm, by rw [hm d (by simp; exact .inr (List.mem_of_mem_drop (by rw [hdm]; simp)))]; exact hg⟩
      | callb =>
        simp only [hk] at h
        obtain ⟨f, vs, as, p, h1, h2, h3, h4, rfl⟩ := h
        refine ⟨o.dst.toList.map fun i => (i, .val p), [], fun e he => ?_, by simp, by rw [put_apply]; rfl, fun τ ht hm => ?_⟩
        · obtain ⟨i, hi, rfl⟩ := List.mem_map.1 he
          simp only [AOp.wrs, List.mem_append]; exact .inl hi
        · unfold AStep
          rw [rds_wanted ht, hw]
          simp only [hk]
          exact ⟨f, vs, as, p, by rw [rds_ev ht]; exact h1, by rw [mkArgsB_congr vs (fun s hs => hm s (by simp [hs]))]; exact h2, h3, h4, by rw [put_apply]; rfl⟩
      | _ => exact nocall (by simpa [hk] using h) (by simp [hk])

theorem disj_spec {a b : List Nat} (h : disj a b = true) {x : Nat} (hx : x ∈ a) : x ∉ b := by
  simp only [disj, List.all_eq_true] at h
  have := h x hx
  simpa using this
theorem tget_applyT {r : List (Nat × TV)} {m : List (Nat × TV)} {n : Nat} (h : ∀ e ∈ r, e.1 ≠ n) : tget (applyT m r) n = tget m n := by
  simp only [tget, get_applyT r m n h]

/-- Two operations that have nothing to do with each other may change places. -/
theorem step_comm {C : CallRel} {p x : AOp} {σ σ1 σ2 : Fr} (hi : indep x p = true) (h1 : AStep C p σ σ1) (h2 : AStep C x σ1 σ2) : ∃ τ, AStep C x σ τ ∧ AStep C p τ σ2 := by
  simp only [indep, Bool.and_eq_true] at hi
  obtain ⟨⟨⟨i1, i2⟩, i3⟩, i4⟩ := hi
  obtain ⟨vs1, bs1, a1, a2, rfl, a3⟩ := step_eff h1
  obtain ⟨vs2, bs2, b1, b2, rfl, b3⟩ := step_eff h2
  refine ⟨_, b3 σ (fun n hn => ?_) (fun s hs => ?_), ?_⟩
  · refine (tget_applyT (fun e he hen => ?_)).symm
    exact disj_spec i2 (a1 e he) (by rw [hen]; exact hn)
  · refine (get_applyT _ _ _ (fun e he hes => ?_)).symm
    rcases List.mem_append.1 hs with hs | hs
    · exact disj_spec i4 (a2 e he) (by rw [hes]; exact hs)
    · exact disj_spec i3 (hes ▸ hs : e.1 ∈ x.mw) (List.mem_append.2 (.inr (a2 e he)))
  · have := a3 { tmps := applyT σ.tmps vs2, mem := applyT σ.mem bs2 } (fun n hn => tget_applyT (fun e he hen => disj_spec i1 (b1 e he) (List.mem_append.2 (.inl (by rw [hen]; exact hn)))))
      (fun s hs => get_applyT _ _ _ (fun e he hes => by
        rcases List.mem_append.1 hs with hs | hs
        · exact disj_spec i3 (b2 e he) (List.mem_append.2 (.inl (by rw [hes]; exact hs)))
        · exact disj_spec i3 (b2 e he) (List.mem_append.2 (.inr (by rw [hes]; exact hs)))))
    rw [applyT_comm vs1 vs2 σ.tmps (fun e he f hf hef => disj_spec i1 (b1 f hf) (List.mem_append.2 (.inr (by rw [← hef]; exact a1 e he)))),
      applyT_comm bs1 bs2 σ.mem (fun e he f hf hef => disj_spec i3 (b2 f hf) (List.mem_append.2 (.inr (by rw [← hef]; exact a2 e he))))]
    exact this
theorem bubble {C : CallRel} {x : AOp} : ∀ (pre post : List AOp) (σ σf : Fr), (∀ p ∈ pre, indep x p = true) → ASteps C (pre ++ x :: post) σ σf → ∃ τ, AStep C x σ τ ∧ ASteps C (pre ++ post) τ σf
  | [], post, σ, σf, _, h => h
  | p :: pre, post, σ, σf, hi, h => by
    obtain ⟨σ1, h1, h2⟩ := h
    obtain ⟨τ1, h3, h4⟩ := bubble pre post σ1 σf (fun q hq => hi q (by simp [hq])) h2
    obtain ⟨τ, h5, h6⟩ := step_comm (hi p (by simp)) h1 h3
    exact ⟨τ, h5, τ1, h6, h4⟩
end Go.AR
