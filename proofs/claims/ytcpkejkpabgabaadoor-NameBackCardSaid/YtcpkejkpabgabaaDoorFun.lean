import Derived.Test.YtcpkejkpabgabaaDoorCode
set_option linter.all false
/-! A function gives what its code over the abstract machine gives. -/
namespace Go.AR
open Go
section
variable {P : Program} {w : World} {G β : Nat → Nat} {ω : Nat → Option Occ} {σ σ' : Fr} {a : Act}

theorem initA_tmps : ∀ (as : List Arg) (i t : Nat), tget (initA as i).tmps t = if i ≤ t then (match as[t - i]? with | some (.v p) => .val p | some (.r _) => .lp t 0 | some (.x c r) => .exc c r | none => .undef) else .undef
  | [], i, t => by simp [initA, tget, get]
  | .v p :: as, i, t => by
    have ih := initA_tmps as (i + 1) t
    simp only [tget, initA, get] at ih ⊢
    by_cases h : t = i
    · subst h; simp
    · rw [if_neg h, ih]
      by_cases h2 : i ≤ t
      · rw [if_pos h2, if_pos (by omega), show t - i = (t - (i + 1)) + 1 by omega]; simp
      · rw [if_neg h2, if_neg (by omega)]
  | .r b :: as, i, t => by
    have ih := initA_tmps as (i + 1) t
    simp only [tget, initA, get] at ih ⊢
    by_cases h : t = i
    · subst h; simp
    · rw [if_neg h, ih]
      by_cases h2 : i ≤ t
      · rw [if_pos h2, if_pos (by omega), show t - i = (t - (i + 1)) + 1 by omega]; simp
      · rw [if_neg h2, if_neg (by omega)]
  | .x c r :: as, i, t => by
    have ih := initA_tmps as (i + 1) t
    simp only [tget, initA, get] at ih ⊢
    by_cases h : t = i
    · subst h; simp
    · rw [if_neg h, ih]
      by_cases h2 : i ≤ t
      · rw [if_pos h2, if_pos (by omega), show t - i = (t - (i + 1)) + 1 by omega]; simp
      · rw [if_neg h2, if_neg (by omega)]
theorem initA_mem : ∀ (as : List Arg) (i s : Nat), get (initA as i).mem s = if i ≤ s then (match as[s - i]? with | some (.r b) => some b | _ => none) else none
  | [], i, s => by simp [initA, get]
  | .v p :: as, i, s => by
    have ih := initA_mem as (i + 1) s
    simp only [initA]
    rw [ih]
    by_cases h : s = i
    · subst h; rw [if_neg (by omega)]; simp
    · by_cases h2 : i ≤ s
      · rw [if_pos h2, if_pos (by omega), show s - i = (s - (i + 1)) + 1 by omega]; simp
      · rw [if_neg h2, if_neg (by omega)]
  | .r b :: as, i, s => by
    have ih := initA_mem as (i + 1) s
    simp only [initA, get]
    by_cases h : s = i
    · subst h; simp
    · rw [if_neg h, ih]
      by_cases h2 : i ≤ s
      · rw [if_pos h2, if_pos (by omega), show s - i = (s - (i + 1)) + 1 by omega]; simp
      · rw [if_neg h2, if_neg (by omega)]
  | .x c r :: as, i, s => by
    have ih := initA_mem as (i + 1) s
    simp only [initA]
    rw [ih]
    by_cases h : s = i
    · subst h; rw [if_neg (by omega)]; simp
    · by_cases h2 : i ≤ s
      · rw [if_pos h2, if_pos (by omega), show s - i = (s - (i + 1)) + 1 by omega]; simp
      · rw [if_neg h2, if_neg (by omega)]
theorem args_get : ∀ (as : List Arg) (i : Nat) (va : List Value), ArgsRep w G β ω i as va → va.length = as.length ∧ ∀ (j : Nat) (x : Arg) (v : Value), as[j]? = some x → va[j]? = some v →
    (∀ p, x = .v p → Rep w G p v) ∧ (∀ b, x = .r b → v = .pointer (some ⟨β (i + j), 0, none⟩) ∧ ω (β (i + j)) = some (.blk (i + j)) ∧ BRep w G ω (β (i + j)) (i + j) b) ∧ ∀ c r, x = .x c r → ORepX w G ω (.tmp (i + j)) c r v
  | [], i, [], _ => by simp
  | [], i, _ :: _, h => h.elim
  | .v p :: as, i, [], h => h.elim
  | .r b :: as, i, [], h => h.elim
  | .x c r :: as, i, [], h => h.elim
  | .v p :: as, i, v :: va, h => by
    obtain ⟨h1, h2⟩ := h
    obtain ⟨k1, k2⟩ := args_get as (i + 1) va h2
    refine ⟨by simp [k1], fun j x u hx hu => ?_⟩
    cases j with
    | zero => simp at hx hu; subst hx; subst hu; exact ⟨(fun q e => by cases e; exact h1), (fun b e => by cases e), (fun c r e => by cases e)⟩
    | succ j =>
      have := k2 j x u (by simpa using hx) (by simpa using hu)
      rw [show i + (j + 1) = i + 1 + j by omega]; exact this
  | .r b :: as, i, v :: va, h => by
    obtain ⟨h1, h2⟩ := h
    obtain ⟨k1, k2⟩ := args_get as (i + 1) va h2
    refine ⟨by simp [k1], fun j x u hx hu => ?_⟩
    cases j with
    | zero => simp at hx hu; subst hx; subst hu; exact ⟨(fun q e => by cases e), (fun c e => by cases e; exact h1), (fun c r e => by cases e)⟩
    | succ j =>
      have := k2 j x u (by simpa using hx) (by simpa using hu)
      rw [show i + (j + 1) = i + 1 + j by omega]; exact this
  | .x c r :: as, i, v :: va, h => by
    obtain ⟨h1, h2⟩ := h
    obtain ⟨k1, k2⟩ := args_get as (i + 1) va h2
    refine ⟨by simp [k1], fun j x u hx hu => ?_⟩
    cases j with
    | zero => simp at hx hu; subst hx; subst hu; exact ⟨(fun q e => by cases e), (fun c e => by cases e), (fun c r e => by cases e; exact h1)⟩
    | succ j =>
      have := k2 j x u (by simpa using hx) (by simpa using hu)
      rw [show i + (j + 1) = i + 1 + j by omega]; exact this

theorem init_rel {as : List Arg} {va : List Value} (n : Nat) (hg : ∀ b, w.heap.size ≤ b → G b = 0) (hω : ∀ b, ω b ≠ none → b < w.heap.size) (h : ArgsRep w G β ω 0 as va) :
    FRel w G β ω (initA as 0) (va.toArray ++ Array.replicate n undef) := by
  obtain ⟨hl, hget⟩ := args_get as 0 va h
  refine ⟨fun t => ?_, fun t s ht => ?_, fun s b hb => ?_, hg, hω⟩
  · rw [initA_tmps]
    simp only [Nat.zero_le, if_true, Nat.sub_zero]
    cases hx : as[t]? with
    | none => trivial
    | some x =>
      have hlt : t < va.length := by rw [hl]; exact (List.getElem?_eq_some_iff.1 hx).1
      have hv : (va.toArray ++ Array.replicate n undef).getD t undef = va[t] := by
        simp [Array.getD_eq_getD_getElem?, Array.getElem?_append, hlt]
      rw [hv]
      obtain ⟨h1, h2, h3⟩ := hget t x va[t] hx (List.getElem?_eq_getElem hlt)
      cases x with
      | v p => exact h1 p rfl
      | r b => have := (h2 b rfl).1; simpa [TRep] using this
      | x c r => have := h3 c r rfl; simpa [TRep] using this
  · rw [initA_tmps] at ht
    simp only [Nat.zero_le, if_true, Nat.sub_zero] at ht
    rw [initA_mem]
    simp only [Nat.zero_le, if_true, Nat.sub_zero]
    cases hx : as[t]? with
    | none => rw [hx] at ht; cases ht
    | some x =>
      rw [hx] at ht
      cases x with
      | v p => cases ht
      | x c r => cases ht
      | r b => cases ht; rw [hx]; simp
  · rw [initA_mem] at hb
    simp only [Nat.zero_le, if_true, Nat.sub_zero] at hb
    cases hx : as[s]? with
    | none => rw [hx] at hb; cases hb
    | some x =>
      rw [hx] at hb
      cases x with
      | v p => cases hb
      | x c r => cases hb
      | r c =>
        cases hb
        have hlt : s < va.length := by rw [hl]; exact (List.getElem?_eq_some_iff.1 hx).1
        have := ((hget s _ va[s] hx (List.getElem?_eq_getElem hlt)).2.1 b rfl).2
        simpa using this

/-- One result. -/
def resSem (tmps : Array Value) : ResultVar → Sem Value
  | .tmp t => pure (tmps.getD t undef)
  | .cell a t => do loadVar t (← asAddr (tmps.getD a undef))
def ARes.occ : ARes → Occ
  | .tmp t => .tmp t
  | .cell _ _ _ => .tmp 0
theorem res_run {tm : Array Value} {r : ResultVar} {ar : ARes} {tv : TV} (hF : FRel w G β ω σ tm) (hc : cRes P r = some ar) (hr : resA σ ar = some tv) : ∃ v, (resSem tm r).run P w = .ok v w ∧ TRep w G β ω ar.occ tv v := by
  cases r with
  | tmp t =>
    cases hc
    simp [resA] at hr; subst hr
    exact ⟨_, rfl, hF.tmp t⟩
  | cell t ty =>
    simp only [cRes] at hc
    split at hc
    · rename_i g n hg hn
      cases hc
      simp only [resA] at hr
      have ht := hF.tmp t
      split at hr
      · rename_i s off hlp
        rw [hlp] at ht
        have e1 : tm.getD t undef = .pointer (some ⟨β s, off, none⟩) := ht
        split at hr
        · rename_i cs hcs
          obtain ⟨hω, arr, e, hh, ⟨hsz, _⟩, hG, hcell⟩ := hF.blk s _ hcs
          have hrun : ∀ v, (loadVar ty ⟨β s, off, none⟩).run P w = .ok v w → (resSem tm (.cell t ty)).run P w = .ok v w := fun v hv => by
            simp only [resSem, e1, asAddr, Sem.run_bind, Sem.run_pure, Result.andThen_ok]; exact hv
          cases g with
          | true =>
            simp only [if_true] at hr
            split at hr
            · rename_i ps hps
              split at hr
              · rename_i hpl
                cases hr
                obtain ⟨hlp', hget⟩ := pvs_get hps
                obtain ⟨vs, hl, hrep⟩ := load_rows (P := P) (w := w) (G := G) (b := β s) (off := off) (ps := ps) (fun j p hj => by
                  obtain ⟨tv, htv, htp⟩ := hget j p hj
                  have hjn : j < n := by rw [← hpl]; exact (List.getElem?_eq_some_iff.1 hj).1
                  rw [List.getElem?_take, if_pos hjn, List.getElem?_drop] at htv
                  have hlt : off + j < arr.size := Nat.lt_of_lt_of_le (List.getElem?_eq_some_iff.1 htv).1 hsz
                  have := CRep.pv (hcell (off + j) tv _ htv (Array.getElem?_eq_getElem hlt)) htp
                  exact ⟨_, by rw [cell_of_block hh, Array.getElem?_eq_getElem hlt], this⟩)
                refine ⟨.agg vs, hrun _ ?_, hrep⟩
                rw [hpl] at hl
                simp [loadVar, run_isAggT hg, run_szT hn, hl]
              · cases hr
            · cases hr
          | false =>
            simp only [Bool.false_eq_true, if_false] at hr
            split at hr
            · rename_i tv htv
              cases hr
              have hlt : off < arr.size := Nat.lt_of_lt_of_le (List.getElem?_eq_some_iff.1 htv).1 hsz
              have hcl : w.cell? ⟨β s, off, none⟩ = some arr[off] := by rw [cell_of_block hh, Array.getElem?_eq_getElem hlt]
              refine ⟨arr[off], hrun _ ?_, (hcell off tv _ htv (Array.getElem?_eq_getElem hlt)).ro _⟩
              simp [loadVar, run_isAggT hg, hcl]
            · cases hr
        · cases hr
      · cases hr
    · cases hc
theorem ress_run {tm : Array Value} (hF : FRel w G β ω σ tm) : ∀ (rs : List ResultVar) (ars : List ARes) (ps : List PV), cRess P rs = some ars → ressA σ ars = some ps →
    ∃ vs : List Value, (rs.mapM (resSem tm)).run P w = .ok vs w ∧ vs.length = ps.length ∧ rs.length = ps.length ∧ ∀ (i : Nat) (p : PV) (v : Value), ps[i]? = some p → vs[i]? = some v → Rep w G p v
  | [], ars, ps, hc, hr => by
    simp [cRess] at hc; subst hc
    simp [ressA] at hr; subst hr
    exact ⟨[], by simp, rfl, rfl, by simp⟩
  | r :: rs, ars, ps, hc, hr => by
    simp only [cRess] at hc
    split at hc
    · rename_i ar ars' h1 h2
      cases hc
      simp only [ressA] at hr
      split at hr
      · rename_i tv ps' h3 h4
        split at hr
        · rename_i p hp
          cases hr
          obtain ⟨v, hv, hvr⟩ := res_run hF h1 h3
          obtain ⟨vs, k1, k2, k3, k4⟩ := ress_run hF rs ars' ps' h2 h4
          refine ⟨v :: vs, by simp only [List.mapM_cons, Sem.run_bind, hv, Result.andThen_ok, k1, Sem.run_pure], by simp [k2], by simp [k3], fun i q u hq hu => ?_⟩
          cases i with
          | zero => simp at hq hu; subst hq; subst hu; exact hvr.pv hp
          | succ i => exact k4 i q u (by simpa using hq) (by simpa using hu)
        · cases hr
      · cases hr
    · cases hc
theorem run_results {fn : Func} {tm : Array Value} {vs : List Value} (h : (fn.results.toList.mapM (resSem tm)).run P w = .ok vs w) : (results fn tm).run P w = .ok (if h : vs.toArray.size = 1 then vs.toArray[0] else .tuple vs.toArray) w := by
  have : (fn.results.mapM (resSem tm)).run P w = .ok vs.toArray w := by
    rw [Array.mapM_eq_mapM_toList]
    simp only [Sem.run_map, h]
    try rfl
  have h2 : results fn tm = (do let vs ← fn.results.mapM (resSem tm); pure (if h : vs.size = 1 then vs[0] else .tuple vs)) := by
    unfold results
    congr 1
  rw [h2]
  simp only [Sem.run_bind, this, Result.andThen_ok, Sem.run_pure]

/-- Who owns what, when a function has ended: 's0' the block that it hands back, 't0' the temporary of a row that it hands back. -/
def finω (n : Nat) (s0 t0 : Option Nat) (ω : Nat → Option Occ) : Nat → Option Occ := fun b => match ω b with
  | some (.blk s) => if s < n then some (.blk s) else if s0 = some s then some (.blk n) else none
  | some (.cell s i) => if s < n then some (.cell s i) else if s0 = some s then some (.cell n i) else none
  | some (.tmp t) => if t0 = some t then some (.tmp n) else none
  | none => none
theorem finω_dom {n : Nat} {s0 t0 : Option Nat} {b : Nat} (h : finω n s0 t0 ω b ≠ none) : ω b ≠ none := fun e => h (by simp [finω, e])

theorem outs_rep {as : List Arg} {β' : Nat → Nat} {s0 t0 : Option Nat} {n : Nat} {tm : Array Value} (hF : FRel w G β' ω σ tm) (hβ : ∀ s, s < n → get (initA as 0).mem s ≠ none → β' s = β s) (hn : as.length = n) :
    ∀ (suf pre : List Arg) (outs : List Blk), as = pre ++ suf → outsA σ suf pre.length = some outs → OutsRep w G β (finω n s0 t0 ω) pre.length suf outs
  | [], pre, outs, h, ho => by simp [outsA] at ho; subst ho; trivial
  | .v p :: suf, pre, outs, h, ho => by
    simp only [outsA] at ho
    have := outs_rep (s0 := s0) (t0 := t0) hF hβ hn suf (pre ++ [.v p]) outs (by simp [h]) (by simpa using ho)
    simpa [OutsRep] using this
  | .x c r :: suf, pre, outs, h, ho => by
    simp only [outsA] at ho
    have := outs_rep (s0 := s0) (t0 := t0) hF hβ hn suf (pre ++ [.x c r]) outs (by simp [h]) (by simpa using ho)
    simpa [OutsRep] using this
  | .r b :: suf, pre, outs, h, ho => by
    simp only [outsA] at ho
    split at ho
    · rename_i b' bs hb hbs
      cases ho
      have hlt : pre.length < n := by rw [← hn, h]; simp
      have hlive : get (initA as 0).mem pre.length ≠ none := by rw [initA_mem]; simp [h]
      obtain ⟨h1, h2⟩ := hF.blk pre.length b' hb
      rw [hβ _ hlt hlive] at h1 h2
      refine ⟨⟨by simp [finω, h1, hlt], h2.mono (.refl _ _) rfl rfl (fun g i hg => ⟨rfl, rfl, by simp [finω, hg, hlt]⟩)⟩, ?_⟩
      have := outs_rep (s0 := s0) (t0 := t0) hF hβ hn suf (pre ++ [.r b]) bs (by simp [h]) (by simpa using hbs)
      simpa using this
    · cases ho

theorem acall_ofI {I : Inv} {f : Nat} {fn : Func} {H : Hints} {af : AFun} {as : List Arg} {rv : RV} {outs : List Blk} (hm : P.follows .mixedOrders = true) (hf : P.funcs[f]? = some fn) (hc : cFun P H fn = some af) (hg : af.gives (ACallI I P) as rv outs) : ACallI I P f as rv outs := by
  unfold cFun at hc
  split at hc
  · rename_i c hb
    split at hc
    · rename_i b rs hcode hres
      split at hc
      · rename_i hcond
        obtain ⟨hpn, hfree, hname⟩ := hcond
        cases hc
        obtain ⟨hlen, hawp⟩ := hg
        simp only at hlen hawp
        refine ⟨fun va w => ?_, fun w G β ω va hgn hωn hargs hI => ?_⟩
        · simp [callFunc, hf, hname, hb]
        · have hval : va.length = as.length := (args_get as 0 va hargs).1
          refine calls_of_wp hf hb ?_
          have hF0 := init_rel (fn.ntmps - va.toArray.size) hgn hωn hargs
          refine code_sound hm c b hcode _ _ w G β ω (initA as 0) _ hawp hF0 hI (by simp [hval, hlen]; omega) ?_
          intro e σ' a' w' G' β' ω' hq hr hp hF hd hs
          obtain ⟨hne, hret, hout⟩ := hq
          -- the end
          have fin : ∀ (s0 t0 : Option Nat) (v : Value), (results fn a'.tmps).run P w' = .ok v w' → RVRep w' G' (finω as.length s0 t0 ω') as.length rv v →
              bodyPost P fn (fun e w' => ∃ v G' ω', e = .returned v ∧ Evo (fun b => ω b ≠ none) w G w' G' ∧ (∀ b, w'.heap.size ≤ b → G' b = 0) ∧ (∀ b, ω' b ≠ none → b < w'.heap.size) ∧
                (∀ b, ω' b ≠ none → ω b ≠ none ∨ w.heap.size ≤ b) ∧ OutsRep w' G' β ω' 0 as outs ∧ RVRep w' G' ω' as.length rv v) (conv e) a' w' := by
            intro s0 t0 v hv hrv
            have hR : ∃ v' G'' ω'', Ending.returned v = .returned v' ∧ Evo (fun b => ω b ≠ none) w G w' G'' ∧ (∀ b, w'.heap.size ≤ b → G'' b = 0) ∧ (∀ b, ω'' b ≠ none → b < w'.heap.size) ∧
                (∀ b, ω'' b ≠ none → ω b ≠ none ∨ w.heap.size ≤ b) ∧ OutsRep w' G'' β ω'' 0 as outs ∧ RVRep w' G'' ω'' as.length rv v' :=
              ⟨v, G', finω as.length s0 t0 ω', rfl, hr.1, hF.gnew, fun b hb => hF.ωnew b (finω_dom hb), fun b hb => hr.2 b (finω_dom hb),
                outs_rep hF (fun s hs hl => (hp s (by omega) hl).2) rfl as [] outs rfl hout, hrv⟩
            cases e with
            | normal => exact ⟨hd, v, hv, hR⟩
            | ret => exact ⟨hd, v, hv, hR⟩
            | exit id => exact hne.elim
          have hsingle : ∀ (r : ResultVar) (v : Value), fn.results.toList = [r] → (resSem a'.tmps r).run P w' = .ok v w' → (results fn a'.tmps).run P w' = .ok v w' := fun r v hr hv => by
            have := run_results (P := P) (w := w') (fn := fn) (tm := a'.tmps) (vs := [v]) (by rw [hr]; simp only [List.mapM_cons, List.mapM_nil, Sem.run_bind, hv, Result.andThen_ok, Sem.run_pure])
            simpa using this
          unfold retA at hret
          simp only at hret
          split at hret
          · -- one result
            rename_i ar
            have hr1 : ∃ r, fn.results.toList = [r] ∧ cRes P r = some ar := by
              rcases hl : fn.results.toList with _ | ⟨r, _ | ⟨r2, l⟩⟩ <;> rw [hl] at hres <;> simp only [cRess] at hres
              · cases hres
              · split at hres
                · rename_i x xs hx hxs; cases hxs; cases hres; exact ⟨r, rfl, hx⟩
                · cases hres
              · split at hres
                · rename_i x xs hx hxs
                  split at hxs
                  · cases hxs; cases hres
                  · cases hxs
                · cases hres
            obtain ⟨r, hrl, hrc⟩ := hr1
            split at hret
            · rename_i p hp'
              cases hret
              obtain ⟨v, hv, hvr⟩ := res_run hF hrc hp'
              exact fin none none v (hsingle r v hrl hv) hvr
            · rename_i cc rows hp'
              cases hret
              obtain ⟨v, hv, hvr⟩ := res_run hF hrc hp'
              cases ar with
              | tmp t =>
                exact fin none (some t) v (hsingle r v hrl hv) (ORepE.mono (ORepE.any hvr) (.refl _ _) (fun g hg => ⟨rfl, rfl, by simp only [ARes.occ] at hg; simp [finω, hg]⟩))
              | cell t g n =>
                exfalso
                simp only [resA] at hp'
                split at hp'
                · split at hp'
                  · split at hp'
                    · split at hp'
                      · split at hp'
                        · cases hp'
                        · cases hp'
                      · cases hp'
                    · split at hp'
                      · rename_i tv _
                        cases tv <;> simp [TV.ro] at hp'
                      · cases hp'
                  · cases hp'
                · cases hp'
            · rename_i cc rows hp'
              cases hret
              obtain ⟨v, hv, hvr⟩ := res_run hF hrc hp'
              cases ar with
              | tmp t =>
                exact fin none (some t) v (hsingle r v hrl hv) (ORepX.mono hvr (.refl _ _) (fun g hg => ⟨rfl, rfl, by simp only [ARes.occ] at hg; simp [finω, hg]⟩))
              | cell t g n =>
                exfalso
                simp only [resA] at hp'
                split at hp'
                · split at hp'
                  · split at hp'
                    · split at hp'
                      · split at hp'
                        · cases hp'
                        · cases hp'
                      · cases hp'
                    · split at hp'
                      · rename_i tv _
                        cases tv <;> simp [TV.ro] at hp'
                      · cases hp'
                  · cases hp'
                · cases hp'
            · rename_i s hp'
              split at hret
              · rename_i hns
                split at hret
                · rename_i blk hblk
                  cases hret
                  obtain ⟨v, hv, hvr⟩ := res_run hF hrc hp'
                  obtain ⟨h1, h2⟩ := hF.blk s blk hblk
                  have hnlt : ¬ s < as.length := by omega
                  exact fin (some s) none v (hsingle r v hrl hv) ⟨β' s, hvr, by simp [finω, h1, hnlt], h2.mono (.refl _ _) rfl rfl (fun g i hg => ⟨rfl, rfl, by simp [finω, hg, hnlt]⟩)⟩
                · cases hret
              · cases hret
            · rename_i s hp'
              split at hret
              · rename_i hns
                split at hret
                · rename_i blk hblk
                  cases hret
                  obtain ⟨v, hv, hvr⟩ := res_run hF hrc hp'
                  obtain ⟨h1, h2⟩ := hF.blk s blk hblk
                  have hnlt : ¬ s < as.length := by omega
                  exact fin (some s) none v (hsingle r v hrl hv) ⟨β' s, hvr, by simp [finω, h1, hnlt], h2.mono (.refl _ _) rfl rfl (fun g i hg => ⟨rfl, rfl, by simp [finω, hg, hnlt]⟩)⟩
                · cases hret
              · cases hret
            · cases hret
          · -- none, or several
            rename_i hno
            split at hret
            · rename_i ps hps
              cases hret
              obtain ⟨vs, k1, k2, k3, k4⟩ := ress_run hF _ _ _ hres hps
              have hne1 : ps.length ≠ 1 := fun h1 => by
                have hrsl : ∀ (l : List ResultVar) (ars : List ARes), cRess P l = some ars → ars.length = l.length := by
                  intro l
                  induction l with
                  | nil => intro ars h; simp [cRess] at h; subst h; rfl
                  | cons x l ih =>
                    intro ars h
                    simp only [cRess] at h
                    split at h
                    · rename_i y ys _ hys; cases h; simp [ih ys hys]
                    · cases h
                have := hrsl _ _ hres
                rw [k3, h1] at this
                obtain ⟨x, hx⟩ : ∃ x, rs = [x] := by
                  rcases rs with _ | ⟨x, _ | ⟨y, l⟩⟩
                  · simp at this
                  · exact ⟨x, rfl⟩
                  · simp at this
                exact hno x hx
              have hrun := run_results (P := P) (w := w') (fn := fn) (tm := a'.tmps) k1
              have hvs : ¬ vs.toArray.size = 1 := by simpa [k2] using hne1
              rw [dif_neg hvs] at hrun
              exact fin none none _ hrun (.tup ps vs.toArray (by simp [k2]) (fun i p v hp hv => k4 i p v hp (by simpa using hv)))
            · cases hret
      · cases hc
    · cases hc
  · cases hc
theorem acall_of {f : Nat} {fn : Func} {H : Hints} {af : AFun} {as : List Arg} {rv : RV} {outs : List Blk} (hm : P.follows .mixedOrders = true) (hf : P.funcs[f]? = some fn) (hc : cFun P H fn = some af) (hg : af.gives (ACall P) as rv outs) : ACall P f as rv outs := by
  rw [ACall_eq] at hg ⊢
  exact acall_ofI hm hf hc hg
end
end Go.AR
