import Derived.Test.YtlhahjlnhkokcaaG16
set_option linter.all false
/-! Rows that nobody else speaks of. -/
namespace Go.AR
open Go
section ops
variable {P : Program} {w : World} {G β : Nat → Nat} {ω : Nat → Option Occ} {σ σ' : Fr} {a : Act} {o : Oper}

theorem ok_iaddrx {t e : TypeId} {x y : Operand} {x' y' : Opnd} {k : IntKind} {i : Int} {ti : TypeInfo} {s n : Nat} (hF : FRel w G β ω σ a.tmps) (hd : ∀ d, o.dst = some d → d < a.tmps.size)
    (ho : o.op = .indexAddr t x y) (hu : P.underlying t = some (.slice e)) (hi : P.info? e = some ti) (hx : OOk x x') (hy : OOk y y') (ey : y'.ev σ.tmps = .val (.int k i)) (hb : 0 ≤ i ∧ i < n)
    (ex : x'.ev σ.tmps = .xs s ti.size n) : StepOk P w G ω β a o σ (σ.put o.dst (.lp s (i.toNat * ti.size))) := by
  have e2 := Rep.int_inv (hy.val hF ey)
  have h0 := hx.trep hF
  rw [ex] at h0
  obtain ⟨cap, et, e1, _, _, _⟩ := h0
  have hadd : (⟨β s, 0, none⟩ : Addr).add (i.toNat * ti.size) = ⟨β s, i.toNat * ti.size, none⟩ := by rw [addr_add]; simp
  refine .pure (v := .pointer (some ⟨β s, i.toNat * ti.size, none⟩)) hF hd ?_ (fun _ => rfl) (fun s' e => by cases e; exact OOk.liveR hF (by rw [ex]; rfl))
  simp [execOp, ho, e1, e2, Instr.indexAt, asIntOf, run_underlying hu, sizeOf, typeInfo, hi, hb.1, hb.2, hadd]

theorem ORepX.inv {occ : Occ} {c : Nat} {rows : List (List PV)} {v : Value} (h : ORepX w G ω occ c rows v) : ∃ A cap, v = .slice A rows.length cap ∧ rows.length ≤ cap := by
  obtain ⟨e, xs, ho, _⟩ := h
  rcases ho.2 with ⟨rfl, h0⟩ | ⟨g, cap, cur, rfl, _, _, hc, _⟩
  · exact ⟨none, 0, by rw [h0], by omega⟩
  · exact ⟨_, cap, rfl, hc⟩
theorem ok_lenv {c : Call} {t e : TypeId} {x : Operand} {n cap : Nat} {A : Option Addr} (hF : FRel w G β ω σ a.tmps) (hd : ∀ d, o.dst = some d → d < a.tmps.size)
    (ho : o.op = .call c) (hc : c.callee = .builtin .len) (ha : c.argTypes = #[t]) (hxs : c.args = #[x]) (hu : P.underlying t = some (.slice e)) (e1 : a.eval x = .slice A n cap) :
    StepOk P w G ω β a o σ (σ.put o.dst (.val (.int .i64 n))) := by
  refine ok_val hF hd ?_ (Rep.int _ _)
  simp [execOp, ho, resolve, hc, hxs, ha, invoke, builtin, Builtin.len_, run_underlying hu, e1, goInt]

/-- A row is shown to others from here on. -/
theorem ok_pub {s d c : Nat} {r : List (List PV)} (hF : FRel w G β ω σ a.tmps) (hd : d < a.tmps.size) (hs : s < a.tmps.size) (hdst : o.dst = some d) (hne : d ≠ s) (ho : o.op = .move (.tmp s) ∨ o.op = .assign (.tmp s))
    (es : tget σ.tmps s = .exc c r) : StepOk P w G ω β a o σ { σ with tmps := set (set σ.tmps d (.own c r)) s (.val (.sl c r)) } := by
  have h0 := hF.tmp s
  rw [es] at h0
  obtain ⟨e, xs, hor, hc1, hxl, hxr, ho1, hg⟩ := h0
  let G' : Nat → Nat := fun b => if (a.tmps.getD s undef).ownBlock = some b then r.flatten.length else G b
  have hG0 : ∀ b, (a.tmps.getD s undef).ownBlock ≠ some b → G' b = G b := fun b h => if_neg h
  have hext : GExt w G w G' := ⟨fun b => by
    by_cases h : (a.tmps.getD s undef).ownBlock = some b
    · rw [(hg b h).2]; exact Nat.zero_le _
    · rw [hG0 b h]; exact Nat.le_refl _, fun _ _ _ => rfl, fun _ _ h => h⟩
  have hk : ∀ g oc, ω g = some oc → oc ≠ .tmp s → G' g = G g := fun g oc h1 h2 => hG0 g (fun h => h2 (by have := (hg g h).1; rw [h1] at this; exact Option.some.inj this))
  have hsame : Same (fun t => t = s) (fun _ => False) w G β ω w G' β (srcω ω (some s) (.tmp d)) := by
    refine ⟨hext, fun g t h1 h2 => ⟨rfl, hk g _ h1 (fun e => h2 (by cases e; rfl)), srcω_keep h1 (fun q e e2 => h2 (by cases e; cases e2; rfl))⟩,
      fun g t h1 _ => ⟨rfl, hk g _ h1 (by simp), srcω_keep h1 (fun q e e2 => by cases e2)⟩, fun g t i h1 _ => ⟨rfl, hk g _ h1 (by simp), srcω_keep h1 (fun q e e2 => by cases e2)⟩⟩
  have hnew : ORep w G' (srcω ω (some s) (.tmp d)) (.tmp d) c r (a.tmps.getD s undef) :=
    ⟨e, xs, hor, hc1, hxl, fun j p x h1 h2 => (hxr j p x h1 h2).mono hext, ho1, fun g h => ⟨srcω_src (hg g h).1, if_pos h⟩⟩
  refine ⟨.value (a.eval (.tmp s)), a.eval (.tmp s), w, G', β, srcω ω (some s) (.tmp d), ?_, .inl rfl, ⟨rfl, rfl, rfl, Nat.le_refl _, hext, fun b _ hb => ⟨rfl, hG0 b (fun h => hb (by rw [(hg b h).1]; simp))⟩⟩,
    fun b hb => .inl (srcω_dom hb), fun _ _ => rfl, ⟨fun t => ?_, fun t s' h => ?_, fun s' b hb => hF.rest_blk hsame (fun _ _ => rfl) s' id b hb, fun b hb => ?_, fun b hb => hF.ωnew b (srcω_dom hb)⟩⟩
  · rcases ho with ho | ho <;> simp [execOp, ho]
  · simp only [hdst, Act.put]
    rw [tget_set, tget_set]
    by_cases e1 : t = s
    · subst e1
      rw [if_pos rfl, getD_set_ne _ _ _ _ _ hne]
      exact hnew.rep
    · rw [if_neg e1]
      by_cases e2 : t = d
      · subst e2
        rw [if_pos rfl, getD_set_eq _ _ _ _ hd]
        exact hnew
      · rw [if_neg e2, getD_set_ne _ _ _ _ _ (Ne.symm e2)]
        exact hF.rest_tmp hsame (fun _ _ => rfl) t e1
  · rw [tget_set, tget_set] at h
    split at h
    · cases h
    · split at h
      · cases h
      · exact hF.live t _ h
  · rw [hG0 b (fun h => by have := hF.ωnew b (by rw [(hg b h).1]; simp); omega)]
    exact hF.gnew b hb

/-- A row is shown to others, and the right to append is given up. -/
theorem ok_pubv {s d c : Nat} {r : List (List PV)} (hF : FRel w G β ω σ a.tmps) (hd : d < a.tmps.size) (hs : s < a.tmps.size) (hdst : o.dst = some d) (hne : d ≠ s) (ho : o.op = .move (.tmp s) ∨ o.op = .assign (.tmp s))
    (es : tget σ.tmps s = .exc c r) : StepOk P w G ω β a o σ { σ with tmps := set (set σ.tmps d (.val (.sl c r))) s (.val (.sl c r)) } := by
  obtain ⟨nx, v, w', G', β', ω', h1, h2, h3, h4, h5, h6⟩ := ok_pub (P := P) hF hd hs hdst hne ho es
  refine ⟨nx, v, w', G', β', ω', h1, h2, h3, h4, h5, ⟨fun t => ?_, fun t s' h => ?_, h6.blk, h6.gnew, h6.ωnew⟩⟩
  · have := h6.tmp t
    dsimp only at this ⊢
    rw [tget_set, tget_set] at this ⊢
    by_cases e1 : t = s
    · rw [if_pos e1] at this ⊢; exact this
    · rw [if_neg e1] at this ⊢
      by_cases e2 : t = d
      · rw [if_pos e2] at this ⊢; exact ORepE.rep this
      · rw [if_neg e2] at this ⊢; exact this
  · dsimp only at h
    rw [tget_set, tget_set] at h
    split at h
    · cases h
    · split at h
      · cases h
      · exact hF.live t _ h
/-- An empty row is opened: nothing is to be seen. -/
theorem ok_openx0 {s d c : Nat} (hF : FRel w G β ω σ a.tmps) (hd : d < a.tmps.size) (hdst : o.dst = some d) (hne : d ≠ s) (ho : o.op = .move (.tmp s) ∨ o.op = .assign (.tmp s))
    (es : tget σ.tmps s = .exc c []) : StepOk P w G ω β a o σ { σ with tmps := set (set σ.tmps d (.val (.sl c []))) s (.exc c []) } := by
  have h0 := hF.tmp s
  rw [es] at h0
  have hv : Rep w G (.sl c []) (a.eval (.tmp s)) := by
    obtain ⟨e, xs, hor, _⟩ := h0
    rcases hor.2 with ⟨hv, _⟩ | ⟨g, cap, cur, hv, _⟩
    · show Rep w G (.sl c []) (a.tmps.getD s undef)
      rw [hv]; exact .sl0 c none 0
    · show Rep w G (.sl c []) (a.tmps.getD s undef)
      rw [hv]; exact .sl0 c _ cap
  have hp := StepOk.pure (P := P) (o := o) (x := .val (.sl c [])) hF (fun q hq => by rw [hdst] at hq; cases hq; exact hd) (by rcases ho with ho | ho <;> simp [execOp, ho]) (fun _ => hv) (fun s e => by cases e)
  obtain ⟨nx, v, w', G', β', ω', h1, h2, h3, h4, h5, h6⟩ := hp
  rw [hdst] at h6
  refine ⟨nx, v, w', G', β', ω', h1, h2, h3, h4, h5, ?_⟩
  rw [hdst]
  have hsame : ∀ t, tget (set (set σ.tmps d (.val (.sl c []))) s (.exc c [])) t = tget (set σ.tmps d (.val (.sl c []))) t := fun t => by
    rw [tget_set]
    split
    · rename_i e; subst e; rw [tget_set, if_neg (Ne.symm hne), es]
    · rfl
  exact ⟨fun t => by dsimp only; rw [hsame]; exact h6.tmp t, fun t s' ht => by dsimp only at ht; rw [hsame] at ht; exact h6.live t s' ht, h6.blk, h6.gnew, h6.ωnew⟩
/-- A row is opened: its elements are a block of the frame's. -/
theorem ok_openx {s d c : Nat} {r : List (List PV)} (hF : FRel w G β ω σ a.tmps) (hd : d < a.tmps.size) (hs : s < a.tmps.size) (hdst : o.dst = some d) (hne : d ≠ s) (ho : o.op = .move (.tmp s) ∨ o.op = .assign (.tmp s))
    (es : tget σ.tmps s = .exc c r) (hr0 : r ≠ []) (hm : get σ.mem d = none) :
    StepOk P w G ω β a o σ { tmps := set (set σ.tmps d (.xs d c r.length)) s (.xs d c r.length), mem := set σ.mem d (.cells (r.flatten.map .val)) } := by
  have h0 := hF.tmp s
  rw [es] at h0
  obtain ⟨e, xs, hor, hc1, hxl, hxr, ho1, hg⟩ := h0
  rcases hor.2 with ⟨_, h0⟩ | ⟨g, cap, cur, hv, _, hh, hcap, hcm, hcs, htake⟩
  · exact absurd (List.eq_nil_of_length_eq_zero h0) hr0
  obtain ⟨hωg, hGg⟩ := hg g (by rw [hv]; rfl)
  have hglt : g < w.heap.size := hF.ωnew g (by rw [hωg]; simp)
  have hne' : ∀ g' oc, ω g' = some oc → oc ≠ .tmp s → g' ≠ g := fun g' oc h1 h2 e => h2 (by rw [e, hωg] at h1; exact (Option.some.inj h1).symm)
  have hβ : ∀ q, get σ.mem q ≠ none → upd β d g q = β q := fun q hq => upd_ne _ _ _ _ (fun e => by rw [e] at hq; exact hq hm)
  have hsame : Same (fun t => t = s) (fun _ => False) w G β ω w G (upd β d g) (upd ω g (some (.blk d))) := by
    refine ⟨.refl _ _, fun g' t h1 h2 => ⟨rfl, rfl, ?_⟩, fun g' t h1 _ => ⟨rfl, rfl, ?_⟩, fun g' t i h1 _ => ⟨rfl, rfl, ?_⟩⟩
    · rw [upd_ne _ _ _ _ (hne' g' _ h1 (fun e => h2 (by cases e; rfl)))]; exact h1
    · rw [upd_ne _ _ _ _ (hne' g' _ h1 (by simp))]; exact h1
    · rw [upd_ne _ _ _ _ (hne' g' _ h1 (by simp))]; exact h1
  have hfl := flat_len hc1
  have hxr' : XRep w (upd β d g d) c r.length (a.tmps.getD s undef) := ⟨cap, e, by rw [upd_eq]; exact hv, hcap, hcm, by rw [upd_eq]; simp [World.shape?, hh, hcs]⟩
  refine ⟨.value (a.eval (.tmp s)), a.eval (.tmp s), w, G, upd β d g, upd ω g (some (.blk d)), ?_, .inl rfl, .refl _ _ _, fun b hb => ?_, hβ, ⟨fun t => ?_, fun t s' h => ?_, fun s' b hb => ?_, hF.gnew, fun b hb => ?_⟩⟩
  · rcases ho with ho | ho <;> simp [execOp, ho]
  · by_cases e : b = g
    · subst e; exact .inl (by rw [hωg]; simp)
    · rw [upd_ne _ _ _ _ e] at hb; exact .inl hb
  · simp only [hdst, Act.put]
    rw [tget_set, tget_set]
    by_cases e1 : t = s
    · subst e1
      rw [if_pos rfl, getD_set_ne _ _ _ _ _ hne]
      exact hxr'
    · rw [if_neg e1]
      by_cases e2 : t = d
      · subst e2
        rw [if_pos rfl, getD_set_eq _ _ _ _ hd]
        exact hxr'
      · rw [if_neg e2, getD_set_ne _ _ _ _ _ (Ne.symm e2)]
        exact hF.rest_tmp hsame hβ t e1
  · rw [tget_set, tget_set] at h
    rw [get_set]
    split at h
    · cases h; simp
    · split at h
      · cases h; simp
      · have := hF.live t _ h
        split
        · simp
        · exact this
  · rw [get_set] at hb
    split at hb
    · rename_i e1
      subst e1
      cases hb
      refine ⟨by rw [upd_eq, upd_eq], ?_⟩
      rw [upd_eq]
      have hle : r.length * c ≤ cap * c := Nat.mul_le_mul_right _ hcap
      refine ⟨cur, e, hh, ⟨by rw [List.length_map, hfl, hcs]; exact hle, fun h => absurd rfl h⟩, hGg, fun i t x ht hx => ?_⟩
      rw [List.getElem?_map] at ht
      cases hp : r.flatten[i]? with
      | none => simp [hp] at ht
      | some p =>
        simp [hp] at ht
        subst ht
        have hil : i < r.length * c := by rw [← hfl]; exact (List.getElem?_eq_some_iff.1 hp).1
        refine ⟨hxr i p x hp ?_, ho1 p (List.mem_of_getElem? hp)⟩
        rw [← htake, List.getElem?_take, if_pos hil]
        simpa using hx
    · exact hF.rest_blk hsame hβ s' id b hb
  · by_cases e : b = g
    · omega
    · rw [upd_ne _ _ _ _ e] at hb; exact hF.ωnew b hb

/-- The same as a step that nobody sees. -/
theorem open_ok {t d c : Nat} {tm : Array Value} (hF : FRel w G β ω σ tm) (h : openFr σ t d c = some σ') : ∃ β' ω', (∀ b, ω' b ≠ none → ω b ≠ none) ∧ (∀ s, get σ.mem s ≠ none → β' s = β s ∧ get σ'.mem s ≠ none) ∧ FRel w G β' ω' σ' tm := by
  unfold openFr at h
  split at h
  · rename_i c' r htt hm
    split at h
    · rename_i hc
      obtain ⟨rfl, hr0⟩ := hc
      cases h
      have h0 := hF.tmp t
      rw [htt] at h0
      obtain ⟨e, xs, hor, hc1, hxl, hxr, ho1, hg⟩ := h0
      rcases hor.2 with ⟨_, h0⟩ | ⟨g, cap, cur, hv, _, hh, hcap, hcm, hcs, htake⟩
      · exact absurd (List.eq_nil_of_length_eq_zero h0) hr0
      obtain ⟨hωg, hGg⟩ := hg g (by rw [hv]; rfl)
      have hglt : g < w.heap.size := hF.ωnew g (by rw [hωg]; simp)
      have hne' : ∀ g' oc, ω g' = some oc → oc ≠ .tmp t → g' ≠ g := fun g' oc h1 h2 e => h2 (by rw [e, hωg] at h1; exact (Option.some.inj h1).symm)
      have hβ : ∀ q, get σ.mem q ≠ none → upd β d g q = β q := fun q hq => upd_ne _ _ _ _ (fun e => by rw [e] at hq; exact hq hm)
      have hsame : Same (fun q => q = t) (fun _ => False) w G β ω w G (upd β d g) (upd ω g (some (.blk d))) := by
        refine ⟨.refl _ _, fun g' q h1 h2 => ⟨rfl, rfl, ?_⟩, fun g' q h1 _ => ⟨rfl, rfl, ?_⟩, fun g' q i h1 _ => ⟨rfl, rfl, ?_⟩⟩
        · rw [upd_ne _ _ _ _ (hne' g' _ h1 (fun e => h2 (by cases e; rfl)))]; exact h1
        · rw [upd_ne _ _ _ _ (hne' g' _ h1 (by simp))]; exact h1
        · rw [upd_ne _ _ _ _ (hne' g' _ h1 (by simp))]; exact h1
      have hfl := flat_len hc1
      refine ⟨upd β d g, upd ω g (some (.blk d)), fun b hb => ?_, fun q hq => ⟨hβ q hq, ?_⟩, ⟨fun q => ?_, fun q s' h => ?_, fun s' b hb => ?_, hF.gnew, fun b hb => ?_⟩⟩
      · by_cases e : b = g
        · subst e; rw [hωg]; simp
        · rw [upd_ne _ _ _ _ e] at hb; exact hb
      · dsimp only; rw [get_set]; split
        · simp
        · exact hq
      · dsimp only; rw [tget_set]
        split
        · rename_i e1; subst e1
          exact ⟨cap, e, by rw [upd_eq]; exact hv, hcap, hcm, by rw [upd_eq]; simp [World.shape?, hh, hcs]⟩
        · rename_i e1
          exact hF.rest_tmp hsame hβ q e1
      · dsimp only at h ⊢
        rw [tget_set] at h
        rw [get_set]
        split at h
        · cases h; simp
        · have := hF.live q _ h
          split
          · simp
          · exact this
      · dsimp only at hb
        rw [get_set] at hb
        split at hb
        · rename_i e1
          subst e1
          cases hb
          refine ⟨by rw [upd_eq, upd_eq], ?_⟩
          rw [upd_eq]
          have hle : r.length * c' ≤ cap * c' := Nat.mul_le_mul_right _ hcap
          refine ⟨cur, e, hh, ⟨by rw [List.length_map, hfl, hcs]; exact hle, fun h => absurd rfl h⟩, hGg, fun i tv x ht hx => ?_⟩
          rw [List.getElem?_map] at ht
          cases hp : r.flatten[i]? with
          | none => simp [hp] at ht
          | some p =>
            simp [hp] at ht
            subst ht
            have hil : i < r.length * c' := by rw [← hfl]; exact (List.getElem?_eq_some_iff.1 hp).1
            refine ⟨hxr i p x hp ?_, ho1 p (List.mem_of_getElem? hp)⟩
            rw [← htake, List.getElem?_take, if_pos hil]
            simpa using hx
        · exact hF.rest_blk hsame hβ s' id b hb
      · by_cases e : b = g
        · omega
        · rw [upd_ne _ _ _ _ e] at hb; exact hF.ωnew b hb
    · cases h
  · cases h
theorem chunks_spec0 (c : Nat) : ∀ (n : Nat) (cs : List PV), cs.length = n * c → (chunks c n cs).length = n ∧ (∀ r ∈ chunks c n cs, r.length = c) ∧ (chunks c n cs).flatten = cs
  | 0, cs, h => by
    have : cs = [] := List.eq_nil_of_length_eq_zero (by simpa using h)
    subst this; simp [chunks]
  | n + 1, cs, h => by
    obtain ⟨h1, h2, h3⟩ := chunks_spec0 c n (cs.drop c) (by simp [h, Nat.add_mul])
    refine ⟨by simp [chunks, h1], fun r hr => ?_, by simp [chunks, h3]⟩
    simp only [chunks, List.mem_cons] at hr
    rcases hr with rfl | hr
    · simp [h, Nat.add_mul]
    · exact h2 r hr
theorem get_del0 {α : Type} (m : List (Nat × α)) (xs : List Nat) (i : Nat) : get (del m xs) i = if i ∈ xs then none else get m i := by
  unfold del
  induction m with
  | nil => simp [get]
  | cons e m ih =>
    obtain ⟨j, b⟩ := e
    by_cases hj : j ∈ xs
    · rw [List.filter_cons_of_neg (by simpa using hj), ih]
      by_cases hi : i ∈ xs
      · simp [hi]
      · simp only [hi, if_false, get]
        rw [if_neg (fun e : i = j => hi (by rw [e]; exact hj))]
    · rw [List.filter_cons_of_pos (by simpa using hj)]
      simp only [get]
      by_cases e : i = j
      · subst e; simp [hj]
      · rw [if_neg e, if_neg e, ih]
theorem mem_of_get0 {α : Type} {m : List (Nat × α)} {i : Nat} {x : α} (h : get m i = some x) : (i, x) ∈ m := by
  induction m with
  | nil => simp [get] at h
  | cons e m ih =>
    obtain ⟨j, b⟩ := e
    simp only [get] at h
    split at h
    · rename_i e; subst e; cases h; simp
    · exact List.mem_cons_of_mem _ (ih h)

/-- A row that was opened is closed. -/
theorem close_ok0 {t d c : Nat} {tm : Array Value} (hF : FRel w G β ω σ tm) (h : closeFr0 σ t d c = some σ') : ∃ ω', (∀ b, b ≠ β d → ω' b = ω b) ∧ (∃ b, get σ.mem d = some b) ∧ ω' (β d) = some (.tmp t) ∧ (∀ s, get σ'.mem s = if s = d then none else get σ.mem s) ∧ FRel w G β ω' σ' tm := by
  unfold closeFr0 at h
  split at h
  · rename_i s c' n cs htt hmd
    split at h
    · rename_i ps hps
      split at h
      · rename_i hc
        obtain ⟨rfl, rfl, hlen, h1, hrf⟩ := hc
        cases h
        have h0 := hF.tmp t
        rw [htt] at h0
        obtain ⟨cap, e, hv, hcap, hcm, hshape⟩ := h0
        obtain ⟨hω, arr, e', hh, ⟨hsz, _⟩, hG, hcell⟩ := hF.blk s _ hmd
        have hsh : e' = e ∧ arr.size = cap * c' := by
          have : World.shape? w (β s) = some (e', arr.size) := by simp only [World.shape?, hh]; rfl
          rw [this] at hshape
          simpa using hshape
        obtain ⟨rfl, hasz⟩ := hsh
        obtain ⟨hl, hget⟩ := pvs_get hps
        obtain ⟨k1, k2, k3⟩ := chunks_spec0 c' n ps hlen
        have hlt : β s < w.heap.size := hF.ωnew _ (by rw [hω]; simp)
        have hne : ∀ g oc, ω g = some oc → oc ≠ .blk s → g ≠ β s := fun g oc hg hq e => by rw [e, hω] at hg; cases hg; exact hq rfl
        have hsame : Same (fun _ => False) (fun s' => s' = s) w G β ω w G β (upd ω (β s) (some (.tmp t))) := by
          refine ⟨.refl _ _, fun g q hg _ => ⟨rfl, rfl, ?_⟩, fun g q hg hq => ⟨rfl, rfl, ?_⟩, fun g q i hg hq => ⟨rfl, rfl, ?_⟩⟩
          · rw [upd_ne _ _ _ _ (hne g _ hg (by simp))]; exact hg
          · rw [upd_ne _ _ _ _ (hne g _ hg (by simp; exact hq))]; exact hg
          · rw [upd_ne _ _ _ _ (hne g _ hg (by simp))]; exact hg
        refine ⟨upd ω (β s) (some (.tmp t)), fun b hb => upd_ne _ _ _ _ hb, ⟨_, hmd⟩, upd_eq _ _ _, fun q => by rw [get_del0]; simp, ⟨fun q => ?_, fun q s' hq => ?_, fun s' b hb => ?_, hF.gnew, fun b hb => ?_⟩⟩
        · dsimp only; rw [tget_set]
          split
          · rename_i e; subst e
            refine ⟨e', arr.toList.take (n * c'), ⟨by rw [k1, List.length_take, Array.length_toList, hasz, Nat.min_eq_left (Nat.mul_le_mul_right _ hcap)], .inr ⟨β s, cap, arr, by rw [k1]; exact hv, Nat.zero_le _, hh, by rw [k1]; exact hcap, hcm, hasz, by rw [k1]⟩⟩, k2, ?_, fun j p x hp hx => ?_, ?_, fun g hg => ?_⟩
            · rw [k3, hlen, List.length_take, Array.length_toList, hasz, Nat.min_eq_left (Nat.mul_le_mul_right _ hcap)]
            · rw [k3] at hp
              have hj : j < n * c' := by rw [← hlen]; exact (List.getElem?_eq_some_iff.1 hp).1
              rw [List.getElem?_take, if_pos hj] at hx
              obtain ⟨tv, htv, htp⟩ := hget j p hp
              exact (CRep.pv (hcell j tv x htv (by simpa using hx)) htp).1
            · rw [k3]; exact h1
            · rw [hv] at hg
              simp [Value.ownBlock] at hg
              subst hg
              exact ⟨upd_eq _ _ _, hG⟩
          · exact hF.rest_tmp hsame (fun _ _ => rfl) q id
        · dsimp only at hq ⊢
          rw [tget_set] at hq
          split at hq
          · cases hq
          · rename_i hqt
            rw [get_del0]
            have hnd : s' ≠ s := by
              intro e
              subst e
              rw [List.all_eq_true] at hrf
              cases hgq : get σ.tmps q with
              | none => rw [tget, hgq] at hq; cases hq
              | some x =>
                have hx : get (del σ.tmps [t]) q = some x := by rw [get_del0, if_neg (by simpa using hqt)]; exact hgq
                have := hrf _ (mem_of_get0 hx)
                rw [tget, hgq] at hq
                have hq' : x.rf = some s' := hq
                simp [hq'] at this
            rw [if_neg (by simpa using hnd)]
            exact hF.live q s' hq
        · dsimp only at hb
          rw [get_del0] at hb
          split at hb
          · cases hb
          · rename_i hs'
            exact hF.rest_blk hsame (fun _ _ => rfl) s' (by simpa using hs') b hb
        · by_cases e : b = β s
          · omega
          · rw [upd_ne _ _ _ _ e] at hb; exact hF.ωnew b hb
      · cases h
    · cases h
  · cases h

theorem run_equalIn_nilsl {t e : TypeId} (hu : P.underlying t = some (.slice e)) (A : Option Addr) (n cap d : Nat) : (Op.equalIn (d + 1) t (.slice A n cap) (.slice none 0 0)).run P w = .ok A.isNone w := by
  cases A <;> simp [Op.equalIn, run_underlying hu]
theorem run_equal_nilsl {t e : TypeId} (hu : P.underlying t = some (.slice e)) (A : Option Addr) (n cap : Nat) : (Op.equal t (.slice A n cap) (.slice none 0 0)).run P w = .ok A.isNone w := by
  exact run_equalIn_nilsl hu A n cap 9999
/-- A row held against nil. -/
theorem ok_eqsl {n : Bool} {op : BinOp} {t t' e : TypeId} {x : Operand} {x' : Opnd} {c : Nat} {rows : List (List PV)} (hF : FRel w G β ω σ a.tmps) (hd : ∀ d, o.dst = some d → d < a.tmps.size)
    (ho : o.op = .binOp op t x (.const (.slice none 0 0)) t') (hu : P.underlying t = some (.slice e)) (hop : op = if n then .neq else .eql) (hx : OOk x x') (ex : (x'.ev σ.tmps).ro = .val (.sl c rows)) :
    StepOk P w G ω β a o σ (σ.put o.dst (if rows = [] then .anyb else .val (.bool n))) := by
  obtain ⟨A, cap, e1, _, _, _, hA⟩ := Rep.sl_inv (hx.valro hF ex)
  have ec : a.eval (.const (.slice none 0 0)) = .slice none 0 0 := rfl
  have hrun : (execOp a.eval o).run P w = .ok (.value (.bool (if n then !A.isNone else A.isNone))) w := by
    cases n <;> simp at hop <;> subst hop <;> simp [execOp, ho, e1, ec, eqGuard, binOp, run_equal_nilsl hu]
  refine .pure hF hd hrun (fun d => ?_) (fun s e => ?_)
  · split
    · exact ⟨_, rfl⟩
    · rename_i hne
      obtain ⟨b, off, rfl, _⟩ := hA hne
      cases n <;> exact Rep.bool _
  · split at e <;> cases e

theorem ok_appendx {c : Call} {t e : TypeId} {s d n : Nat} {x : Operand} {x' : Opnd} {i : TypeInfo} {z : Value} {r r' : List (List PV)} (hF : FRel w G β ω σ a.tmps) (hd : d < a.tmps.size) (hs : s < a.tmps.size) (hdst : o.dst = some d) (hne : d ≠ s)
    (ho : o.op = .call c) (hc : c.callee = .builtin .append) (hat : c.argTypes = #[t, t]) (hargs : c.args = #[.tmp s, x]) (hu : P.underlying t = some (.slice e)) (hi : P.info? e = some i) (hz : i.zero = some z) (hzs : z.cells.size = i.size) (hpos : 0 < i.size)
    (hx : OOk x x') (es : tget σ.tmps s = .exc n r) (ex : (x'.ev σ.tmps).ro = .val (.sl n r')) (hni : n = i.size) (hb : (r.length + r'.length) * i.bytes ≤ 140737488355328) (hb2 : r.length + r'.length ≤ maxLen) :
    StepOk P w G ω β a o σ { σ with tmps := set (set σ.tmps d (.exc n (r ++ r'))) s .undef } := by
  subst hni
  have hown := hF.tmp s
  rw [es] at hown
  obtain ⟨e', xs, hor, hc1, hxl, hxr, ho1, hg⟩ := hown
  obtain ⟨A, cap, e2, hc2, hone, hcap, hcell⟩ := Rep.sl_inv (hx.valro hF ex)
  have hrl : r'.flatten.length = r'.length * i.size := flat_len hc2
  -- the cells of what is appended
  obtain ⟨news, hnl, hnews, hnrep⟩ : ∃ news : List Value, news.length = r'.length * i.size ∧ (0 < r'.length → ∃ ad, A = some ad ∧ ∀ j u, news[j]? = some u → w.cell? (ad.add j) = some u) ∧
      (∀ (j : Nat) (p : PV) (u : Value), r'.flatten[j]? = some p → news[j]? = some u → Rep w G p u) := by
    by_cases he : r' = []
    · subst he; exact ⟨[], by simp, fun h => by simp at h, by simp⟩
    · obtain ⟨b, off, rfl, hG, hcl⟩ := hcell he
      refine ⟨(List.range (r'.length * i.size)).map fun j => (w.cell? ⟨b, off + j, none⟩).getD undef, by simp, fun _ => ⟨_, rfl, fun j u hu => ?_⟩, fun j p u hp hu => ?_⟩
      · have hj : j < r'.length * i.size := by have := (List.getElem?_eq_some_iff.1 hu).1; simpa using this
        obtain ⟨y, hy, _⟩ := hcl j _ (List.getElem?_eq_getElem (by rw [hrl]; exact hj))
        simp [hj, hy] at hu
        subst hu
        rw [addr_add]; exact hy
      · obtain ⟨y, hy, hr⟩ := hcl j p hp
        have hj : j < r'.length * i.size := by rw [← hrl]; exact (List.getElem?_eq_some_iff.1 hp).1
        simp [hj, hy] at hu
        subst hu
        exact hr
  have hn1 : ∀ u ∈ news, u.oneCell' = true := fun u hu => by
    obtain ⟨j, hj⟩ := List.getElem?_of_mem hu
    have hjl : j < r'.flatten.length := by rw [hrl, ← hnl]; exact (List.getElem?_eq_some_iff.1 hj).1
    have hp := List.getElem?_eq_getElem hjl
    exact one_oneCell (hnrep j _ u hp hj) (hone _ (List.mem_of_getElem? hp))
  obtain ⟨v', w', hrun, hcase⟩ := run_append_any (P := P) t o.type e i z hu hi hz hzs hpos (c := cap) hor hnl hnews hn1 hb hb2
  have hex : (execOp a.eval o).run P w = .ok (.value v') w' := by
    have e3 : a.eval (.tmp s) = a.tmps.getD s undef := rfl
    simp [-Array.getD_eq_getD_getElem?, execOp, ho, resolve, hc, hargs, hat, invoke, builtin, e2, e3, hrun]
  have hfl : (r ++ r').flatten.length = (r.length + r'.length) * i.size := by rw [List.flatten_append, List.length_append, flat_len hc1, hrl, Nat.add_mul]
  have hcc : ∀ q ∈ r ++ r', q.length = i.size := fun q hq => by
    rcases List.mem_append.1 hq with h | h
    · exact hc1 q h
    · exact hc2 q h
  have hoo : ∀ p ∈ (r ++ r').flatten, p.one = true := fun p hp => by
    rw [List.flatten_append] at hp
    rcases List.mem_append.1 hp with h | h
    · exact ho1 p h
    · exact hone p h
  have hrr : ∀ (j : Nat) (p : PV) (u : Value), (r ++ r').flatten[j]? = some p → (xs ++ news)[j]? = some u → Rep w G p u := by
    intro j p u hp hu
    rw [List.flatten_append] at hp
    by_cases hj : j < r.flatten.length
    · rw [List.getElem?_append_left hj] at hp
      rw [List.getElem?_append_left (by omega)] at hu
      exact hxr j p u hp hu
    · rw [List.getElem?_append_right (by omega)] at hp
      rw [List.getElem?_append_right (by omega), hxl] at hu
      exact hnrep _ p u hp hu
  have hlen2 : (xs ++ news).length = (r ++ r').flatten.length := by rw [hfl, List.length_append, hxl, hnl, flat_len hc1, Nat.add_mul]
  -- what is left to be shown, whatever the case
  have fin : ∀ (G' : Nat → Nat) (ω' : Nat → Option Occ), Evo (fun b => ω b ≠ none) w G w' G' → Same (fun t => t = s) (fun _ => False) w G β ω w' G' β ω' → (∀ b, w'.heap.size ≤ b → G' b = 0) → (∀ b, ω' b ≠ none → b < w'.heap.size) →
      (∀ b, ω' b ≠ none → ω b ≠ none ∨ w.heap.size ≤ b) → ORepX w' G' ω' (.tmp d) i.size (r ++ r') v' → StepOk P w G ω β a o σ { σ with tmps := set (set σ.tmps d (.exc i.size (r ++ r'))) s .undef } := by
    intro G' ω' hevo hsame hgn hωn hdom hnew
    refine ⟨.value v', v', w', G', β, ω', hex, .inl rfl, hevo, hdom, fun _ _ => rfl, ⟨fun t => ?_, fun t s' h => ?_, fun s' b hb => hF.rest_blk hsame (fun _ _ => rfl) s' id b hb, hgn, hωn⟩⟩
    · simp only [hdst, Act.put]
      rw [tget_set, tget_set]
      by_cases e1 : t = s
      · subst e1
        rw [if_pos rfl, getD_set_ne _ _ _ _ _ hne]
        trivial
      · rw [if_neg e1]
        by_cases e2 : t = d
        · subst e2
          rw [if_pos rfl, getD_set_eq _ _ _ _ hd]
          exact hnew
        · rw [if_neg e2, getD_set_ne _ _ _ _ _ (Ne.symm e2)]
          exact hF.rest_tmp hsame (fun _ _ => rfl) t e1
    · rw [tget_set, tget_set] at h
      split at h
      · cases h
      · split at h
        · cases h
        · exact hF.live t _ h
  rcases hcase with ⟨hm0, rfl, rfl⟩ | ⟨g, cap', cur, hv, rfl, hgc, hroom, hcm, hcs, rfl⟩ | ⟨cap', arr, rfl, rfl, hcp, hcm, hasz, htake⟩
  · -- nothing is appended
    have hr0 : r' = [] := List.eq_nil_of_length_eq_zero hm0
    subst hr0
    refine fin G (srcω ω (some s) (.tmp d)) (.refl _ _ _) ⟨.refl _ _, fun g t hg ht => ⟨rfl, rfl, srcω_keep hg (fun q e e2 => ht (by cases e; cases e2; rfl))⟩, fun g t hg _ => ⟨rfl, rfl, srcω_keep hg (fun q e e2 => by cases e2)⟩,
      fun g t i hg _ => ⟨rfl, rfl, srcω_keep hg (fun q e e2 => by cases e2)⟩⟩ hF.gnew (fun b hb => hF.ωnew b (srcω_dom hb)) (fun b hb => .inl (srcω_dom hb)) ?_
    have hown' : ORepX _ G ω (.tmp s) i.size r (a.tmps.getD s undef) := ⟨e', xs, hor, hc1, hxl, hxr, ho1, hg⟩
    rw [List.append_nil]
    exact hown'.mono (.refl _ _) (fun g hg => ⟨rfl, rfl, srcω_src hg⟩)
  · -- in place
    obtain ⟨hωg, hGg⟩ := hg g (by rw [hv]; rfl)
    have hxs : cur.toList.take (r.length * i.size) = xs := by
      rcases hor.2 with ⟨h0, _⟩ | ⟨g', cap'', cur', hv', _, hh', _, _, _, ht'⟩
      · rw [hv] at h0; cases h0
      · rw [hv] at hv'; cases hv'
        rw [hgc] at hh'; cases hh'
        exact ht'
    have hle : r.length * i.size + news.length ≤ cur.size := by rw [hnl, hcs, ← Nat.add_mul]; exact Nat.mul_le_mul_right _ hroom
    have hrf := flat_len hc1
    have hevo : Evo (fun b => ω b ≠ none) w G (w.setRow g (cur.toList.take (r.length * i.size) ++ news ++ cur.toList.drop (r.length * i.size + news.length)).toArray) (upd G g 0) := by
      refine setRow_evo hgc _ (by rw [hGg]; exact Nat.le_refl _) (by rw [hωg]; simp) (fun j hj => ?_) (by simp only [List.size_toArray, List.length_append, List.length_take, List.length_drop, Array.length_toList]; omega)
      rw [hGg] at hj
      omega
    have hkn : ∀ g' oc, ω g' = some oc → oc ≠ .tmp s → g' ≠ g := fun g' oc h1 h2 e => h2 (by rw [e, hωg] at h1; exact (Option.some.inj h1).symm)
    have hsame : Same (fun t => t = s) (fun _ => False) w G β ω (w.setRow g (cur.toList.take (r.length * i.size) ++ news ++ cur.toList.drop (r.length * i.size + news.length)).toArray) (upd G g 0) β (srcω ω (some s) (.tmp d)) := by
      refine ⟨hevo.ext, fun g' t hg' ht => ?_, fun g' t hg' _ => ?_, fun g' t i hg' _ => ?_⟩
      · have := hkn g' _ hg' (fun e => ht (by cases e; rfl))
        exact ⟨setRow_other w _ _ _ this, upd_ne _ _ _ _ this, srcω_keep hg' (fun q e e2 => ht (by cases e; cases e2; rfl))⟩
      · have := hkn g' _ hg' (by simp)
        exact ⟨setRow_other w _ _ _ this, upd_ne _ _ _ _ this, srcω_keep hg' (fun q e e2 => by cases e2)⟩
      · have := hkn g' _ hg' (by simp)
        exact ⟨setRow_other w _ _ _ this, upd_ne _ _ _ _ this, srcω_keep hg' (fun q e e2 => by cases e2)⟩
    have hglt : g < w.heap.size := hF.ωnew g (by rw [hωg]; simp)
    refine fin _ _ hevo hsame (fun b hb => ?_) (fun b hb => by rw [size_setRow]; exact hF.ωnew b (srcω_dom hb)) (fun b hb => .inl (srcω_dom hb)) ?_
    · rw [size_setRow] at hb
      rw [upd_ne _ _ _ _ (by omega)]; exact hF.gnew b hb
    · refine ⟨e', xs ++ news, ⟨?_, .inr ⟨g, cap', _, by simp, Nat.zero_le _, setRow_heap w g cur _ _ _ hgc, by simpa using hroom, hcm, ?_, ?_⟩⟩, hcc, hlen2, fun j p u hp hu => (hrr j p u hp hu).mono hevo.ext, hoo, fun g' hg' => ?_⟩
      · rw [hlen2, hfl, List.length_append]
      · simp only [List.size_toArray, List.length_append, List.length_take, List.length_drop, Array.length_toList]
        omega
      · rw [hxs]
        have : (r ++ r').length * i.size = (xs ++ news).length := by rw [hlen2, hfl, List.length_append]
        rw [this]
        exact List.take_left
      · simp [Value.ownBlock] at hg'
        subst hg'
        exact ⟨srcω_src hωg, upd_eq _ _ _⟩
  · -- a new row
    have hlt := hF.ωnew
    have hevo : Evo (fun b => ω b ≠ none) w G (w.drew.alloc (.cells arr e)) (upd G w.heap.size 0) := by
      have := alloc_evo (T := fun b => ω b ≠ none) (w := w.drew) (G := G) (.cells arr e) 0 hF.gnew
      exact ⟨this.os, this.tape, this.output, this.size, ⟨this.ext.le, this.ext.cell, this.ext.shape⟩, this.block⟩
    have hsame : Same (fun t => t = s) (fun _ => False) w G β ω (w.drew.alloc (.cells arr e)) (upd G w.heap.size 0) β (upd ω w.heap.size (some (.tmp d))) := by
      refine ⟨hevo.ext, fun g t hg _ => ?_, fun g t hg _ => ?_, fun g t i hg _ => ?_⟩ <;>
      (have := hlt g (by rw [hg]; simp); exact ⟨heap_alloc_old w.drew _ this, upd_ne _ _ _ _ (by omega), by rw [upd_ne _ _ _ _ (by omega)]; exact hg⟩)
    have hsz' : (w.drew.alloc (.cells arr e)).heap.size = w.heap.size + 1 := by simp
    refine fin _ _ hevo hsame (fun b hb => ?_) (fun b hb => ?_) (fun b hb => ?_) ?_
    · rw [hsz'] at hb
      rw [upd_ne _ _ _ _ (by omega)]; exact hF.gnew b (by omega)
    · rw [hsz']
      by_cases e : b = w.heap.size
      · omega
      · rw [upd_ne _ _ _ _ e] at hb
        have := hlt b hb; omega
    · by_cases e : b = w.heap.size
      · exact .inr (by omega)
      · rw [upd_ne _ _ _ _ e] at hb; exact .inl hb
    · refine ⟨e, xs ++ news, ⟨?_, .inr ⟨w.heap.size, cap', arr, by simp, Nat.zero_le _, heap_alloc_new w.drew _, by simpa using hcp, hcm, hasz, ?_⟩⟩, hcc, hlen2, fun j p u hp hu => (hrr j p u hp hu).mono hevo.ext, hoo, fun g' hg' => ?_⟩
      · rw [hlen2, hfl, List.length_append]
      · rw [List.length_append]; exact htake
      · simp [Value.ownBlock] at hg'
        subst hg'
        exact ⟨upd_eq _ _ _, upd_eq _ _ _⟩

/-- A new row that nobody else speaks of. -/
theorem ok_newrowx {d c n : Nat} {rows : List (List PV)} {arr : Array Value} {e : TypeId} (hF : FRel w G β ω σ a.tmps) (hd : d < a.tmps.size) (hdst : o.dst = some d)
    (hr : (execOp a.eval o).run P w = .ok (.value (.slice (some ⟨w.heap.size, 0, none⟩) n n)) (w.alloc (.cells arr e))) (hn : rows.length = n) (hc : ∀ r ∈ rows, r.length = c) (hm : n ≤ maxLen)
    (hz : CellsRep w G rows.flatten arr) : StepOk P w G ω β a o σ { σ with tmps := set σ.tmps d (.exc c rows) } := by
  have hlt := hF.ωnew
  have hext := (alloc_evo (T := fun _ => True) (.cells arr e) 0 hF.gnew).ext
  have hsame : Same (fun _ => False) (fun _ => False) w G β ω (w.alloc (.cells arr e)) (upd G w.heap.size 0) β (upd ω w.heap.size (some (.tmp d))) := by
    refine ⟨hext, fun g t hg _ => ?_, fun g t hg _ => ?_, fun g t i hg _ => ?_⟩ <;>
    (have := hlt g (by rw [hg]; simp); exact ⟨heap_alloc_old w _ this, upd_ne _ _ _ _ (by omega), by rw [upd_ne _ _ _ _ (by omega)]; exact hg⟩)
  refine ⟨_, _, w.alloc (.cells arr e), upd G w.heap.size 0, β, upd ω w.heap.size (some (.tmp d)), hr, .inl rfl, alloc_evo _ _ hF.gnew, fun b hb => ?_, fun _ _ => rfl, ?_⟩
  · by_cases e : b = w.heap.size
    · exact .inr (by omega)
    · rw [upd_ne _ _ _ _ e] at hb; exact .inl hb
  · refine ⟨fun t => ?_, fun t s h => ?_, fun s b hb => hF.rest_blk hsame (fun _ _ => rfl) s id b hb, fun b hb => ?_, fun b hb => ?_⟩
    · simp only [hdst, Act.put]
      rw [tget_set]
      by_cases e1 : t = d
      · subst e1
        rw [if_pos rfl, getD_set_eq _ _ _ _ hd]
        subst hn
        refine ⟨e, arr.toList, ⟨by simp [hz.1, flat_len hc], .inr ⟨w.heap.size, rows.length, arr, rfl, Nat.zero_le _, heap_alloc_new w _, Nat.le_refl _, hm, by rw [hz.1, flat_len hc], ?_⟩⟩, hc, by simp [hz.1],
          fun j p x hp hx => (hz.2.2 j p x hp (by simpa using hx)).mono hext, hz.2.1, fun g hg => ?_⟩
        · rw [← flat_len hc, ← hz.1, ← Array.length_toList, List.take_length]
        · simp [Value.ownBlock] at hg
          subst hg
          exact ⟨by rw [upd_eq], by rw [upd_eq]⟩
      · rw [if_neg e1, getD_set_ne _ _ _ _ _ (Ne.symm e1)]
        exact hF.rest_tmp hsame (fun _ _ => rfl) t id
    · rw [tget_set] at h
      split at h
      · cases h
      · exact hF.live t s h
    · simp only [World.size_alloc] at hb
      rw [upd_ne _ _ _ _ (by omega)]; exact hF.gnew b (by omega)
    · simp only [World.size_alloc]
      by_cases e : b = w.heap.size
      · omega
      · rw [upd_ne _ _ _ _ e] at hb
        have := hF.ωnew b hb; omega
theorem ok_bslicex {t e : TypeId} {len c d : Nat} {parts : Array (Nat × Operand)} {zs cs : List PV} {ys : List Opnd} {ps : List (Nat × Nat)} (hF : FRel w G β ω σ a.tmps) (hd : d < a.tmps.size) (hdst : o.dst = some d)
    (ho : o.op = .buildSlice t len parts) (hu : P.underlying t = some (.slice e)) (hn : szT P e = some c) (hz : zeroC P e = some zs) (hc : cParts P (fun i => some (i * c, c, e)) parts.toList = some (ys, ps)) (hb : 0 < len ∧ 0 < c ∧ zs.length = c ∧ len * c ≤ 2 ^ 20)
    (hf : fillA ((List.replicate len zs).flatten) (ys.map (·.ev σ.tmps)) ps = some cs) :
    StepOk P w G ω β a o σ { σ with tmps := set σ.tmps d (.exc c (chunks c ((List.replicate len zs).flatten.length / c) cs)) } := by
  obtain ⟨h0, hc0, hzl, hsm⟩ := hb
  obtain ⟨it, z, hi, hzz, hcc⟩ := zeroC_spec hz
  obtain ⟨it', hi', hsz⟩ := szT_info hn
  rw [hi] at hi'; cases hi'
  have hzr := cCells_cells (w := w) (G := G) hcc
  have hrep := rep_replicate (len := len) hzr (by omega)
  have hzsz : z.cells.size = zs.length := hzr.1
  have hlen : (List.replicate len zs).flatten.length = len * c := by
    rw [flat_len (c := c) (fun r hr => by rw [List.eq_of_mem_replicate hr]; exact hzl), List.length_replicate]
  have hsmall : len ≤ 2 ^ 20 := Nat.le_trans (Nat.le_mul_of_pos_right len hc0) hsm
  rw [hlen, Nat.mul_div_cancel _ hc0]
  obtain ⟨arr', h1, h2, h3⟩ := fill_rep (place := fun i => some (i * c, c)) (fun i off n ty h => by simp at h; show some (i * c, c) = _; rw [h.1, h.2.1]) hF parts.toList ys ps hc _ _ hrep cs hf
  obtain ⟨k1, k2, k3⟩ := chunks_spec c hc0 len cs (by rw [h3, hlen])
  refine ok_newrowx (e := e) hF hd hdst ?_ k1 k2 (by simp only [maxLen]; omega) (by rw [k3]; exact h2)
  have := run_buildSlice (P := P) w t e len (parts.map fun (i, x) => (i, a.eval x)) arr' it z hu hi hzz (by rw [hsz]; omega) (by rw [hsz]; exact Nat.mul_ne_zero (by omega) (by omega)) (by
    rw [hsz, ← h1, ← hzl]; congr 1; simp)
  simp only [execOp, ho, Sem.run_bind, this, Result.andThen_ok, Sem.run_pure]

theorem ok_bslice0 {t e : TypeId} {c d : Nat} (hF : FRel w G β ω σ a.tmps) (hd : d < a.tmps.size) (hdst : o.dst = some d) (ho : o.op = .buildSlice t 0 #[]) (hu : P.underlying t = some (.slice e)) (hn : szT P e = some c) :
    StepOk P w G ω β a o σ { σ with tmps := set σ.tmps d (.exc c []) } := by
  obtain ⟨it, hi, hsz⟩ := szT_info hn
  refine ok_newrowx (arr := #[]) (e := e) hF hd hdst ?_ rfl (by simp) (Nat.zero_le _) ⟨by simp, by simp, by simp⟩
  simp [execOp, ho, Instr.buildSlice, run_underlying hu, sizeOf, typeInfo, hi, Instr.fill, newRow]
  congr 2
  apply Array.eq_empty_of_size_eq_zero; simp
theorem close_ok {t d c : Nat} {tm : Array Value} (hF : FRel w G β ω σ tm) (h : closeFr σ t d c = some σ') : ∃ ω', (∀ b, ω' b ≠ none → ω b ≠ none) ∧ (∀ s, s ≠ d → get σ'.mem s = get σ.mem s) ∧ FRel w G β ω' σ' tm := by
  have key : closeFr0 σ t d c = some σ' → ∃ ω', (∀ b, ω' b ≠ none → ω b ≠ none) ∧ (∀ s, s ≠ d → get σ'.mem s = get σ.mem s) ∧ FRel w G β ω' σ' tm := fun h1 => by
    obtain ⟨ω1, k1, ⟨b1, k2⟩, k3, k4, k5⟩ := close_ok0 hF h1
    refine ⟨ω1, fun b hb => ?_, fun s hs => by rw [k4, if_neg hs], k5⟩
    by_cases e : b = β d
    · subst e; rw [(hF.blk d _ k2).1]; simp
    · rw [k1 b e] at hb; exact hb
  unfold closeFr at h
  split at h
  · split at h
    · cases h
      exact ⟨ω, fun _ h => h, fun _ _ => rfl, hF⟩
    · cases h
  · exact key h
end ops
end Go.AR
