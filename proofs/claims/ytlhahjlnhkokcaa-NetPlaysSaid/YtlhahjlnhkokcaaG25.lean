import Derived.Test.YtlhahjlnhkokcaaG24
set_option linter.all false
namespace Go.AR
open Go
section
variable {P : Program} {w : World} {G β : Nat → Nat} {ω : Nat → Option Occ} {σ σ' : Fr} {a : Act} {o : Oper} {h : Hint} {gs : Option (Nat × Bool)} {ao : AOp}

theorem cOp_dst (hc : cOp P h o gs = some ao) : ao.dst = o.dst ∧ ao.guard = gs := by
  unfold cOp at hc
  repeat' split at hc
  all_goals first
    | (cases hc; done)
    | (cases hc; exact ⟨rfl, rfl⟩)

theorem cOpnds_vals (hF : FRel w G β ω σ a.tmps) : ∀ (ts : List TypeId) (xs : List Operand) (ys : List Opnd), cOpnds P ts xs = some ys → xs.length = ys.length ∧
    ∀ (i : Nat) (x : TV) (v : Value), (ys.map (·.ev σ.tmps))[i]? = some x → (xs.map a.eval)[i]? = some v → ∃ y, ys[i]? = some y ∧ y.ev σ.tmps = x ∧ TRep w G β ω y.occ x v
  | [], [], ys, h => by simp [cOpnds] at h; subst h; simp
  | [], _ :: _, ys, h => by simp [cOpnds] at h
  | _ :: _, [], ys, h => by simp [cOpnds] at h
  | t :: ts, x :: xs, ys, h => by
    simp only [cOpnds] at h
    split at h
    · rename_i y ys' hy hys
      cases h
      obtain ⟨h1, h2⟩ := cOpnds_vals hF ts xs ys' hys
      refine ⟨by simp [h1], fun i u v hu hv => ?_⟩
      cases i with
      | zero => simp at hu hv; subst hu; subst hv; exact ⟨_, rfl, rfl, (cOpnd_ok hy).trep hF⟩
      | succ i => simpa using h2 i u v (by simpa using hu) (by simpa using hv)
    · cases h

theorem cOp_call {nref : Nat} {new : Bool} (hc : cOp P h o gs = some ao) (hk : ao.k = .call nref new) : ∃ cl f f' xs, o.op = .call cl ∧ cl.callee = .value f ∧ cOpnd P 0 f = some f' ∧ cOpnds P cl.argTypes.toList cl.args.toList = some xs ∧
    (h.mw.take h.nref).Nodup ∧ ao = { mkA h o (f' :: xs) (.call h.nref h.new) gs with mw := h.mw } := by
  cases hop : o.op <;> simp only [cOp, hop] at hc
  case call cl =>
    split at hc
    case h_5 f hcl =>
      split at hc
      · rename_i f' xs hf hxs
        split at hc
        · rename_i hnd
          split at hc
          · split at hc
            · cases hc; simp [mkA] at hk
            · cases hc
          · split at hc
            · cases hc; simp [mkA] at hk
            · cases hc
              exact ⟨cl, f, f', xs, rfl, hcl, hf, hxs, hnd, rfl⟩
        · cases hc
      · cases hc
    all_goals
      exfalso
      repeat' split at hc
      all_goals first
        | contradiction
        | (cases hc; done)
        | (cases hc; simp [mkA] at hk; done)
  all_goals
    exfalso
    repeat' split at hc
    all_goals first
      | contradiction
      | (cases hc; done)
      | (cases hc; simp [mkA] at hk; done)
theorem cOp_callx {nref : Nat} {new : Bool} (hc : cOp P h o gs = some ao) (hk : ao.k = .callx nref new) : ∃ cl f f' xs, o.op = .call cl ∧ cl.callee = .value f ∧ cOpnd P 0 f = some f' ∧ cOpnds P cl.argTypes.toList cl.args.toList = some xs ∧
    (h.mw.take h.nref).Nodup ∧ (given h.wb xs).Nodup ∧ ao = { mkA h o (f' :: xs) (.callx h.nref h.new) gs with mw := h.mw, wb := h.wb } := by
  cases hop : o.op <;> simp only [cOp, hop] at hc
  case call cl =>
    split at hc
    case h_5 f hcl =>
      split at hc
      · rename_i f' xs hf hxs
        split at hc
        · rename_i hnd
          split at hc
          · split at hc
            · rename_i hgn
              cases hc
              exact ⟨cl, f, f', xs, rfl, hcl, hf, hxs, hnd, hgn, rfl⟩
            · cases hc
          · split at hc
            · cases hc; simp [mkA] at hk
            · cases hc; simp [mkA] at hk
        · cases hc
      · cases hc
    all_goals
      exfalso
      repeat' split at hc
      all_goals first
        | contradiction
        | (cases hc; done)
        | (cases hc; simp [mkA] at hk; done)
  all_goals
    exfalso
    repeat' split at hc
    all_goals first
      | contradiction
      | (cases hc; done)
      | (cases hc; simp [mkA] at hk; done)

theorem cOp_callb (hc : cOp P h o gs = some ao) (hk : ao.k = .callb) : ∃ cl f f' xs, o.op = .call cl ∧ cl.callee = .value f ∧ cOpnd P 0 f = some f' ∧ cOpnds P cl.argTypes.toList cl.args.toList = some xs ∧ ao = { mkA h o (f' :: xs) .callb gs with mr := h.mr } := by
  cases hop : o.op <;> simp only [cOp, hop] at hc
  case call cl =>
    split at hc
    case h_5 f hcl =>
      split at hc
      · rename_i f' xs hf hxs
        split at hc
        · rename_i hnd
          split at hc
          · split at hc
            · cases hc; simp [mkA] at hk
            · cases hc
          · split at hc
            · cases hc
              exact ⟨cl, f, f', xs, rfl, hcl, hf, hxs, rfl⟩
            · cases hc; simp [mkA] at hk
        · cases hc
      · cases hc
    all_goals
      exfalso
      repeat' split at hc
      all_goals first
        | contradiction
        | (cases hc; done)
        | (cases hc; simp [mkA] at hk; done)
  all_goals
    exfalso
    repeat' split at hc
    all_goals first
      | contradiction
      | (cases hc; done)
      | (cases hc; simp [mkA] at hk; done)
/-- Where an operand that is given away stands. -/
def oidx : List Opnd → Nat → Nat → Option Nat
  | [], _, _ => none
  | .t n :: xs, k, t => if n = t then some k else oidx xs (k + 1) t
  | .c _ :: xs, k, t => oidx xs (k + 1) t
theorem mem_given {wb : List Nat} {xs : List Opnd} {i t : Nat} (h : xs[i]? = some (.t t)) (hw : t ∈ wb) : t ∈ given wb xs :=
  List.mem_filterMap.2 ⟨.t t, List.mem_of_getElem? h, by simp [hw]⟩
theorem oidx_at {wb : List Nat} : ∀ (xs : List Opnd) (k i t : Nat), (given wb xs).Nodup → xs[i]? = some (.t t) → t ∈ wb → oidx xs k t = some (k + i)
  | [], k, i, t, _, h, _ => by simp at h
  | x :: xs, k, i, t, hn, h, hw => by
    cases i with
    | zero => simp at h; subst h; simp [oidx]
    | succ i =>
      have h' : xs[i]? = some (.t t) := by simpa using h
      cases x with
      | c p =>
        simp only [oidx]
        rw [oidx_at xs (k + 1) i t (by simpa [given] using hn) h' hw]
        congr 1; omega
      | t n =>
        by_cases hc : wb.contains n = true
        · have hn' : (n :: given wb xs).Nodup := by simpa only [given, List.filterMap_cons, hc, if_true] using hn
          have hne : n ≠ t := fun e => (List.nodup_cons.1 hn').1 (e ▸ mem_given h' hw)
          simp only [oidx, if_neg hne]
          rw [oidx_at xs (k + 1) i t (List.nodup_cons.1 hn').2 h' hw]
          congr 1; omega
        · have hn' : (given wb xs).Nodup := by simpa only [given, List.filterMap_cons, Bool.eq_false_iff.2 hc, Bool.false_eq_true, if_false] using hn
          have hne : n ≠ t := fun e => hc (by rw [e]; simpa using hw)
          simp only [oidx, if_neg hne]
          rw [oidx_at xs (k + 1) i t hn' h' hw]
          congr 1; omega
theorem cOp_wp {I : Inv} (hc : cOp P h o gs = some ao) (c : Ctx P w G β ω σ a o ao) (hI : I.on w ω) (hs : match ao.k with | .call nref new => CallStep (ACallI I P) ao nref new σ σ' | .callx nref new => CallStepX (ACallI I P) ao nref new σ σ' | .callb => CallStepB (ACallI I P) ao σ σ' | _ => semOp ao σ = some σ') : OpWp P w G ω β a o σ σ' := by
  cases hk : ao.k with
  | call nref new =>
    simp only [hk] at hs
    obtain ⟨cl, f, f', xs, ho, hcl, hf, hxs, hnd, rfl⟩ := cOp_call hc hk
    simp only [mkA, Kind.call.injEq] at hk
    obtain ⟨rfl, rfl⟩ := hk
    obtain ⟨fid, vs, as, rv, outs, h1, h2, h3, h4, h5, rfl⟩ := hs
    simp only [mkA, List.map_cons, List.cons.injEq] at h1
    obtain ⟨hfv, rfl⟩ := h1
    have hfe := Rep.fn_inv ((cOpnd_ok hf).val c.F hfv)
    obtain ⟨hlen, hvals⟩ := cOpnds_vals c.F _ _ _ hxs
    obtain ⟨h2x, hnx⟩ := mkArgs_X h2
    refine call_sound (R := fun _ => none) (wb := []) (va := cl.args.toList.map a.eval) c.F hI c.d ?_ (by simpa using hlen) (fun i x v h1 h2 => ?_) (fun t ht => absurd rfl ht) h2x hnd h3 (fun b hb => ?_)
    · have : (cl.args.toList.map a.eval).toArray = cl.args.map a.eval := by rw [← Array.toList_map]
      rw [this]
      simp [execOp, ho, resolve, hcl, hfe, Deferred.ofValue, invoke]
    · obtain ⟨y, hy1, hy2, hy3⟩ := hvals i x v h1 h2
      exact ⟨_, hy3, fun ⟨c, r, e⟩ => absurd (List.mem_of_getElem? (e ▸ h1)) (hnx c r)⟩
    · rcases hb with hb | hb <;> subst hb
      · obtain ⟨_, d, hd, _, hg⟩ := h5
        exact ⟨d, hd, hg⟩
      · obtain ⟨_, d, hd, _, hg⟩ := h5
        exact ⟨d, hd, hg⟩
  | callx nref new =>
    simp only [hk] at hs
    obtain ⟨cl, f, f', xs, ho, hcl, hf, hxs, hnd, hgn, rfl⟩ := cOp_callx hc hk
    simp only [mkA, Kind.callx.injEq] at hk
    obtain ⟨rfl, rfl⟩ := hk
    obtain ⟨fid, vs, as, rv, outs, h1, h2, h3, h4, hgv, h5, rfl⟩ := hs
    simp only [mkA, List.map_cons, List.cons.injEq] at h1
    obtain ⟨hfv, rfl⟩ := h1
    have hfe := Rep.fn_inv ((cOpnd_ok hf).val c.F hfv)
    obtain ⟨hlen, hvals⟩ := cOpnds_vals c.F _ _ _ hxs
    refine call_sound (R := fun t => if t ∈ h.wb then oidx xs 0 t else none) (wb := h.wb) (va := cl.args.toList.map a.eval) c.F hI c.d ?_ (by simpa using hlen) (fun i x v h1 h2 => ?_) (fun t ht => ?_) h2 hnd h3 (fun b hb => ?_)
    · have : (cl.args.toList.map a.eval).toArray = cl.args.map a.eval := by rw [← Array.toList_map]
      rw [this]
      simp [execOp, ho, resolve, hcl, hfe, Deferred.ofValue, invoke]
    · obtain ⟨y, hy1, hy2, hy3⟩ := hvals i x v h1 h2
      refine ⟨_, hy3, fun ⟨c', r, e⟩ => ?_⟩
      subst e
      cases y with
      | c p => simp [Opnd.ev] at hy2
      | t t =>
        have hwb : t ∈ h.wb := hgv t (by simp only [mkA]; exact List.mem_cons_of_mem _ (List.mem_of_getElem? hy1)) ⟨c', r, hy2⟩
        refine ⟨t, rfl, ?_⟩
        rw [if_pos hwb, oidx_at xs 0 i t hgn hy1 hwb]
        simp
    · split at ht
      · assumption
      · exact absurd rfl ht
    · rcases hb with hb | hb <;> subst hb
      · obtain ⟨_, d, hd, _, hg⟩ := h5
        exact ⟨d, hd, hg⟩
      · obtain ⟨_, d, hd, _, hg⟩ := h5
        exact ⟨d, hd, hg⟩
  | callb =>
    simp only [hk] at hs
    obtain ⟨cl, f, f', xs, ho, hcl, hf, hxs, rfl⟩ := cOp_callb hc hk
    obtain ⟨fid, vs, as, p, h1, h2, h3, h4, rfl⟩ := hs
    simp only [mkA, List.map_cons, List.cons.injEq] at h1
    obtain ⟨hfv, rfl⟩ := h1
    have hfe := Rep.fn_inv ((cOpnd_ok hf).val c.F hfv)
    obtain ⟨hlen, hvals⟩ := cOpnds_vals c.F _ _ _ hxs
    refine callb_sound (va := cl.args.toList.map a.eval) c.F hI c.d ?_ (by simpa using hlen) (fun i x v h1 h2 => ?_) h2 h3 h4
    · have : (cl.args.toList.map a.eval).toArray = cl.args.map a.eval := by rw [← Array.toList_map]
      rw [this]
      simp [execOp, ho, resolve, hcl, hfe, Deferred.ofValue, invoke]
    · obtain ⟨y, hy1, hy2, hy3⟩ := hvals i x v h1 h2
      exact ⟨_, hy3⟩
  | _ => exact (cOp_sound hc c (by simp [hk]) (by simpa [hk] using hs)).opWp

theorem wanted_of {ops : Array Oper} {b : Bool} (hF : FRel w G β ω σ a.tmps) (hg : gslot ops o.guard = some gs) (hgd : ao.guard = gs) (hw : wantedA ao σ = some b) : Region.wanted o (yielded ops a.tmps) = b := by
  unfold gslot at hg
  unfold wantedA at hw
  cases hog : o.guard with
  | none =>
    simp only [hog] at hg
    cases hg
    rw [hgd] at hw
    simp at hw
    simp [Region.wanted, hog, ← hw]
  | some g =>
    obtain ⟨j, want⟩ := g
    simp only [hog] at hg
    split at hg
    · rename_i oj hoj
      split at hg
      · rename_i d hd
        cases hg
        rw [hgd] at hw
        simp only at hw
        split at hw
        · rename_i q hq
          have ht := hF.tmp d
          rw [hq] at ht
          have hv := Rep.bool_inv (id ht : Rep w G (.bool q) _)
          have hb : a.tmps[d]? = some (.bool q) := by
            rw [Array.getD_eq_getD_getElem?] at hv
            cases hx : a.tmps[d]? with
            | none => rw [hx] at hv; simp [undef] at hv
            | some y => rw [hx] at hv; simpa using hv
          cases hw
          simp [Region.wanted, hog, yielded, hoj, hd, hb]
        · rename_i vs hq
          have ht := hF.tmp d
          rw [hq] at ht
          obtain ⟨us, hv, _⟩ := Rep.tup_inv (id ht : Rep w G (.tup vs) _)
          cases hw
          rw [Array.getD_eq_getD_getElem?] at hv
          cases hx : a.tmps[d]? with
          | none => simp [Region.wanted, hog, yielded, hoj, hd, hx]
          | some y =>
            rw [hx] at hv
            have hv' : y = .tuple us := by simpa using hv
            simp [Region.wanted, hog, yielded, hoj, hd, hx, hv']
        · cases hw
      · cases hg
    · cases hg

/-- One operation of a region. -/
def Reach (w : World) (G : Nat → Nat) (ω : Nat → Option Occ) (w' : World) (G' : Nat → Nat) (ω' : Nat → Option Occ) : Prop :=
  Evo (fun b => ω b ≠ none) w G w' G' ∧ ∀ b, ω' b ≠ none → ω b ≠ none ∨ w.heap.size ≤ b
theorem Reach.refl (w : World) (G : Nat → Nat) (ω : Nat → Option Occ) : Reach w G ω w G ω := ⟨.refl _ _ _, fun _ h => .inl h⟩
theorem Reach.trans {w G ω w' G' ω' w'' G'' ω''} (h : Reach w G ω w' G' ω') (k : Reach w' G' ω' w'' G'' ω'') : Reach w G ω w'' G'' ω'' :=
  ⟨h.1.trans k.1 (fun b hb ht => by
    rcases h.2 b ht with h' | h'
    · exact h'
    · omega), fun b hb => by
    rcases k.2 b hb with h' | h'
    · exact h.2 b h'
    · exact .inr (Nat.le_trans h.1.size h')⟩

theorem Inv.reach (I : Inv) {w G ω w' G' ω'} (h : I.on w ω) (r : Reach w G ω w' G' ω') : I.on w' ω' := I.keep h r.1 r.2
theorem op_step {I : Inv} {ops : Array Oper} {i : Nat} {K : Act → World → Prop} {Q : Exit → Act → World → Prop} (ho : ops[i]? = some o) (hg : gslot ops o.guard = some gs) (hc : cOp P h o gs = some ao) (hF : FRel w G β ω σ a.tmps) (hI : I.on w ω) (hsz : ∀ d ∈ ao.wrs, d < a.tmps.size)
    (hs : AStep (ACallI I P) ao σ σ') (hK : ∀ v w' G' β' ω', Reach w G ω w' G' ω' → (∀ s, get σ.mem s ≠ none → β' s = β s) → FRel w' G' β' ω' σ' (a.put o.dst v).tmps → K (a.put o.dst v) w') : wpOp P ops Q i K a w := by
  obtain ⟨hd, hgd⟩ := cOp_dst hc
  unfold wpOp
  rw [ho]
  simp only
  unfold AStep at hs
  cases hw : wantedA ao σ with
  | none => simp [hw] at hs
  | some b =>
    rw [wanted_of hF hg hgd hw]
    cases b with
    | false =>
      simp only [hw] at hs
      simp only [Bool.false_eq_true, if_false]
      refine hK undef w G β ω (.refl _ _ _) (fun _ _ => rfl) ?_
      rw [hs, hd]
      exact hF.putO o.dst (fun d hdd => hsz d (by simp [AOp.wrs, hd, hdd])) (.val (.tup [])) undef (fun _ => .tup [] #[] rfl (by simp)) (fun s e => by cases e)
    | true =>
      simp only [hw] at hs
      simp only [if_true]
      exact .inl (cOp_wp hc ⟨hF, hsz, hd⟩ hI hs K Q (fun v w' G' β' ω' he hdom hb hF' => hK v w' G' β' ω' ⟨he, hdom⟩ hb hF'))

theorem cOps_get {ops : Array Oper} {hh : Nat → Hint} : ∀ (l : List Oper) (k : Nat) (as : List AOp), cOps P ops hh k l = some as → as.length = l.length ∧ ∀ (i : Nat) (o : Oper), l[i]? = some o → ∃ gs ao, as[i]? = some ao ∧ gslot ops o.guard = some gs ∧ cOp P (hh (k + i)) o gs = some ao
  | [], k, as, h => by simp [cOps] at h; subst h; simp
  | o :: l, k, as, h => by
    simp only [cOps] at h
    split at h
    · rename_i gs hg
      split at h
      · rename_i x xs hx hxs
        cases h
        obtain ⟨h1, h2⟩ := cOps_get l (k + 1) xs hxs
        refine ⟨by simp [h1], fun i o' ho' => ?_⟩
        cases i with
        | zero => simp at ho'; subst ho'; exact ⟨gs, x, rfl, hg, hx⟩
        | succ i =>
          obtain ⟨gs', ao', e1, e2, e3⟩ := h2 i o' (by simpa using ho')
          exact ⟨gs', ao', by simpa using e1, e2, by rw [show k + (i + 1) = k + 1 + i by omega]; exact e3⟩
      · cases h
    · cases h

/-- What a region comes to. -/
def Ends (w : World) (G β : Nat → Nat) (ω : Nat → Option Occ) (a : Act) (σ σf : Fr) (Q : Exit → Act → World → Prop) : Prop :=
  ∀ a' w' G' β' ω', Reach w G ω w' G' ω' → (∀ s, get σ.mem s ≠ none → β' s = β s) → FRel w' G' β' ω' σf a'.tmps → a'.defers = a.defers → a'.tmps.size = a.tmps.size → Q .normal a' w'
theorem put_size (a : Act) (d : Option Nat) (v : Value) : (a.put d v).tmps.size = a.tmps.size := by cases d <;> simp [Act.put]
theorem put_defers (a : Act) (d : Option Nat) (v : Value) : (a.put d v).defers = a.defers := by cases d <;> rfl
theorem applyT_live {α : Type} : ∀ (r : List (Nat × α)) (m : List (Nat × α)) (s : Nat), get m s ≠ none → get (applyT m r) s ≠ none
  | [], _, _, h => h
  | (i, a) :: r, m, s, h => by
    simp only [applyT]
    refine applyT_live r _ s ?_
    rw [get_set]
    split
    · simp
    · exact h
theorem step_live {C : CallRel} {ao : AOp} {σ σ' : Fr} (h : AStep C ao σ σ') (s : Nat) (hs : get σ.mem s ≠ none) : get σ'.mem s ≠ none := by
  obtain ⟨vs, bs, _, _, rfl, _⟩ := step_eff h
  exact applyT_live _ _ _ hs
theorem Ends.step {Q : Exit → Act → World → Prop} {σf : Fr} (h : Ends w G β ω a σ σf Q) {w' : World} {G' β' : Nat → Nat} {ω' : Nat → Option Occ} (hr : Reach w G ω w' G' ω') (hb : ∀ s, get σ.mem s ≠ none → β' s = β s) {C : CallRel} {ao : AOp} (hst : AStep C ao σ σ') (d : Option Nat) (v : Value) : Ends w' G' β' ω' (a.put d v) σ' σf Q :=
  fun a' w'' G'' β'' ω'' hr' hb' hF hd hs => h a' w'' G'' β'' ω'' (hr.trans hr') (fun s hs => (hb' s (step_live hst s hs)).trans (hb s hs)) hF (by rw [hd, put_defers]) (by rw [hs, put_size])

/-- In order. -/
theorem region_ordered {I : Inv} {ops : Array Oper} {hh : Nat → Hint} {Q : Exit → Act → World → Prop} {as : List AOp} (hc : cOps P ops hh 0 ops.toList = some as) :
    ∀ (n k : Nat), k + n = as.length → ∀ (w : World) (G β : Nat → Nat) (ω : Nat → Option Occ) (σ σf : Fr) (a : Act), FRel w G β ω σ a.tmps → I.on w ω → (∀ o ∈ as, ∀ d ∈ o.wrs, d < a.tmps.size) → ASteps (ACallI I P) (as.drop k) σ σf → Ends w G β ω a σ σf Q →
      wpOps P ops Q (List.range' k n) a w
  | 0, k, hk, w, G, β, ω, σ, σf, a, hF, hI, hsz, hs, hE => by
    have : as.drop k = [] := List.drop_eq_nil_of_le (by omega)
    rw [this] at hs
    cases hs
    exact hE a w G β ω (.refl _ _ _) (fun _ _ => rfl) hF rfl rfl
  | n + 1, k, hk, w, G, β, ω, σ, σf, a, hF, hI, hsz, hs, hE => by
    obtain ⟨hl, hget⟩ := cOps_get ops.toList 0 as hc
    have hkl : k < ops.toList.length := by omega
    obtain ⟨gs, ao, e1, e2, e3⟩ := hget k _ (List.getElem?_eq_getElem hkl)
    have hka : k < as.length := by omega
    have hao : as[k] = ao := by rw [List.getElem?_eq_getElem hka] at e1; exact Option.some.inj e1
    rw [List.drop_eq_getElem_cons hka, hao] at hs
    obtain ⟨σ1, h1, h2⟩ := hs
    simp only [List.range'_succ]
    rw [wpOps_cons]
    refine op_step (by rw [← Array.getElem?_toList]; exact List.getElem?_eq_getElem hkl) e2 e3 hF hI (hsz ao (hao ▸ List.getElem_mem hka)) h1 (fun v w' G' β' ω' hr hb hF' => ?_)
    exact region_ordered hc n (k + 1) (by omega) w' G' β' ω' σ1 σf _ hF' (I.reach hI hr) (fun o ho d hd => by rw [put_size]; exact hsz o ho d hd) h2 (hE.step hr hb h1 _ _)

/-- What has not come up yet. -/
def remF (listed : Array Bool) : Nat → List AOp → List AOp
  | _, [] => []
  | k, x :: xs => if listed.getD k true then remF listed (k + 1) xs else x :: remF listed (k + 1) xs
theorem remF_set (listed : Array Bool) : ∀ (as : List AOp) (k i : Nat) (x : AOp), i < k → remF (listed.setIfInBounds i true) k as = remF listed k as
  | [], _, _, _, _ => rfl
  | y :: as, k, i, x, h => by
    simp only [remF]
    rw [_root_.Go.getD_set_ne true (by omega), remF_set listed as (k + 1) i x (by omega)]
theorem remF_split (listed : Array Bool) : ∀ (as : List AOp) (k i : Nat) (x : AOp), as[i]? = some x → listed.getD (k + i) true = false →
    ∃ pre post, remF listed k as = pre ++ x :: post ∧ remF (listed.setIfInBounds (k + i) true) k as = pre ++ post ∧ ∀ p ∈ pre, ∃ j, j < i ∧ listed.getD (k + j) true = false ∧ as[j]? = some p
  | [], k, i, x, h, _ => by simp at h
  | y :: as, k, i, x, h, hl => by
    cases i with
    | zero =>
      simp at h; subst h
      have hlt : k < listed.size := by
        rcases Nat.lt_or_ge k listed.size with h' | h'
        · exact h'
        · simp [Array.getD_eq_getD_getElem?, Array.getElem?_eq_none h'] at hl
      refine ⟨[], remF listed (k + 1) as, ?_, ?_, by simp⟩
      · simp only [remF, Nat.add_zero] at hl ⊢
        rw [hl]; simp
      · simp only [remF, Nat.add_zero, List.nil_append]
        have : (listed.setIfInBounds k true).getD k true = true := by simp [Array.getD_eq_getD_getElem?, hlt]
        rw [this, if_pos rfl, remF_set listed as (k + 1) k y (by omega)]
    | succ i =>
      obtain ⟨pre, post, h1, h2, h3⟩ := remF_split listed as (k + 1) i x (by simpa using h) (by rw [show k + 1 + i = k + (i + 1) by omega]; exact hl)
      rw [show k + 1 + i = k + (i + 1) by omega] at h2
      have hne : (listed.setIfInBounds (k + (i + 1)) true).getD k true = listed.getD k true := _root_.Go.getD_set_ne true (by omega)
      simp only [remF]
      rw [hne]
      by_cases hy : listed.getD k true = true
      · refine ⟨pre, post, by rw [if_pos hy, h1], by rw [if_pos hy, h2], fun p hp => ?_⟩
        obtain ⟨j, j1, j2, j3⟩ := h3 p hp
        exact ⟨j + 1, by omega, by rw [show k + (j + 1) = k + 1 + j by omega]; exact j2, by simpa using j3⟩
      · refine ⟨y :: pre, post, by rw [if_neg hy, h1]; rfl, by rw [if_neg hy, h2]; rfl, fun p hp => ?_⟩
        rcases List.mem_cons.1 hp with rfl | hp
        · exact ⟨0, by omega, by simpa using hy, rfl⟩
        · obtain ⟨j, j1, j2, j3⟩ := h3 p hp
          exact ⟨j + 1, by omega, by rw [show k + (j + 1) = k + 1 + j by omega]; exact j2, by simpa using j3⟩

/-- Who has come up, had all that it waits for behind it. -/
def Closed (ops : Array Oper) (listed : Array Bool) : Prop := ∀ (m : Nat) (o : Oper), ops[m]? = some o → listed.getD m false = true → ∀ e ∈ o.after, Region.binds .any e = true → listed.getD e.on false = true
theorem foldr_bits (r : List Nat) (j : Nat) : ∀ (es : List Edge), (es.foldr (fun e acc => if Region.binds .any e then 2 ^ e.on ||| (r[e.on]?).getD 0 ||| acc else acc) 0).testBit j = true → ∃ e ∈ es, Region.binds .any e = true ∧ (e.on = j ∨ ((r[e.on]?).getD 0).testBit j = true)
  | [], h => by simp at h
  | e :: es, h => by
    simp only [List.foldr_cons] at h
    have rest : (es.foldr (fun e acc => if Region.binds .any e then 2 ^ e.on ||| (r[e.on]?).getD 0 ||| acc else acc) 0).testBit j = true → ∃ e' ∈ e :: es, Region.binds .any e' = true ∧ (e'.on = j ∨ ((r[e'.on]?).getD 0).testBit j = true) := fun h => by
      obtain ⟨e', h1, h2⟩ := foldr_bits r j es h
      exact ⟨e', List.mem_cons_of_mem _ h1, h2⟩
    split at h
    · rename_i hb
      rw [Nat.testBit_or, Nat.testBit_or, Nat.testBit_two_pow] at h
      simp only [Bool.or_eq_true, decide_eq_true_eq] at h
      rcases h with (h | h) | h
      · exact ⟨e, by simp, hb, .inl h⟩
      · exact ⟨e, by simp, hb, .inr h⟩
      · exact rest h
    · exact rest h
theorem reachB_spec {ops : Array Oper} {listed : Array Bool} (hcl : Closed ops listed) (hlow : ∀ (m : Nat) (o : Oper), ops[m]? = some o → ∀ e ∈ o.after, Region.binds .any e = true → e.on < m) :
    ∀ (n : Nat), (reachB ops n).length = n ∧ ∀ (i : Nat) (q : Nat) (o : Oper), (reachB ops n)[i]? = some q → ops[i]? = some o → (∀ e ∈ o.after, Region.binds .any e = true → listed.getD e.on false = true) → ∀ j, q.testBit j = true → listed.getD j false = true
  | 0 => by simp [reachB]
  | n + 1 => by
    obtain ⟨h1, h2⟩ := reachB_spec hcl hlow n
    have hlast : ∃ q, reachB ops (n + 1) = reachB ops n ++ [q] ∧ ∀ o, ops[n]? = some o → q = o.after.toList.foldr (fun e acc => if Region.binds .any e then 2 ^ e.on ||| ((reachB ops n)[e.on]?).getD 0 ||| acc else acc) 0 := by
      simp only [reachB]
      cases ho : ops[n]? with
      | none => exact ⟨0, rfl, fun o h => by cases h⟩
      | some o => exact ⟨_, rfl, fun o' h => by cases h; rfl⟩
    obtain ⟨l, e1, e2⟩ := hlast
    rw [e1]
    refine ⟨by simp [h1], fun i q o hq ho hall j hj => ?_⟩
    by_cases hi : i < n
    · rw [List.getElem?_append_left (by omega)] at hq
      exact h2 i q o hq ho hall j hj
    · have : i = n := by
        have := (List.getElem?_eq_some_iff.1 hq).1
        simp [h1] at this; omega
      subst this
      rw [List.getElem?_append_right (by omega), h1] at hq
      simp at hq
      subst hq
      rw [e2 o ho] at hj
      obtain ⟨e, hea, heb, hor⟩ := foldr_bits _ j _ hj
      have hea' : e ∈ o.after := Array.mem_toList_iff.1 hea
      have hon := hall e hea' heb
      rcases hor with rfl | hjr
      · exact hon
      · cases hx : (reachB ops i)[e.on]? with
        | none => rw [hx] at hjr; simp at hjr
        | some l2 =>
          rw [hx] at hjr
          simp at hjr
          have hlt : e.on < ops.size := Nat.lt_trans (hlow i o ho e hea' heb) (Array.getElem?_eq_some_iff.1 ho).1
          exact h2 e.on l2 ops[e.on] hx (Array.getElem?_eq_getElem hlt) (hcl e.on _ (Array.getElem?_eq_getElem hlt) hon) j hjr

theorem getD_tf {listed : Array Bool} {i : Nat} (hi : i < listed.size) : listed.getD i true = listed.getD i false := by simp [Array.getD_eq_getD_getElem?, hi]

/-- In whatever order. -/
theorem region_drawn {I : Inv} {ops : Array Oper} {hh : Nat → Hint} {Q : Exit → Act → World → Prop} {as : List AOp} (hc : cOps P ops hh 0 ops.toList = some as) (hd : drawOk ops as = true) :
    ∀ (fuel : Nat) (listed : Array Bool) (w : World) (G β : Nat → Nat) (ω : Nat → Option Occ) (σ σf : Fr) (a : Act), listed.size = ops.size → Closed ops listed → (remF listed 0 as).length ≤ fuel → FRel w G β ω σ a.tmps → I.on w ω → (∀ o ∈ as, ∀ d ∈ o.wrs, d < a.tmps.size) →
      ASteps (ACallI I P) (remF listed 0 as) σ σf → Ends w G β ω a σ σf Q → wpAny P .any ops Q fuel listed a w := by
  obtain ⟨hl, hget⟩ := cOps_get ops.toList 0 as hc
  have hlen : as.length = ops.size := by simpa using hl
  simp only [drawOk, Bool.and_eq_true, List.all_eq_true, List.mem_range] at hd
  obtain ⟨hd1, hd2⟩ := hd
  have hlow : ∀ (m : Nat) (o : Oper), ops[m]? = some o → ∀ e ∈ o.after, Region.binds .any e = true → e.on < m := by
    intro m o ho e he hb
    have hm := (Array.getElem?_eq_some_iff.1 ho).1
    have := hd1 m hm
    rw [ho] at this
    simp only [Array.all_eq_true_iff_forall_mem, Bool.or_eq_true, Bool.not_eq_true', decide_eq_true_eq] at this
    rcases this e he with h | h
    · rw [hb] at h; cases h
    · exact h
  -- who stands first among those that have not come up may come up
  have first : ∀ (listed : Array Bool), listed.size = ops.size → remF listed 0 as ≠ [] → Region.ready .any ops listed ≠ [] := by
    intro listed hsz hne hr
    have hex : ∃ i, i < ops.size ∧ listed.getD i true = false := by
      have : ∀ (as' : List AOp) (k : Nat), remF listed k as' ≠ [] → ∃ i, i < as'.length ∧ listed.getD (k + i) true = false := by
        intro as'
        induction as' with
        | nil => intro k h; simp [remF] at h
        | cons x xs ih =>
          intro k h
          simp only [remF] at h
          split at h
          · obtain ⟨i, h1, h2⟩ := ih (k + 1) h
            exact ⟨i + 1, by simp; omega, by rw [show k + (i + 1) = k + 1 + i by omega]; exact h2⟩
          · rename_i hf
            exact ⟨0, by simp, by simpa using hf⟩
      obtain ⟨i, h1, h2⟩ := this as 0 hne
      exact ⟨i, by omega, by simpa using h2⟩
    -- the least one
    have least : ∃ i, i < ops.size ∧ listed.getD i true = false ∧ ∀ j, j < i → listed.getD j true = true := by
      obtain ⟨i, hi⟩ := hex
      induction i using Nat.strongRecOn with
      | _ i ih =>
        by_cases hall : ∀ j, j < i → listed.getD j true = true
        · exact ⟨i, hi.1, hi.2, hall⟩
        · simp only [Classical.not_forall] at hall
          obtain ⟨j, hj, hjf⟩ := hall
          exact ih j hj ⟨by omega, by simpa using hjf⟩
    obtain ⟨i, hi, hif, hall⟩ := least
    have : i ∈ Region.ready .any ops listed := mem_ready.2 ⟨hif, ops[i], Array.getElem?_eq_getElem hi, fun e he hb => by
      have hlt := hlow i _ (Array.getElem?_eq_getElem hi) e he hb
      rw [← getD_tf (by omega)]
      exact hall e.on hlt⟩
    rw [hr] at this
    cases this
  intro fuel
  induction fuel with
  | zero =>
    intro listed w G β ω σ σf a hsz hcl hf hF hI hwr hs hE
    have hnil : remF listed 0 as = [] := List.eq_nil_of_length_eq_zero (by omega)
    rw [hnil] at hs
    cases hs
    refine ⟨?_, hE a w G β ω (.refl _ _ _) (fun _ _ => rfl) hF rfl rfl⟩
    cases hr : Region.ready .any ops listed with
    | nil => rfl
    | cons i r =>
      have hm : i ∈ Region.ready .any ops listed := by rw [hr]; simp
      obtain ⟨hun, o, ho, _⟩ := mem_ready.1 hm
      have hi : i < as.length := by rw [hlen]; exact (Array.getElem?_eq_some_iff.1 ho).1
      obtain ⟨pre, post, h1, _⟩ := remF_split listed as 0 i _ (List.getElem?_eq_getElem hi) (by simpa using hun)
      rw [hnil] at h1
      simp at h1
  | succ fuel ih =>
    intro listed w G β ω σ σf a hsz hcl hf hF hI hwr hs hE
    refine ⟨fun hr => ?_, fun i hi => ?_⟩
    · by_cases hne : remF listed 0 as = []
      · rw [hne] at hs
        cases hs
        exact hE a w G β ω (.refl _ _ _) (fun _ _ => rfl) hF rfl rfl
      · exact absurd hr (first listed hsz hne)
    · obtain ⟨hun, o, ho, hall⟩ := mem_ready.1 hi
      have hio : i < ops.size := (Array.getElem?_eq_some_iff.1 ho).1
      obtain ⟨gs, ao, e1, e2, e3⟩ := hget i o (by rw [Array.getElem?_toList]; exact ho)
      obtain ⟨pre, post, h1, h2, h3⟩ := remF_split listed as 0 i ao e1 (by simpa using hun)
      have hind : ∀ p ∈ pre, indep ao p = true := by
        intro p hp
        obtain ⟨j, hj, hju, hjp⟩ := h3 p hp
        have := hd2 i (by omega) j hj
        simp only [Bool.or_eq_true] at this
        rcases this with h | h
        · exfalso
          obtain ⟨_, hspec⟩ := reachB_spec hcl hlow ops.size
          cases hx : (reachB ops ops.size)[i]? with
          | none => rw [hx] at h; simp at h
          | some l =>
            rw [hx] at h
            simp at h
            have hjt := hspec i l o hx ho (fun e he hb => hall e he hb) j h
            simp only [Nat.zero_add] at hju
            rw [getD_tf (by omega), hjt] at hju
            cases hju
        · rw [e1, hjp] at h; exact h
      rw [h1] at hs
      obtain ⟨τ, ht1, ht2⟩ := bubble pre post σ σf hind hs
      refine op_step ho e2 e3 hF hI (hwr ao (List.mem_of_getElem? e1)) ht1 (fun v w' G' β' ω' hr hb hF' => ?_)
      simp only [Nat.zero_add] at h2
      refine ih (listed.setIfInBounds i true) w' G' β' ω' τ σf _ (by simpa using hsz) (fun m om hom hmt e he hb => ?_) ?_ hF' (I.reach hI hr) (fun o ho d hd => by rw [put_size]; exact hwr o ho d hd) (by rw [h2]; exact ht2) (hE.step hr hb ht1 _ _)
      · by_cases hmi : m = i
        · subst hmi
          rw [ho] at hom; cases hom
          have := hall e he hb
          by_cases hei : e.on = m
          · exact absurd (hlow m o ho e he hb) (by omega)
          · rw [_root_.Go.getD_set_ne false (Ne.symm hei)]; exact this
        · rw [_root_.Go.getD_set_ne false (Ne.symm hmi)] at hmt
          have := hcl m om hom hmt e he hb
          by_cases hei : e.on = i
          · rw [hei]; simp [Array.getD_eq_getD_getElem?, hsz, hio]
          · rw [_root_.Go.getD_set_ne false (Ne.symm hei)]; exact this
      · rw [h2]
        rw [h1] at hf
        simp at hf ⊢
        omega
end
end Go.AR
