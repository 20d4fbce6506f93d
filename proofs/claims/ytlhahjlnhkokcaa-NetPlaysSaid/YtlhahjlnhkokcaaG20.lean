import Derived.Test.YtlhahjlnhkokcaaG15
import Derived.Test.YtlhahjlnhkokcaaG16
import Derived.Test.YtlhahjlnhkokcaaG18
import Derived.Test.YtlhahjlnhkokcaaG19
set_option linter.all false
/-! Each operation that is translated, and is no call, does in the model what it does in the abstract machine. -/
namespace Go.AR
open Go
section ops
variable {P : Program} {w : World} {G β : Nat → Nat} {ω : Nat → Option Occ} {σ σ' : Fr} {a : Act} {o : Oper} {h : Hint} {gs : Option (Nat × Bool)} {ao : AOp}

theorem semOp_inv (hs : semOp ao σ = some σ') : ∃ v ws bs, sem ao.k ao.dst ao.mr ao.mw (ao.rd.map (·.ev σ.tmps)) (ao.mr.map (get σ.mem)) (ao.mw.map (get σ.mem)) = some (v, ws, bs) ∧
    σ' = { tmps := setAll (σ.put ao.dst v).tmps ao.wb ws, mem := setAll σ.mem ao.mw bs } := by
  unfold semOp at hs
  split at hs
  · rename_i v ws bs he
    exact ⟨v, ws, bs, he, by simpa using hs.symm⟩
  · cases hs
theorem fin_put {v : TV} {d : Option Nat} (is js : List Nat) : ({ tmps := setAll (σ.put d v).tmps is [], mem := setAll σ.mem js [] } : Fr) = σ.put d v := by
  rw [setAll_nil, setAll_nil]
  cases d <;> rfl

/-- The hypotheses that all cases share. -/
structure Ctx (P : Program) (w : World) (G β : Nat → Nat) (ω : Nat → Option Occ) (σ : Fr) (a : Act) (o : Oper) (ao : AOp) : Prop where
  F : FRel w G β ω σ a.tmps
  sz : ∀ d ∈ ao.wrs, d < a.tmps.size
  dst : ao.dst = o.dst
theorem Ctx.d (c : Ctx P w G β ω σ a o ao) : ∀ d, o.dst = some d → d < a.tmps.size := fun d hd => c.sz d (by simp [AOp.wrs, c.dst, hd])

theorem s_cp {x : Operand} {y : Opnd} (ho : o.op = .move x ∨ o.op = .assign x) (hy : OOk x y) (hao : ao = mkA h o [y] .cp gs) (c : Ctx P w G β ω σ a o ao) (hs0 : semOp ao σ = some σ') : StepOk P w G ω β a o σ σ' := by
  obtain ⟨v, ws, bs, hs, rfl⟩ := semOp_inv hs0; clear hs0
  subst hao
  simp [mkA, sem] at hs
  obtain ⟨rfl, rfl, rfl⟩ := hs
  rw [fin_put]
  exact ok_cp c.F c.d ho hy
theorem s_junk {x : Operand} (ho : o.op = .move x ∨ o.op = .assign x) (hao : ao = mkA h o [] .junk gs) (c : Ctx P w G β ω σ a o ao) (hs0 : semOp ao σ = some σ') : StepOk P w G ω β a o σ σ' := by
  obtain ⟨v, ws, bs, hs, rfl⟩ := semOp_inv hs0; clear hs0
  subst hao
  simp [mkA, sem] at hs
  obtain ⟨rfl, rfl, rfl⟩ := hs
  rw [fin_put]
  exact .pure (v := a.eval x) c.F c.d (by rcases ho with ho | ho <;> simp [execOp, ho]) (fun _ => trivial) (fun s e => by cases e)
theorem nil_opnd {t : TypeId} {x : Operand} {n : Nat} (h : cOpnd P t x = some (.c (.sl n []))) : x = .const (.slice none 0 0) := by
  cases x with
  | const v =>
    simp only [cOpnd, Option.map_eq_some_iff] at h
    obtain ⟨p, hp, e⟩ := h
    cases e
    unfold cConst at hp
    split at hp
    · simp at hp
    · unfold cVal at hp
      split at hp <;> simp at hp
      rfl
  | _ => simp [cOpnd] at h
theorem s_nils {t : TypeId} {x : Operand} {n : Nat} (ho : o.op = .move x ∨ o.op = .assign x) (hx : cOpnd P t x = some (.c (.sl n []))) (hao : ao = mkA h o [] (.nils n) gs) (c : Ctx P w G β ω σ a o ao) (hs0 : semOp ao σ = some σ') : StepOk P w G ω β a o σ σ' := by
  obtain ⟨v, ws, bs, hs, rfl⟩ := semOp_inv hs0; clear hs0
  subst hao
  have := nil_opnd hx
  subst this
  simp [mkA, sem] at hs
  obtain ⟨rfl, rfl, rfl⟩ := hs
  rw [fin_put]
  refine .pure (v := .slice none 0 0) c.F c.d ?_ (fun d => ?_) (fun s e => by cases e)
  · rcases ho with ho | ho <;> simp [execOp, ho, Act.eval]
  · exact ⟨0, [], World.ownsRow_nil _ _ _ _, by simp, by simp, by simp, by simp, fun g hg => by simp [Value.ownBlock] at hg⟩
theorem s_mv {s : Nat} (ho : o.op = .move (.tmp s) ∨ o.op = .assign (.tmp s)) (hao : ao = { mkA h o [.t s] .mv gs with wb := [s] }) (hne : o.dst ≠ some s) (c : Ctx P w G β ω σ a o ao) (hs0 : semOp ao σ = some σ') : StepOk P w G ω β a o σ σ' := by
  obtain ⟨v, ws, bs, hs, rfl⟩ := semOp_inv hs0; clear hs0
  have hsz := c.sz s (by subst hao; simp [AOp.wrs])
  subst hao
  simp [mkA, sem, Opnd.ev] at hs
  obtain ⟨rfl, rfl, rfl⟩ := hs
  cases hd : o.dst with
  | none =>
    have h0 := c.F.tmp s
    -- nothing is written, but the right may be given up
    refine ⟨.value (a.eval (.tmp s)), a.eval (.tmp s), w, G, β, ω, ?_, .inl rfl, .refl _ _ _, fun b hb => .inl hb, fun _ _ => rfl, ?_⟩
    · rcases ho with ho | ho <;> simp [execOp, ho]
    · have : (a.put o.dst (a.eval (.tmp s))).tmps = a.tmps := by rw [hd]; rfl
      rw [this]
      simp only [mkA, hd, Fr.put, setAll]
      refine ⟨fun t => ?_, fun t s' h => ?_, c.F.blk, c.F.gnew, c.F.ωnew⟩
      · rw [tget_set]
        split
        · rename_i e; subst e; exact (c.F.tmp t).ro
        · exact c.F.tmp t
      · rw [tget_set] at h
        split at h
        · rename_i e
          exact c.F.live s _ (TV.rf_ro h)
        · exact c.F.live t _ h
  | some d =>
    have := ok_mv (P := P) (o := o) c.F (c.d d hd) hsz hd (fun e => hne (by rw [hd, e])) ho
    simpa [mkA, hd, Fr.put, setAll] using this
theorem s_pick {x y z : Operand} {x' y' z' : Opnd} (ho : o.op = .pick x y z) (hx : OOk x x') (hy : OOk y y') (hz : OOk z z') (hao : ao = mkA h o [x', y', z'] .pick gs) (c : Ctx P w G β ω σ a o ao) (hs0 : semOp ao σ = some σ') : StepOk P w G ω β a o σ σ' := by
  obtain ⟨v, ws, bs, hs, rfl⟩ := semOp_inv hs0; clear hs0
  subst hao
  simp only [mkA, List.map_cons, List.map_nil] at hs
  generalize hb : x'.ev σ.tmps = vx at hs
  match vx, hs with
  | .val (.bool b), hs =>
    simp [sem] at hs
    obtain ⟨rfl, rfl, rfl⟩ := hs
    rw [fin_put]
    exact ok_pick c.F c.d ho hx hy hz hb
theorem s_alloc {e : TypeId} {zs : List PV} {d : Nat} (ho : o.op = .alloc e) (hz : zeroC P e = some zs) (hd : o.dst = some d) (hao : ao = { mkA h o [] (.alloc (zs.map PV.z)) gs with mw := [d] }) (c : Ctx P w G β ω σ a o ao) (hs0 : semOp ao σ = some σ') : StepOk P w G ω β a o σ σ' := by
  obtain ⟨v, ws, bs, hs, rfl⟩ := semOp_inv hs0; clear hs0
  subst hao
  simp only [mkA, List.map_nil, List.map_cons, hd] at hs
  generalize hm : get σ.mem d = ob at hs
  cases ob with
  | some b => simp [sem] at hs
  | none =>
    simp [sem] at hs
    obtain ⟨rfl, rfl, rfl⟩ := hs
    simpa [mkA, hd, Fr.put, setAll] using ok_alloc (P := P) (e0 := none) rfl c.F (c.d d hd) hd hm ho hz
theorem s_alloct {e : TypeId} {zs : List PV} {d : Nat} (ho : o.op = .alloc e) (hz : zeroC P e = some zs) (hd : o.dst = some d) (hao : ao = { mkA h o [] (.alloct e (zs.map (PV.zE (elemT P e)))) gs with mw := [d] }) (c : Ctx P w G β ω σ a o ao) (hs0 : semOp ao σ = some σ') : StepOk P w G ω β a o σ σ' := by
  obtain ⟨v, ws, bs, hs, rfl⟩ := semOp_inv hs0; clear hs0
  subst hao
  simp only [mkA, List.map_nil, List.map_cons, hd] at hs
  generalize hm : get σ.mem d = ob at hs
  cases ob with
  | some b => simp [sem] at hs
  | none =>
    simp [sem] at hs
    obtain ⟨rfl, rfl, rfl⟩ := hs
    simpa [mkA, hd, Fr.put, setAll] using ok_alloc (P := P) (e0 := some e) rfl c.F (c.d d hd) hd hm ho hz
theorem s_box {e : TypeId} {x : Operand} {x' : Opnd} {d : Nat} (ho : o.op = .box e x) (hx : OOk x x') (hd : o.dst = some d) (hao : ao = { mkA h o [x'] .box gs with mw := [d] }) (c : Ctx P w G β ω σ a o ao) (hs0 : semOp ao σ = some σ') : StepOk P w G ω β a o σ σ' := by
  obtain ⟨v, ws, bs, hs, rfl⟩ := semOp_inv hs0; clear hs0
  subst hao
  simp only [mkA, List.map_nil, List.map_cons, hd] at hs
  generalize hm : get σ.mem d = ob at hs
  cases ob with
  | some b => simp [sem] at hs
  | none =>
    simp only [sem] at hs
    split at hs
    · rename_i d1 d2 p e1 e2 _ hp
      cases e1
      simp at e2; subst e2
      split at hs
      · rename_i cs hc
        simp at hs
        obtain ⟨rfl, rfl, rfl⟩ := hs
        simpa [mkA, hd, Fr.put, setAll] using ok_box (P := P) c.F (c.d d hd) hd hm ho hx hp hc
      · cases hs
    · cases hs
theorem s_boxt {e : TypeId} {x : Operand} {x' : Opnd} {d : Nat} (ho : o.op = .box e x) (hx : OOk x x') (hd : o.dst = some d) (hao : ao = { mkA h o [x'] .boxt gs with mw := [d] }) (c : Ctx P w G β ω σ a o ao) (hs0 : semOp ao σ = some σ') : StepOk P w G ω β a o σ σ' := by
  obtain ⟨v, ws, bs, hs, rfl⟩ := semOp_inv hs0; clear hs0
  subst hao
  simp only [mkA, List.map_nil, List.map_cons, hd] at hs
  generalize hm : get σ.mem d = ob at hs
  have h0 := hx.trep c.F
  generalize x'.ev σ.tmps = tv at hs h0
  cases tv <;> try (simp [sem] at hs; done)
  rename_i ps ns
  cases ob with
  | some b => simp [sem] at hs
  | none =>
    simp [sem] at hs
    obtain ⟨rfl, rfl, rfl⟩ := hs
    obtain ⟨hrep, xs, ex, hns⟩ := h0
    obtain ⟨vs, e1, hl, hr, h1⟩ := Rep.agg_inv hrep
    have hxs : xs = vs := Value.agg.inj (ex.symm.trans e1)
    subst hxs
    have hcs : (a.eval x).cells = xs := by rw [e1]; rfl
    have := ok_newblk (P := P) (o := o) (zs := tagT ps ns 0) (arr := (a.eval x).cells) (e := e) (e0 := none) c.F (c.d d hd) hd hm (by simp [execOp, ho, Instr.box, newVar, newRow]) (by rw [hcs, hl, tagT_len]) (fun i t u ht hu => by
      rw [hcs] at hu
      have hil : i < ps.length := by rw [← hl]; exact (Array.getElem?_eq_some_iff.1 hu).1
      have hri := hr i _ u (List.getElem?_eq_getElem hil) hu
      have h1i := h1 _ (List.getElem_mem hil)
      rw [tagT_get, List.getElem?_eq_getElem (by omega)] at ht
      simp only [Nat.zero_add, Option.map_some, Option.some.injEq] at ht
      split at ht
      · rename_i hc
        have hu0 : u = .slice none 0 0 := by
          have := hns i (by simpa using hc)
          rw [hu] at this
          exact Option.some.inj this
        have vcase : ∀ q, q = ps[i] → t = .val q → (∃ p, t = .val p ∧ Rep w G p u ∧ p.one = true) ∨ (∃ eo c, t = .ownE eo c [] ∧ u = .slice none 0 0) := fun q e1 e2 => by
          subst e1; subst e2
          exact .inl ⟨_, rfl, hri, h1i⟩
        unfold nilTV at ht
        split at ht
        · subst ht; subst hu0
          exact .inr ⟨none, _, rfl, rfl⟩
        · exact vcase _ rfl ht.symm
      · subst ht
        exact .inl ⟨_, rfl, hri, h1i⟩) rfl
    simpa [mkA, hd, Fr.put, setAll] using this
theorem s_build {t : TypeId} {parts : Array (Nat × Operand)} {zs : List PV} {xs : List Opnd} {pl : List (Nat × Nat)} (ho : o.op = .build t parts) (hz : zeroC P t = some zs) (hc : cParts P (places P t) parts.toList = some (xs, pl)) (hp : placesOk P t = true)
    (hao : ao = mkA h o xs (.build zs pl) gs) (c : Ctx P w G β ω σ a o ao) (hs0 : semOp ao σ = some σ') : StepOk P w G ω β a o σ σ' := by
  obtain ⟨v, ws, bs, hs, rfl⟩ := semOp_inv hs0; clear hs0
  subst hao
  simp only [mkA, sem] at hs
  split at hs
  · rename_i cs hf
    simp at hs
    obtain ⟨rfl, rfl, rfl⟩ := hs
    rw [fin_put]
    exact ok_build c.F c.d ho hz hp hc hf
  · cases hs
theorem s_buildt {t : TypeId} {parts : Array (Nat × Operand)} {zs : List PV} {xs : List Opnd} {pl : List (Nat × Nat)} (ho : o.op = .build t parts) (hz : zeroC P t = some zs) (hc : cParts P (places P t) parts.toList = some (xs, pl)) (hp : placesOk P t = true)
    (hao : ao = mkA h o xs (.buildt zs pl) gs) (c : Ctx P w G β ω σ a o ao) (hs0 : semOp ao σ = some σ') : StepOk P w G ω β a o σ σ' := by
  obtain ⟨v, ws, bs, hs, rfl⟩ := semOp_inv hs0; clear hs0
  subst hao
  simp only [mkA, sem] at hs
  split at hs
  · rename_i cs hf
    simp at hs
    obtain ⟨rfl, rfl, rfl⟩ := hs
    rw [fin_put]
    exact ok_buildt c.F c.d ho hz hp hc hf
  · cases hs
theorem s_bslice {t e : TypeId} {len n : Nat} {parts : Array (Nat × Operand)} {zs : List PV} {xs : List Opnd} {pl : List (Nat × Nat)} (ho : o.op = .buildSlice t len parts) (hu : P.underlying t = some (.slice e)) (hn : szT P e = some n) (hz : zeroC P e = some zs)
    (hc : cParts P (fun i => some (i * n, n, e)) parts.toList = some (xs, pl)) (hb : 0 < len ∧ 0 < n ∧ zs.length = n ∧ len * n ≤ 2 ^ 20)
    (hao : ao = mkA h o xs (.bslice n ((List.replicate len zs).flatten) pl) gs) (c : Ctx P w G β ω σ a o ao) (hd : o.dst ≠ none) (hs0 : semOp ao σ = some σ') : StepOk P w G ω β a o σ σ' := by
  obtain ⟨v, ws, bs, hs, rfl⟩ := semOp_inv hs0; clear hs0
  subst hao
  simp only [mkA, sem] at hs
  split at hs
  · rename_i cs hf
    simp at hs
    obtain ⟨rfl, rfl, rfl⟩ := hs
    rw [fin_put]
    cases hdd : o.dst with
    | none => exact absurd hdd hd
    | some d =>
      have := ok_bslice (P := P) c.F (c.d d hdd) hdd ho hu hn hz hc hb hf
      simpa [mkA, hdd, Fr.put] using this
  · cases hs
theorem s_load {t : TypeId} {x : Operand} {x' : Opnd} {g : Bool} {n : Nat} (ho : o.op = .load t x) (hx : OOk x x') (hg : isAggT P t = some g) (hn : szT P t = some n) (hao : ao = { mkA h o [x'] (.load g n) gs with mr := h.mr }) (c : Ctx P w G β ω σ a o ao)
    (hs0 : semOp ao σ = some σ') : StepOk P w G ω β a o σ σ' := by
  obtain ⟨v, ws, bs, hs, rfl⟩ := semOp_inv hs0; clear hs0
  subst hao
  simp only [mkA, List.map_nil, List.map_cons] at hs
  obtain ⟨rfl, rfl, hok⟩ := ok_load (P := P) c.F c.d ho hg hn hx hs
  rw [fin_put]
  exact hok
theorem s_ltake {t : TypeId} {x : Operand} {x' : Opnd} (ho : o.op = .load t x) (hx : OOk x x') (hg : isAggT P t = some false) (hao : ao = { mkA h o [x'] .ltake gs with mw := h.mw }) (c : Ctx P w G β ω σ a o ao) (hd : o.dst ≠ none)
    (hs0 : semOp ao σ = some σ') : StepOk P w G ω β a o σ σ' := by
  obtain ⟨v, ws, bs, hs, rfl⟩ := semOp_inv hs0; clear hs0
  subst hao
  simp only [mkA, List.map_nil, List.map_cons] at hs
  cases hdd : o.dst with
  | none => exact absurd hdd hd
  | some d =>
    generalize hp : x'.ev σ.tmps = vx at hs
    rcases hmw : h.mw with _ | ⟨s', _ | ⟨s2, ms⟩⟩ <;> rw [hmw] at hs
    · cases vx <;> simp [sem] at hs
    · simp only [List.map_cons, List.map_nil] at hs
      generalize hb : get σ.mem s' = ob at hs
      rcases vx with p | ⟨e1, cc, r⟩ | ⟨s, off⟩ | ⟨cs, off⟩ | _ | _ <;> try (simp [sem] at hs; done)
      rcases ob with _ | (⟨e0, cs⟩ | cs | ⟨l, pos⟩ | kvs) <;> try (simp [sem] at hs; done)
      · simp only [sem] at hs
        split at hs
        · rename_i e; subst e
          split at hs
          · rename_i cc r hc
            simp at hs
            obtain ⟨rfl, rfl, rfl⟩ := hs
            have := ok_ltake (P := P) c.F (c.d d hdd) hdd ho hg hx hp hb hc
            simpa [mkA, hdd, hmw, Fr.put, setAll] using this
          · cases hs
        · cases hs
    · cases vx <;> simp [sem] at hs
theorem layT_get : ∀ (ps : List PV) (cs : List TV) (m i : Nat), (layT cs m ps)[i]? = if m ≤ i ∧ i < m + ps.length ∧ i < cs.length then (ps[i - m]?).map .val else cs[i]?
  | [], cs, m, i => by simp [layT]; omega
  | p :: ps, cs, m, i => by
    simp only [layT]
    rw [layT_get ps (cs.set m (.val p)) (m + 1) i]
    simp only [List.length_set, List.length_cons]
    by_cases h1 : i = m
    · subst h1
      rw [if_neg (by omega), List.getElem?_set]
      by_cases h2 : i < cs.length
      · rw [if_pos rfl, if_pos h2, if_pos ⟨Nat.le_refl _, by omega, h2⟩]; simp
      · rw [if_pos rfl, if_neg h2, if_neg (by omega)]; simp [List.getElem?_eq_none (show cs.length ≤ i by omega)]
    · by_cases h2 : m + 1 ≤ i ∧ i < m + 1 + ps.length ∧ i < cs.length
      · rw [if_pos h2, if_pos (by omega)]
        obtain ⟨k, rfl⟩ : ∃ k, i = m + 1 + k := ⟨i - (m + 1), by omega⟩
        rw [show m + 1 + k - (m + 1) = k by omega, show m + 1 + k - m = k + 1 by omega]; simp
      · rw [if_neg h2, List.getElem?_set, if_neg (fun e => h1 e.symm)]
        by_cases h3 : m ≤ i ∧ i < m + (ps.length + 1) ∧ i < cs.length
        · omega
        · rw [if_neg h3]
theorem layT_len : ∀ (ps : List PV) (cs : List TV) (m : Nat), (layT cs m ps).length = cs.length
  | [], _, _ => rfl
  | p :: ps, cs, m => by simp only [layT]; rw [layT_len ps]; simp
theorem s_store {t : TypeId} {x y : Operand} {x' y' : Opnd} {g : Bool} {n : Nat} (ho : o.op = .store t x y) (hx : OOk x x') (hy : OOk y y') (hg : isAggT P t = some g) (hn : szT P t = some n) (hgn : g = true ∨ n = 1) (hdst : o.dst = none)
    (hao : ao = { mkA h o [x', y'] (.store g n) gs with mw := h.mw, wb := y'.wb }) (c : Ctx P w G β ω σ a o ao) (hs0 : semOp ao σ = some σ') : StepOk P w G ω β a o σ σ' := by
  obtain ⟨v, ws, bs, hs, rfl⟩ := semOp_inv hs0; clear hs0
  subst hao
  simp only [mkA, List.map_nil, List.map_cons] at hs
  have hyr := hy.trep c.F
  generalize hp : x'.ev σ.tmps = vx at hs
  generalize hq : y'.ev σ.tmps = vy at hs hyr
  rcases hmw : h.mw with _ | ⟨s', _ | ⟨s2, ms⟩⟩ <;> rw [hmw] at hs
  · cases vx <;> simp [sem] at hs
  · simp only [List.map_cons, List.map_nil] at hs
    generalize hb : get σ.mem s' = ob at hs
    have fin : ∀ e0 cs', bs = [.cellsE e0 cs'] → ws = [vy.ro] → StepOk P w G ω β a o σ { tmps := srcSet σ.tmps y' (y'.ev σ.tmps).ro, mem := set σ.mem s' (.cellsE e0 cs') } →
        StepOk P w G ω β a o σ { tmps := setAll (σ.put (mkA h o [x', y'] (.store g n) gs).dst v).tmps y'.wb ws, mem := setAll σ.mem [s'] bs } := by
      intro e0 cs' h1 h2 h3
      subst h1; subst h2
      rw [hq] at h3
      cases y' with
      | t q => simpa [mkA, hdst, Fr.put, setAll, srcSet, Opnd.wb] using h3
      | c p => simpa [mkA, hdst, Fr.put, setAll, srcSet, Opnd.wb] using h3
    rcases vx with p | ⟨e1, cc, r⟩ | ⟨s, off⟩ | ⟨cs, off⟩ | _ | _ <;> try (simp [sem] at hs; done)
    rcases ob with _ | (⟨e0, cs⟩ | cs | ⟨l, pos⟩ | kvs) <;> try (simp [sem] at hs; done)
    · simp only [sem] at hs
      split at hs
      · rename_i e; subst e
        cases g with
        | true =>
          simp only [if_true] at hs
          rcases vy with (_ | _ | _ | _ | _ | ps | _ | _ | _) | ⟨e1, cc, r⟩ | ⟨s2, off2⟩ | ⟨cs2, off2⟩ | _ | _ <;> try (simp at hs; done)
          · simp only at hs
            split at hs
            · rename_i hcond
              obtain ⟨hpl, hle⟩ := hcond
              simp at hs
              obtain ⟨rfl, rfl, rfl⟩ := hs
              refine fin _ _ rfl rfl ?_
              obtain ⟨vs, e1, hl, hr, h1⟩ := Rep.agg_inv (id hyr : Rep w G (.agg ps) (a.eval y))
              have hcs : (a.eval y).cells = vs := by rw [e1]; rfl
              refine ok_storeN c.F hdst ho hx hy hp hb (by rw [hcs, hl, hpl]; exact hn) (layT_len _ _ _) (by rw [hcs, hl, hpl]; exact hle) (fun u hu => ?_) (fun i hi => ?_) (fun w' G' ω' hext _ i tv u ht hu => ?_)
              · rw [hcs] at hu
                obtain ⟨j, hj⟩ := List.getElem?_of_mem hu
                have hjl : j < ps.length := by rw [← hl]; have := (List.getElem?_eq_some_iff.1 hj).1; simpa using this
                exact one_oneCell (hr j _ u (List.getElem?_eq_getElem hjl) (by simpa using hj)) (h1 _ (List.getElem_mem _))
              · rw [hcs, hl] at hi
                rw [layT_get, if_neg (by omega)]
              · rw [hcs] at hu
                have hil : i < ps.length := by rw [← hl]; exact (Array.getElem?_eq_some_iff.1 hu).1
                rw [layT_get, if_pos ⟨by omega, by omega, by omega⟩, show off + i - off = i by omega, List.getElem?_eq_getElem hil] at ht
                simp at ht; subst ht
                exact ⟨(hr i _ u (List.getElem?_eq_getElem hil) hu).mono hext, h1 _ (List.getElem_mem _)⟩
            · cases hs
          · rename_i ps ns
            simp only at hs
            split at hs
            · rename_i hcond
              obtain ⟨hpl, hoff, hcl⟩ := hcond
              subst hoff
              simp at hs
              obtain ⟨rfl, rfl, rfl⟩ := hs
              refine fin _ _ rfl rfl ?_
              obtain ⟨hrep, xs, ex, hns⟩ := (id hyr : Rep w G (.agg ps) (a.eval y) ∧ ∃ xs, a.eval y = .agg xs ∧ ∀ i, i ∈ ns → xs[i]? = some (.slice none 0 0))
              obtain ⟨vs, e1, hl, hr, h1⟩ := Rep.agg_inv hrep
              have hxs : xs = vs := Value.agg.inj (ex.symm.trans e1)
              subst hxs
              have hcs : (a.eval y).cells = xs := by rw [e1]; rfl
              refine ok_storeN c.F hdst ho hx hy hp hb (by rw [hcs, hl, hpl]; exact hn) (by rw [tagT_len]; omega) (by rw [hcs, hl]; omega) (fun u hu => ?_) (fun i hi => ?_) (fun w' G' ω' hext _ i tv u ht hu => ?_)
              · rw [hcs] at hu
                obtain ⟨j, hj⟩ := List.getElem?_of_mem hu
                have hjl : j < ps.length := by rw [← hl]; have := (List.getElem?_eq_some_iff.1 hj).1; simpa using this
                exact one_oneCell (hr j _ u (List.getElem?_eq_getElem hjl) (by simpa using hj)) (h1 _ (List.getElem_mem _))
              · rw [hcs, hl] at hi
                rw [List.getElem?_eq_none (by rw [tagT_len]; omega), List.getElem?_eq_none (by omega)]
              · rw [hcs] at hu
                have hil : i < ps.length := by rw [← hl]; exact (Array.getElem?_eq_some_iff.1 hu).1
                have hri := hr i _ u (List.getElem?_eq_getElem hil) hu
                have h1i := h1 _ (List.getElem_mem hil)
                rw [tagT_get, List.getElem?_eq_getElem (by omega)] at ht
                simp only [Nat.zero_add, Option.map_some, Option.some.injEq] at ht
                split at ht
                · rename_i hc
                  have hu0 : u = .slice none 0 0 := by
                    have := hns i (by simpa using hc)
                    rw [hu] at this
                    exact Option.some.inj this
                  have vcase : ∀ q, q = ps[i] → tv = .val q → CRep w' G' ω' (β s) s (0 + i) tv u := fun q e1 e2 => by
                    subst e1; subst e2
                    exact ⟨hri.mono hext, h1i⟩
                  unfold nilTV at ht
                  split at ht
                  · subst ht; subst hu0
                    exact ⟨0, [], World.ownsRow_nil _ _ _ _, by simp, by simp, by simp, by simp, fun g hg => by simp [Value.ownBlock] at hg⟩
                  · exact vcase _ (by simp only [Nat.zero_add]) ht.symm
                · subst ht
                  exact ⟨by simpa using hri.mono hext, by simpa using h1i⟩
            · cases hs
        | false =>
          have hn1 : n = 1 := by simpa using hgn
          subst hn1
          simp only [Bool.false_eq_true, if_false] at hs
          rcases vy with p | ⟨e1, cc, r⟩ | ⟨s2, off2⟩ | ⟨cs2, off2⟩ | _ | _ <;> try (simp at hs; done)
          · simp only at hs
            split at hs
            · rename_i hcond
              obtain ⟨h1, hle⟩ := hcond
              simp at hs
              obtain ⟨rfl, rfl, rfl⟩ := hs
              refine fin _ _ rfl rfl ?_
              have hr := (id hyr : Rep w G p (a.eval y))
              obtain ⟨k1, k2, k3⟩ := hr.cells (cs := [p]) (by cases p <;> simp [PV.one] at h1 <;> rfl)
              have hone := one_oneCell hr h1
              refine ok_storeN c.F hdst ho hx hy hp hb (by rw [k1]; exact hn) (by simp) (by rw [k1]; exact hle) (fun u hu => ?_) (fun i hi => ?_) (fun w' G' ω' hext _ i tv u ht hu => ?_)
              · obtain ⟨j, hj⟩ := List.getElem?_of_mem hu
                have hjl : j < 1 := by have := (List.getElem?_eq_some_iff.1 hj).1; simp [k1] at this; omega
                obtain rfl : j = 0 := by omega
                exact one_oneCell (k3 0 p u rfl (by simpa using hj)) h1
              · rw [k1] at hi
                rw [List.getElem?_set, if_neg (by simp at hi; omega)]
              · have hil : i < 1 := by have := (Array.getElem?_eq_some_iff.1 hu).1; rw [k1] at this; simpa using this
                obtain rfl : i = 0 := by omega
                rw [Nat.add_zero, List.getElem?_set, if_pos rfl, if_pos hle] at ht
                cases ht
                exact ⟨(k3 0 p u rfl hu).mono hext, h1⟩
            · cases hs
          · simp only at hs
            split at hs
            · rename_i hle
              simp at hs
              obtain ⟨rfl, rfl, rfl⟩ := hs
              refine fin _ _ rfl rfl ?_
              have hro := (id hyr : ORepE e1 w G ω y'.occ cc r (a.eval y))
              obtain ⟨k1, k2, k3⟩ := hro.rep.cells (cs := [.sl cc r]) rfl
              refine ok_storeN c.F hdst ho hx hy hp hb (by rw [k1]; exact hn) (by simp) (by rw [k1]; exact hle) (fun u hu => ?_) (fun i hi => ?_) (fun w' G' ω' hext hk i tv u ht hu => ?_)
              · obtain ⟨j, hj⟩ := List.getElem?_of_mem hu
                have hjl : j < 1 := by have := (List.getElem?_eq_some_iff.1 hj).1; simp [k1] at this; omega
                obtain rfl : j = 0 := by omega
                exact one_oneCell (k3 0 _ u rfl (by simpa using hj)) rfl
              · rw [k1] at hi
                rw [List.getElem?_set, if_neg (by simp at hi; omega)]
              · have hil : i < 1 := by have := (Array.getElem?_eq_some_iff.1 hu).1; rw [k1] at this; simpa using this
                obtain rfl : i = 0 := by omega
                rw [Nat.add_zero, List.getElem?_set, if_pos rfl, if_pos hle] at ht
                cases ht
                cases y' with
                | c p => simp [Opnd.ev] at hq
                | t q =>
                  have hu' : u = a.eval y := by
                    obtain ⟨A, cap, e1, _⟩ := Rep.sl_inv hro.rep
                    rw [e1] at hu ⊢
                    simpa [Value.cells] using hu.symm
                  subst hu'
                  exact hro.mono hext (fun g hg => hk g q rfl hg)
            · cases hs
      · cases hs
  · cases vx <;> simp [sem] at hs
end ops
end Go.AR
