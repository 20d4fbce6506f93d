import Derived.Test.YtlhahjlnhkokcaaG20
set_option linter.all false
namespace Go.AR
open Go
section ops
variable {P : Program} {w : World} {G β : Nat → Nat} {ω : Nat → Option Occ} {σ σ' : Fr} {a : Act} {o : Oper} {h : Hint} {gs : Option (Nat × Bool)} {ao : AOp}

theorem s_nilck {x : Operand} {x' : Opnd} (ho : o.op = .nilCheck x) (hx : OOk x x') (hao : ao = mkA h o [x'] .nilck gs) (c : Ctx P w G β ω σ a o ao) (hs0 : semOp ao σ = some σ') : StepOk P w G ω β a o σ σ' := by
  obtain ⟨v, ws, bs, hs, rfl⟩ := semOp_inv hs0; clear hs0
  subst hao
  simp only [mkA, List.map_cons, List.map_nil] at hs
  generalize hp : x'.ev σ.tmps = vx at hs
  rcases vx with p | ⟨e1, cc, r⟩ | ⟨s, off⟩ | ⟨cs, off⟩ | _ | _ <;> try (simp [sem] at hs; done)
  · cases p <;> simp [sem] at hs
    obtain ⟨rfl, rfl, rfl⟩ := hs
    rw [fin_put]
    exact ok_nilck c.F c.d ho hx hp (.inr (.inr ⟨_, rfl⟩))
  · simp [sem] at hs
    obtain ⟨rfl, rfl, rfl⟩ := hs
    rw [fin_put]
    exact ok_nilck c.F c.d ho hx hp (.inl ⟨_, _, rfl⟩)
  · simp [sem] at hs
    obtain ⟨rfl, rfl, rfl⟩ := hs
    rw [fin_put]
    exact ok_nilck c.F c.d ho hx hp (.inr (.inl ⟨_, _, rfl⟩))

/-- What a value of an operand is, if the operation wants a number, a truth, a text. -/
theorem s_bini {op : BinOp} {t t' : TypeId} {x y : Operand} {x' y' : Opnd} (ho : o.op = .binOp op t x y t') (hx : OOk x x') (hy : OOk y y') (hao : ao = mkA h o [x', y'] (.bini op) gs) (c : Ctx P w G β ω σ a o ao) (hs0 : semOp ao σ = some σ') : StepOk P w G ω β a o σ σ' := by
  obtain ⟨v, ws, bs, hs, rfl⟩ := semOp_inv hs0; clear hs0
  subst hao
  simp only [mkA, List.map_cons, List.map_nil] at hs
  generalize hp : x'.ev σ.tmps = vx at hs
  generalize hq : y'.ev σ.tmps = vy at hs
  rcases vx with (⟨k, m⟩ | _ | _ | _ | _ | _ | _ | _ | _) | _ | _ | _ | _ | _ <;> try (simp [sem] at hs; done)
  rcases vy with (⟨k', n⟩ | _ | _ | _ | _ | _ | _ | _ | _) | _ | _ | _ | _ | _ <;> try (simp [sem] at hs; done)
  by_cases hop : op = .shl ∨ op = .shr
  · have : ∃ p, shiftA op k m n = some p ∧ v = .val p ∧ ws = [] ∧ bs = [] := by
      rcases hop with rfl | rfl <;> simp only [sem] at hs <;> split at hs <;> simp at hs
      all_goals (rename_i p hpp; obtain ⟨rfl, rfl, rfl⟩ := hs; exact ⟨p, hpp, rfl, rfl, rfl⟩)
    obtain ⟨p, hpp, rfl, rfl, rfl⟩ := this
    rw [fin_put]
    exact ok_shift c.F c.d ho hx hy hp hq hpp
  · have : k = k' ∧ ∃ p, Go.AR.bini op k m n = some p ∧ v = .val p ∧ ws = [] ∧ bs = [] := by
      cases op <;> first
        | (exfalso; simp at hop; done)
        | (simp only [sem] at hs
           split at hs
           · rename_i e
             split at hs
             · rename_i p hpp
               simp at hs
               obtain ⟨rfl, rfl, rfl⟩ := hs
               exact ⟨e, p, hpp, rfl, rfl, rfl⟩
             · cases hs
           · cases hs)
    obtain ⟨rfl, p, hpp, rfl, rfl, rfl⟩ := this
    rw [fin_put]
    exact ok_int c.F c.d ho hx hy hp hq hop hpp
theorem s_bins {op : BinOp} {t t' : TypeId} {x y : Operand} {x' y' : Opnd} (ho : o.op = .binOp op t x y t') (hx : OOk x x') (hy : OOk y y') (hao : ao = mkA h o [x', y'] (.bins op) gs) (c : Ctx P w G β ω σ a o ao) (hs0 : semOp ao σ = some σ') : StepOk P w G ω β a o σ σ' := by
  obtain ⟨v, ws, bs, hs, rfl⟩ := semOp_inv hs0; clear hs0
  subst hao
  simp only [mkA, List.map_cons, List.map_nil] at hs
  generalize hp : x'.ev σ.tmps = vx at hs
  generalize hq : y'.ev σ.tmps = vy at hs
  rcases vx with (_ | _ | m | _ | _ | _ | _ | _ | _) | _ | _ | _ | _ | _ <;> try (simp [sem] at hs; done)
  rcases vy with (_ | _ | n | _ | _ | _ | _ | _ | _) | _ | _ | _ | _ | _ <;> try (simp [sem] at hs; done)
  simp only [sem] at hs
  split at hs
  · rename_i p hpp
    simp at hs
    obtain ⟨rfl, rfl, rfl⟩ := hs
    rw [fin_put]
    exact ok_bins c.F c.d ho hx hy hp hq hpp
  · cases hs
theorem s_binb {n : Bool} {op : BinOp} {t t' : TypeId} {x y : Operand} {x' y' : Opnd} (ho : o.op = .binOp op t x y t') (hu : P.underlying t = some .bool) (hop : op = if n then .neq else .eql) (hx : OOk x x') (hy : OOk y y') (hao : ao = mkA h o [x', y'] (.binb n) gs) (c : Ctx P w G β ω σ a o ao) (hs0 : semOp ao σ = some σ') : StepOk P w G ω β a o σ σ' := by
  obtain ⟨v, ws, bs, hs, rfl⟩ := semOp_inv hs0; clear hs0
  subst hao
  simp only [mkA, List.map_cons, List.map_nil] at hs
  generalize hp : x'.ev σ.tmps = vx at hs
  generalize hq : y'.ev σ.tmps = vy at hs
  rcases vx with (_ | b | _ | _ | _ | _ | _ | _ | _) | _ | _ | _ | _ | _ <;> try (simp [sem] at hs; done)
  rcases vy with (_ | b' | _ | _ | _ | _ | _ | _ | _) | _ | _ | _ | _ | _ <;> try (simp [sem] at hs; done)
  simp only [sem] at hs
  simp only [Option.some.injEq, Prod.mk.injEq] at hs
  obtain ⟨rfl, rfl, rfl⟩ := hs
  rw [fin_put]
  exact ok_binb c.F c.d ho hu hop hx hy hp hq
theorem s_eqa {n : Bool} {op : BinOp} {t t' : TypeId} {x y : Operand} {x' y' : Opnd} {sh : List CK} (ho : o.op = .binOp op t x y t') (hga : isAggT P t = some true) (hgt : P.eqGuardType P.depth t = false) (hsh : shp P 8 t = some sh) (hop : op = if n then .neq else .eql) (hx : OOk x x') (hy : OOk y y') (hao : ao = mkA h o [x', y'] (.eqa sh n) gs) (c : Ctx P w G β ω σ a o ao) (hs0 : semOp ao σ = some σ') : StepOk P w G ω β a o σ σ' := by
  obtain ⟨v, ws, bs, hs, rfl⟩ := semOp_inv hs0; clear hs0
  subst hao
  simp only [mkA, List.map_cons, List.map_nil] at hs
  generalize hp : x'.ev σ.tmps = vx at hs
  generalize hq : y'.ev σ.tmps = vy at hs
  rcases vx with (_ | _ | _ | _ | _ | cs | _ | _ | _) | _ | _ | _ | _ | _ <;> try (simp [sem] at hs; done)
  rcases vy with (_ | _ | _ | _ | _ | ds | _ | _ | _) | _ | _ | _ | _ | _ <;> try (simp [sem] at hs; done)
  simp only [sem] at hs
  split at hs
  · rename_i r hr
    simp only [Option.some.injEq, Prod.mk.injEq] at hs
    obtain ⟨rfl, rfl, rfl⟩ := hs
    rw [fin_put]
    exact ok_eqa c.F c.d ho hga hgt hsh hop hx hy hp hq hr
  · cases hs
theorem s_eqn {n : Bool} {op : BinOp} {t t' e : TypeId} {x y : Operand} {x' y' : Opnd} (ho : o.op = .binOp op t x y t') (hu : P.underlying t = some (.pointer e)) (hop : op = if n then .neq else .eql) (hx : OOk x x') (hy : OOk y y') (hao : ao = mkA h o [x', y'] (.eqn n) gs) (c : Ctx P w G β ω σ a o ao) (hs0 : semOp ao σ = some σ') : StepOk P w G ω β a o σ σ' := by
  obtain ⟨v, ws, bs, hs, rfl⟩ := semOp_inv hs0; clear hs0
  subst hao
  simp only [mkA, List.map_cons, List.map_nil] at hs
  generalize hp : x'.ev σ.tmps = vx at hs
  generalize hq : y'.ev σ.tmps = vy at hs
  rcases vx with (_ | _ | _ | _ | _ | _ | _ | _ | _) | _ | ⟨s, off⟩ | ⟨cs, off⟩ | _ | _ <;> try (simp [sem] at hs; done)
  · rcases vy with (_ | _ | _ | _ | _ | _ | _ | _ | _) | _ | _ | _ | _ | _ <;> try (simp [sem] at hs; done)
    simp [sem] at hs
    obtain ⟨rfl, rfl, rfl⟩ := hs
    rw [fin_put]
    have := ok_eqn (P := P) (n := n) (r := true) c.F c.d ho hu hop hx hy hq (.inl ⟨hp, rfl⟩)
    simpa [mkA] using this
  · rcases vy with (_ | _ | _ | _ | _ | _ | _ | _ | _) | _ | _ | _ | _ | _ <;> try (simp [sem] at hs; done)
    simp [sem] at hs
    obtain ⟨rfl, rfl, rfl⟩ := hs
    rw [fin_put]
    have := ok_eqn (P := P) (n := n) (r := false) c.F c.d ho hu hop hx hy hq (.inr (.inl ⟨⟨_, _, hp⟩, rfl⟩))
    simpa [mkA] using this
  · rcases vy with (_ | _ | _ | _ | _ | _ | _ | _ | _) | _ | _ | _ | _ | _ <;> try (simp [sem] at hs; done)
    simp [sem] at hs
    obtain ⟨rfl, rfl, rfl⟩ := hs
    rw [fin_put]
    have := ok_eqn (P := P) (n := n) (r := false) c.F c.d ho hu hop hx hy hq (.inr (.inr ⟨⟨_, _, hp⟩, rfl⟩))
    simpa [mkA] using this
theorem s_not {t : TypeId} {x : Operand} {x' : Opnd} (ho : o.op = .unOp .not t x) (hx : OOk x x') (hao : ao = mkA h o [x'] .not gs) (c : Ctx P w G β ω σ a o ao) (hs0 : semOp ao σ = some σ') : StepOk P w G ω β a o σ σ' := by
  obtain ⟨v, ws, bs, hs, rfl⟩ := semOp_inv hs0; clear hs0
  subst hao
  simp only [mkA, List.map_cons, List.map_nil] at hs
  generalize hp : x'.ev σ.tmps = vx at hs
  rcases vx with (_ | b | _ | _ | _ | _ | _ | _ | _) | _ | _ | _ | _ | _ <;> simp [sem] at hs
  obtain ⟨rfl, rfl, rfl⟩ := hs
  rw [fin_put]
  exact ok_not c.F c.d ho hx hp
theorem s_unint {op : UnOp} {t : TypeId} {x : Operand} {x' : Opnd} (ho : o.op = .unOp op t x) (hop : op = .neg ∨ op = .xor) (hx : OOk x x') (hao : ao = mkA h o [x'] (.unint op) gs) (c : Ctx P w G β ω σ a o ao) (hs0 : semOp ao σ = some σ') : StepOk P w G ω β a o σ σ' := by
  obtain ⟨v, ws, bs, hs, rfl⟩ := semOp_inv hs0; clear hs0
  subst hao
  simp only [mkA, List.map_cons, List.map_nil] at hs
  generalize hp : x'.ev σ.tmps = vx at hs
  rcases vx with (⟨k, m⟩ | _ | _ | _ | _ | _ | _ | _ | _) | _ | _ | _ | _ | _ <;> try (simp [sem] at hs; done)
  rcases hop with rfl | rfl <;> simp only [sem, Option.some.injEq, Prod.mk.injEq] at hs <;> obtain ⟨rfl, rfl, rfl⟩ := hs <;> rw [fin_put]
  · exact ok_neg c.F c.d ho hx hp
  · exact ok_xor c.F c.d ho hx hp
theorem s_conv {t d : TypeId} {x : Operand} {x' : Opnd} {k q : IntKind} (ho : o.op = .convert t d x) (hs' : P.underlying t = some (.int q)) (hu : P.underlying d = some (.int k)) (hx : OOk x x') (hao : ao = mkA h o [x'] (.conv k) gs) (c : Ctx P w G β ω σ a o ao) (hs0 : semOp ao σ = some σ') : StepOk P w G ω β a o σ σ' := by
  obtain ⟨v, ws, bs, hs, rfl⟩ := semOp_inv hs0; clear hs0
  subst hao
  simp only [mkA, List.map_cons, List.map_nil] at hs
  generalize hp : x'.ev σ.tmps = vx at hs
  rcases vx with (⟨k', m⟩ | _ | _ | _ | _ | _ | _ | _ | _) | _ | _ | _ | _ | _ <;> simp [sem] at hs
  obtain ⟨rfl, rfl, rfl⟩ := hs
  rw [fin_put]
  exact ok_conv c.F c.d ho hs' hu hx hp
theorem s_same {t d : TypeId} {x : Operand} {x' : Opnd} (ho : o.op = .convert t d x) (hs' : P.underlying t = some .string) (hu : P.underlying d = some .string) (hx : OOk x x') (hao : ao = mkA h o [x'] .same gs) (c : Ctx P w G β ω σ a o ao) (hs0 : semOp ao σ = some σ') : StepOk P w G ω β a o σ σ' := by
  obtain ⟨v, ws, bs, hs, rfl⟩ := semOp_inv hs0; clear hs0
  subst hao
  simp only [mkA, List.map_cons, List.map_nil, sem] at hs
  split at hs
  · rename_i l hl
    simp at hs
    obtain ⟨rfl, rfl, rfl⟩ := hs
    rw [fin_put]
    exact ok_same c.F c.d ho hs' hu hx hl
  · cases hs
theorem s_b2s {t d e : TypeId} {x : Operand} {x' : Opnd} (ho : o.op = .convert t d x) (hs' : P.underlying t = some (.slice e)) (he : P.underlying e = some (.int .u8)) (hu : P.underlying d = some .string) (hx : OOk x x') (hao : ao = mkA h o [x'] .b2s gs) (c : Ctx P w G β ω σ a o ao) (hs0 : semOp ao σ = some σ') : StepOk P w G ω β a o σ σ' := by
  obtain ⟨v, ws, bs, hs, rfl⟩ := semOp_inv hs0; clear hs0
  subst hao
  simp only [mkA, List.map_cons, List.map_nil, sem] at hs
  split at hs
  · rename_i cc rows hl
    split at hs
    · rename_i l hb
      simp at hs
      obtain ⟨rfl, rfl, rfl⟩ := hs
      rw [fin_put]
      exact ok_b2s c.F c.d ho hs' he hu hx hl hb
    · cases hs
  · cases hs
theorem s_r2s {t d e : TypeId} {x : Operand} {x' : Opnd} (ho : o.op = .convert t d x) (hs' : P.underlying t = some (.slice e)) (he : P.underlying e = some (.int .i32)) (hu : P.underlying d = some .string) (hx : OOk x x') (hao : ao = mkA h o [x'] .r2s gs) (c : Ctx P w G β ω σ a o ao) (hs0 : semOp ao σ = some σ') : StepOk P w G ω β a o σ σ' := by
  obtain ⟨v, ws, bs, hs, rfl⟩ := semOp_inv hs0; clear hs0
  subst hao
  simp only [mkA, List.map_cons, List.map_nil, sem] at hs
  split at hs
  · rename_i cc rows hl
    split at hs
    · rename_i l hb
      simp at hs
      obtain ⟨rfl, rfl, rfl⟩ := hs
      rw [fin_put]
      exact ok_r2s c.F c.d ho hs' he hu hx hl hb
    · cases hs
  · cases hs
theorem s_mkmap {t : TypeId} {d : Nat} (ho : o.op = .makeMap t none) (hd : o.dst = some d) (hao : ao = { mkA h o [] .mkmap gs with mw := [d] }) (c : Ctx P w G β ω σ a o ao) (hs0 : semOp ao σ = some σ') : StepOk P w G ω β a o σ σ' := by
  obtain ⟨v, ws, bs, hs, rfl⟩ := semOp_inv hs0; clear hs0
  subst hao
  simp only [mkA, List.map_nil, List.map_cons, hd] at hs
  cases hm : get σ.mem d with
  | some b => simp [sem, hm] at hs
  | none =>
    simp [sem, hm] at hs
    obtain ⟨rfl, rfl, rfl⟩ := hs
    have := ok_mkmap (P := P) (t := t) c.F (c.d d hd) hd hm ho
    simpa [mkA, hd, setAll, Fr.put] using this
theorem s_mapup {t kt et : TypeId} {m k x : Operand} {m' k' x' : Opnd} {sh : List CK} (ho : o.op = .mapUpdate t m k x) (hdst : o.dst = none) (hu : P.underlying t = some (.map kt et)) (hsh : shpK P 8 kt = some sh) (hga : isAggT P kt = some true)
    (hm : OOk m m') (hk : OOk k k') (hx : OOk x x') (hao : ao = { mkA h o [m', k', x'] (.mapup sh) gs with mw := h.mw }) (c : Ctx P w G β ω σ a o ao) (hs0 : semOp ao σ = some σ') : StepOk P w G ω β a o σ σ' := by
  obtain ⟨v, ws, bs, hs, rfl⟩ := semOp_inv hs0; clear hs0
  subst hao
  simp only [mkA, List.map_nil, List.map_cons] at hs
  generalize em : m'.ev σ.tmps = vm at hs
  generalize ek : k'.ev σ.tmps = vk at hs
  generalize ex : x'.ev σ.tmps = vx at hs
  rcases vm with _ | _ | _ | _ | _ | _ | _ | _ | _ | s <;> try (simp [sem] at hs; done)
  rcases vk with (_ | _ | _ | _ | _ | ka | _ | _ | _) | _ | _ | _ | _ | _ | _ | _ | _ | _ <;> try (simp [sem] at hs; done)
  rcases vx with v | _ | _ | _ | _ | _ | _ | _ | _ | _ <;> try (simp [sem] at hs; done)
  rcases hmw : h.mw with _ | ⟨s', _ | ⟨s2, ms⟩⟩ <;> rw [hmw] at hs
  · simp [sem] at hs
  · simp only [List.map_cons, List.map_nil] at hs
    rcases hb : get σ.mem s' with _ | (⟨e0, cs⟩ | cs | ⟨l, pos⟩ | kvs) <;> rw [hb] at hs <;> try (simp [sem] at hs; done)
    simp only [sem] at hs
    split at hs
    · rename_i hcond
      obtain ⟨rfl, hl⟩ := hcond
      split at hs
      · rename_i kvs' hk'
        simp at hs
        obtain ⟨rfl, rfl, rfl⟩ := hs
        have := ok_mapup (P := P) c.F ho hdst hu hsh hga hm hk hx em ek ex hl hb hk'
        simpa [mkA, hdst, hmw, setAll, Fr.put] using this
      · cases hs
    · cases hs
  · simp [sem] at hs
theorem s_lookup {t kt et : TypeId} {m k : Operand} {m' k' : Opnd} {sh : List CK} {z : PV} {ok : Bool} (ho : o.op = .lookup t m k ok) (hu : P.underlying t = some (.map kt et)) (hsh : shpK P 8 kt = some sh) (hga : isAggT P kt = some true)
    (hz : ((P.info? et).bind (·.zero)).bind (cVal 0) = some z) (hm : OOk m m') (hk : OOk k k') (hao : ao = { mkA h o [m', k'] (.lookup sh z ok) gs with mr := h.mr }) (c : Ctx P w G β ω σ a o ao) (hs0 : semOp ao σ = some σ') : StepOk P w G ω β a o σ σ' := by
  obtain ⟨v, ws, bs, hs, rfl⟩ := semOp_inv hs0; clear hs0
  subst hao
  obtain ⟨zv, hz1, hz2⟩ := Option.bind_eq_some_iff.1 hz
  simp only [mkA, List.map_nil, List.map_cons] at hs
  generalize em : m'.ev σ.tmps = vm at hs
  generalize ek : k'.ev σ.tmps = vk at hs
  rcases vm with _ | _ | _ | _ | _ | _ | _ | _ | _ | s <;> try (simp [sem] at hs; done)
  rcases vk with (_ | _ | _ | _ | _ | ka | _ | _ | _) | _ | _ | _ | _ | _ | _ | _ | _ | _ <;> try (simp [sem] at hs; done)
  rcases hmr : h.mr with _ | ⟨s', _ | ⟨s2, ms⟩⟩ <;> rw [hmr] at hs
  · simp [sem] at hs
  · simp only [List.map_cons, List.map_nil] at hs
    rcases hb : get σ.mem s' with _ | (⟨e0, cs⟩ | cs | ⟨l, pos⟩ | kvs) <;> rw [hb] at hs <;> try (simp [sem] at hs; done)
    simp only [sem] at hs
    split at hs
    · rename_i hcond
      obtain ⟨rfl, hl⟩ := hcond
      split at hs
      · rename_i v' hf
        simp only [Option.some.injEq, Prod.mk.injEq] at hs
        obtain ⟨rfl, rfl, rfl⟩ := hs
        rw [fin_put]
        exact ok_lookup (P := P) c.F c.d ho hu hsh hga hz1 hz2 hm hk em ek hl hb hf
      · rename_i hf
        simp only [Option.some.injEq, Prod.mk.injEq] at hs
        obtain ⟨rfl, rfl, rfl⟩ := hs
        rw [fin_put]
        exact ok_lookup (P := P) c.F c.d ho hu hsh hga hz1 hz2 hm hk em ek hl hb hf
      · cases hs
    · cases hs
  · simp [sem] at hs
theorem s_slices {t : TypeId} {x : Operand} {x' : Opnd} {lo hi : Option Operand} {ts : List TypeId} {ys : List Opnd} (ho : o.op = .slice t x lo hi none) (hu : P.underlying t = some .string) (hx : OOk x x') (hc : cOpnds P ts (lo.toList ++ hi.toList) = some ys)
    (hao : ao = mkA h o (x' :: ys) (.slices lo.isSome hi.isSome) gs) (c : Ctx P w G β ω σ a o ao) (hs0 : semOp ao σ = some σ') : StepOk P w G ω β a o σ σ' := by
  obtain ⟨v, ws, bs, hs, rfl⟩ := semOp_inv hs0; clear hs0
  subst hao
  simp only [mkA, List.map_cons, List.map_nil] at hs
  generalize hp : x'.ev σ.tmps = vx at hs
  rcases vx with (_ | _ | l | _ | _ | _ | _ | _ | _) | _ | _ | _ | _ | _ <;> try (simp [sem] at hs; done)
  simp only [sem] at hs
  split at hs
  · rename_i l' h' hb
    simp at hs
    obtain ⟨rfl, rfl, rfl⟩ := hs
    rw [fin_put]
    exact ok_slices c.F c.d ho hu hx hp hc hb
  · cases hs
theorem s_slice {t e : TypeId} {n : Nat} {x : Operand} {x' : Opnd} {lo hi : Option Operand} {ts : List TypeId} {ys : List Opnd} (ho : o.op = .slice t x lo hi none) (hu : P.underlying t = some (.slice e)) (hn : szT P e = some n) (hx : OOk x x') (hc : cOpnds P ts (lo.toList ++ hi.toList) = some ys)
    (hao : ao = mkA h o (x' :: ys) (.slice n lo.isSome hi.isSome false) gs) (c : Ctx P w G β ω σ a o ao) (hs0 : semOp ao σ = some σ') : StepOk P w G ω β a o σ σ' := by
  obtain ⟨v, ws, bs, hs, rfl⟩ := semOp_inv hs0; clear hs0
  subst hao
  simp only [mkA, List.map_cons, List.map_nil, sem] at hs
  split at hs
  · rename_i c' rows hl
    split at hs
    · rename_i e'
      subst e'
      split at hs
      · rename_i l' h' hb
        simp at hs
        obtain ⟨rfl, rfl, rfl⟩ := hs
        rw [fin_put]
        exact ok_slice c.F c.d ho hu hn hx hl hc hb
      · cases hs
    · cases hs
  · cases hs
theorem s_slicea {t e : TypeId} {n k : Nat} {x : Operand} {x' : Opnd} {lo hi : Option Operand} {ts : List TypeId} {ys : List Opnd} (ho : o.op = .slice t x lo hi none) (hu : P.underlying t = some (.array k e)) (hn : szT P e = some n) (h0 : 0 < n) (hx : OOk x x') (hc : cOpnds P ts (lo.toList ++ hi.toList) = some ys)
    (hao : ao = { mkA h o (x' :: ys) (.slicea k n lo.isSome hi.isSome) gs with mw := h.mw }) (c : Ctx P w G β ω σ a o ao) (hs0 : semOp ao σ = some σ') : StepOk P w G ω β a o σ σ' := by
  obtain ⟨v, ws, bs, hs, rfl⟩ := semOp_inv hs0; clear hs0
  subst hao
  simp only [mkA, List.map_cons] at hs ⊢
  generalize hp : x'.ev σ.tmps = vx at hs
  simp only [sem] at hs
  split at hs
  · rename_i s s' b hmw hmap
    rw [hmw] at hmap ⊢
    simp only [List.map_cons, List.map_nil, List.cons.injEq, and_true] at hmap
    split at hs
    · rename_i e1
      subst e1
      split at hs
      · rename_i ps hst
        split at hs
        · rename_i hlen
          split at hs
          · rename_i l1 h1 hb
            simp only [Option.some.injEq, Prod.mk.injEq] at hs
            obtain ⟨rfl, rfl, rfl⟩ := hs
            have := ok_slicea (P := P) c.F c.d ho hu hn h0 hx hp hc (b := b) (ps := ps) hmap (by cases b <;> exact hst) hlen hb
            simp only [setAll]
            exact this
          · cases hs
        · cases hs
      · cases hs
    · cases hs
  · cases hs
theorem s_faddr {t : TypeId} {x : Operand} {x' : Opnd} {f n : Nat} {fs : Array Field} {fd : Field} (ho : o.op = .fieldAddr t x f) (hu : P.underlying t = some (.struct fs)) (hf : fs[f]? = some fd) (hn : szT P fd.type = some n) (h0 : n ≠ 0) (hx : OOk x x')
    (hao : ao = mkA h o [x'] (.faddr fd.offset) gs) (c : Ctx P w G β ω σ a o ao) (hs0 : semOp ao σ = some σ') : StepOk P w G ω β a o σ σ' := by
  obtain ⟨v, ws, bs, hs, rfl⟩ := semOp_inv hs0; clear hs0
  subst hao
  obtain ⟨i, hi, rfl⟩ := szT_info hn
  simp only [mkA, List.map_cons, List.map_nil] at hs
  generalize hp : x'.ev σ.tmps = vx at hs
  rcases vx with p | ⟨e1, cc, r⟩ | ⟨s, off⟩ | ⟨cs, off⟩ | _ | _ <;> simp [sem] at hs <;> obtain ⟨rfl, rfl, rfl⟩ := hs <;> rw [fin_put]
  · exact ok_faddr c.F c.d ho hu hf hi h0 hx (.inl ⟨_, _, hp, rfl⟩)
  · exact ok_faddr c.F c.d ho hu hf hi h0 hx (.inr ⟨_, _, hp, rfl⟩)
theorem s_field {t : TypeId} {x : Operand} {x' : Opnd} {f n : Nat} {g : Bool} {fs : Array Field} {fd : Field} (ho : o.op = .field t x f) (hu : P.underlying t = some (.struct fs)) (hf : fs[f]? = some fd) (hn : szT P fd.type = some n) (hg : isAggT P fd.type = some g) (hx : OOk x x')
    (hao : ao = mkA h o [x'] (.field fd.offset g n) gs) (c : Ctx P w G β ω σ a o ao) (hs0 : semOp ao σ = some σ') : StepOk P w G ω β a o σ σ' := by
  obtain ⟨v, ws, bs, hs, rfl⟩ := semOp_inv hs0; clear hs0
  subst hao
  simp only [mkA, List.map_cons, List.map_nil] at hs
  generalize hp : x'.ev σ.tmps = vx at hs
  rcases vx with (_ | _ | _ | _ | _ | cs | _ | _ | _) | _ | _ | _ | _ | _ <;> try (simp [sem] at hs; done)
  simp only [sem] at hs
  cases g
  · simp only [Bool.false_eq_true, if_false] at hs
    split at hs
    · rename_i p hpp
      simp at hs
      obtain ⟨rfl, rfl, rfl⟩ := hs
      rw [fin_put]
      exact ok_field c.F c.d ho hu hf hn hg hx hp (.inr ⟨rfl, hpp⟩)
    · cases hs
  · simp only [if_true] at hs
    split at hs
    · rename_i hle
      simp at hs
      obtain ⟨rfl, rfl, rfl⟩ := hs
      rw [fin_put]
      exact ok_field c.F c.d ho hu hf hn hg hx hp (.inl ⟨rfl, hle, rfl⟩)
    · cases hs
theorem s_iaddra {t e : TypeId} {x y : Operand} {x' y' : Opnd} {len n : Nat} (ho : o.op = .indexAddr t x y) (hu : P.underlying t = some (.array len e)) (hn : szT P e = some n) (hx : OOk x x') (hy : OOk y y')
    (hao : ao = mkA h o [x', y'] (.iaddr (some len) n) gs) (c : Ctx P w G β ω σ a o ao) (hs0 : semOp ao σ = some σ') : StepOk P w G ω β a o σ σ' := by
  obtain ⟨v, ws, bs, hs, rfl⟩ := semOp_inv hs0; clear hs0
  subst hao
  obtain ⟨i, hi, rfl⟩ := szT_info hn
  simp only [mkA, List.map_cons, List.map_nil] at hs
  generalize hp : x'.ev σ.tmps = vx at hs
  generalize hq : y'.ev σ.tmps = vy at hs
  rcases vy with (⟨k, j⟩ | _ | _ | _ | _ | _ | _ | _ | _) | _ | _ | _ | _ | _ <;> try (simp [sem] at hs; done)
  rcases vx with p | ⟨e1, cc, r⟩ | ⟨s, off⟩ | ⟨cs, off⟩ | _ | _ <;> try (simp [sem] at hs; done)
  · simp only [sem] at hs
    split at hs
    · rename_i hb
      simp at hs; obtain ⟨rfl, rfl, rfl⟩ := hs
      rw [fin_put]
      exact ok_iaddra c.F c.d ho hu hi hx hy hq hb (.inl ⟨_, _, hp, rfl⟩)
    · cases hs
  · simp only [sem] at hs
    split at hs
    · rename_i hb
      simp at hs; obtain ⟨rfl, rfl, rfl⟩ := hs
      rw [fin_put]
      exact ok_iaddra c.F c.d ho hu hi hx hy hq hb (.inr ⟨_, _, hp, rfl⟩)
    · cases hs
theorem s_iaddrs {t e : TypeId} {x y : Operand} {x' y' : Opnd} {n : Nat} (ho : o.op = .indexAddr t x y) (hu : P.underlying t = some (.slice e)) (hn : szT P e = some n) (hx : OOk x x') (hy : OOk y y')
    (hao : ao = mkA h o [x', y'] (.iaddr none n) gs) (c : Ctx P w G β ω σ a o ao) (hs0 : semOp ao σ = some σ') : StepOk P w G ω β a o σ σ' := by
  obtain ⟨v, ws, bs, hs, rfl⟩ := semOp_inv hs0; clear hs0
  subst hao
  obtain ⟨i, hi, rfl⟩ := szT_info hn
  simp only [mkA, List.map_cons, List.map_nil] at hs
  generalize hq : y'.ev σ.tmps = vy at hs
  rcases vy with (⟨k, j⟩ | _ | _ | _ | _ | _ | _ | _ | _) | _ | _ | _ | _ | _ <;> try (simp [sem] at hs; done)
  simp only [sem] at hs
  split at hs
  · rename_i c' rows hl
    split at hs
    · rename_i hb
      obtain ⟨hb, rfl⟩ := hb
      split at hs
      · rename_i r hr
        simp at hs; obtain ⟨rfl, rfl, rfl⟩ := hs
        rw [fin_put]
        exact ok_iaddrs c.F c.d ho hu hi hx hy hq hb hl hr
      · cases hs
    · cases hs
  · rename_i s c' n hl
    have hl' : x'.ev σ.tmps = .xs s c' n := by
      cases hv : x'.ev σ.tmps <;> rw [hv] at hl <;> simp [TV.ro] at hl ⊢
      exact hl
    split at hs
    · rename_i hb
      obtain ⟨hb1, hb2, rfl⟩ := hb
      simp at hs; obtain ⟨rfl, rfl, rfl⟩ := hs
      rw [fin_put]
      exact ok_iaddrx c.F c.d ho hu hi hx hy hq ⟨hb1, hb2⟩ hl'
    · cases hs
  · cases hs
theorem s_indexa {t e : TypeId} {x y : Operand} {x' y' : Opnd} {len n : Nat} {g : Bool} (ho : o.op = .index t x y) (hu : P.underlying t = some (.array len e)) (hn : szT P e = some n) (hg : isAggT P e = some g) (hx : OOk x x') (hy : OOk y y')
    (hao : ao = mkA h o [x', y'] (.indexa len g n) gs) (c : Ctx P w G β ω σ a o ao) (hs0 : semOp ao σ = some σ') : StepOk P w G ω β a o σ σ' := by
  obtain ⟨v, ws, bs, hs, rfl⟩ := semOp_inv hs0; clear hs0
  subst hao
  simp only [mkA, List.map_cons, List.map_nil] at hs
  generalize hp : x'.ev σ.tmps = vx at hs
  generalize hq : y'.ev σ.tmps = vy at hs
  rcases vx with (_ | _ | _ | _ | _ | cs | _ | _ | _) | _ | _ | _ | _ | _ <;> try (simp [sem] at hs; done)
  rcases vy with (⟨k, j⟩ | _ | _ | _ | _ | _ | _ | _ | _) | _ | _ | _ | _ | _ <;> try (simp [sem] at hs; done)
  simp only [sem] at hs
  split at hs
  · rename_i hb
    cases g
    · simp only [Bool.false_eq_true, if_false] at hs
      split at hs
      · rename_i p hpp
        simp at hs
        obtain ⟨rfl, rfl, rfl⟩ := hs
        rw [fin_put]
        exact ok_indexa c.F c.d ho hu hn hg hx hy hp hq hb (.inr ⟨rfl, hpp⟩)
      · cases hs
    · simp only [if_true] at hs
      split at hs
      · rename_i hle
        simp at hs
        obtain ⟨rfl, rfl, rfl⟩ := hs
        rw [fin_put]
        exact ok_indexa c.F c.d ho hu hn hg hx hy hp hq hb (.inl ⟨rfl, hle, rfl⟩)
      · cases hs
  · cases hs
theorem s_indexs {t : TypeId} {x y : Operand} {x' y' : Opnd} (ho : o.op = .index t x y) (hu : P.underlying t = some .string) (hx : OOk x x') (hy : OOk y y')
    (hao : ao = mkA h o [x', y'] .indexs gs) (c : Ctx P w G β ω σ a o ao) (hs0 : semOp ao σ = some σ') : StepOk P w G ω β a o σ σ' := by
  obtain ⟨v, ws, bs, hs, rfl⟩ := semOp_inv hs0; clear hs0
  subst hao
  simp only [mkA, List.map_cons, List.map_nil] at hs
  generalize hp : x'.ev σ.tmps = vx at hs
  generalize hq : y'.ev σ.tmps = vy at hs
  rcases vx with (_ | _ | l | _ | _ | _ | _ | _ | _) | _ | _ | _ | _ | _ <;> try (simp [sem] at hs; done)
  rcases vy with (⟨k, j⟩ | _ | _ | _ | _ | _ | _ | _ | _) | _ | _ | _ | _ | _ <;> try (simp [sem] at hs; done)
  simp only [sem] at hs
  split at hs
  · rename_i hb
    split at hs
    · rename_i b hbb
      simp at hs
      obtain ⟨rfl, rfl, rfl⟩ := hs
      rw [fin_put]
      exact ok_indexs c.F c.d ho hu hx hy hp hq hb hbb
    · cases hs
  · cases hs
theorem s_extract {x : Operand} {x' : Opnd} {i : Nat} (ho : o.op = .extract x i) (hx : OOk x x') (hao : ao = mkA h o [x'] (.extract i) gs) (c : Ctx P w G β ω σ a o ao) (hs0 : semOp ao σ = some σ') : StepOk P w G ω β a o σ σ' := by
  obtain ⟨v, ws, bs, hs, rfl⟩ := semOp_inv hs0; clear hs0
  subst hao
  simp only [mkA, List.map_cons, List.map_nil] at hs
  generalize hp : x'.ev σ.tmps = vx at hs
  rcases vx with (_ | _ | _ | _ | _ | _ | vs | _ | _) | _ | _ | _ | _ | _ <;> try (simp [sem] at hs; done)
  simp only [sem] at hs
  split at hs
  · rename_i p hpp
    simp at hs
    obtain ⟨rfl, rfl, rfl⟩ := hs
    rw [fin_put]
    exact ok_extract c.F c.d ho hx hp hpp
  · cases hs
theorem s_lens {cl : Call} {t : TypeId} {x : Operand} {x' : Opnd} (ho : o.op = .call cl) (hc : cl.callee = .builtin .len) (ha : cl.argTypes = #[t]) (hxs : cl.args = #[x]) (hx : OOk x x') (hu : P.underlying t = some .string)
    (hao : ao = mkA h o [x'] (.len true) gs) (c : Ctx P w G β ω σ a o ao) (hs0 : semOp ao σ = some σ') : StepOk P w G ω β a o σ σ' := by
  obtain ⟨v, ws, bs, hs, rfl⟩ := semOp_inv hs0; clear hs0
  subst hao
  simp only [mkA, List.map_cons, List.map_nil, sem] at hs
  split at hs
  · rename_i l hl
    simp at hs
    obtain ⟨rfl, rfl, rfl⟩ := hs
    rw [fin_put]
    exact ok_lenstr c.F c.d ho hc ha hxs hu hx hl
  · cases hs
theorem s_lensl {cl : Call} {t e : TypeId} {x : Operand} {x' : Opnd} (ho : o.op = .call cl) (hc : cl.callee = .builtin .len) (ha : cl.argTypes = #[t]) (hxs : cl.args = #[x]) (hx : OOk x x') (hu : P.underlying t = some (.slice e))
    (hao : ao = mkA h o [x'] (.len false) gs) (c : Ctx P w G β ω σ a o ao) (hs0 : semOp ao σ = some σ') : StepOk P w G ω β a o σ σ' := by
  obtain ⟨v, ws, bs, hs, rfl⟩ := semOp_inv hs0; clear hs0
  subst hao
  simp only [mkA, List.map_cons, List.map_nil, sem] at hs
  split at hs
  · rename_i n rows hl
    simp at hs
    obtain ⟨rfl, rfl, rfl⟩ := hs
    rw [fin_put]
    have h0 := hx.trep c.F
    rw [hl] at h0
    obtain ⟨A, cap, e1, _⟩ := ORepX.inv h0
    exact ok_lenv c.F c.d ho hc ha hxs hu e1
  · rename_i s' n' n hl
    simp at hs
    obtain ⟨rfl, rfl, rfl⟩ := hs
    rw [fin_put]
    have h0 := hx.trep c.F
    rw [hl] at h0
    obtain ⟨cap, e', e1, _⟩ := h0
    exact ok_lenv c.F c.d ho hc ha hxs hu e1
  · split at hs
    · rename_i n rows hl
      simp at hs
      obtain ⟨rfl, rfl, rfl⟩ := hs
      rw [fin_put]
      exact ok_lensl c.F c.d ho hc ha hxs hu hx hl
    · cases hs
theorem s_lenc {cl : Call} {t e : TypeId} {n : Nat} {x : Operand} {x' : Opnd} (ho : o.op = .call cl) (hc : cl.callee = .builtin .len) (ha : cl.argTypes = #[t]) (hxs : cl.args = #[x]) (hu : P.underlying t = some (.array n e))
    (hao : ao = mkA h o [x'] (.lenc n) gs) (c : Ctx P w G β ω σ a o ao) (hs0 : semOp ao σ = some σ') : StepOk P w G ω β a o σ σ' := by
  obtain ⟨v, ws, bs, hs, rfl⟩ := semOp_inv hs0; clear hs0
  subst hao
  simp [mkA, sem] at hs
  obtain ⟨rfl, rfl, rfl⟩ := hs
  rw [fin_put]
  exact ok_lenarr c.F c.d ho hc ha hxs hu
theorem s_max {cl : Call} {x y : Operand} {x' y' : Opnd} (ho : o.op = .call cl) (hc : cl.callee = .builtin .max) (hxs : cl.args = #[x, y]) (hx : OOk x x') (hy : OOk y y') (hao : ao = mkA h o [x', y'] .maxi gs) (c : Ctx P w G β ω σ a o ao) (hs0 : semOp ao σ = some σ') : StepOk P w G ω β a o σ σ' := by
  obtain ⟨v, ws, bs, hs, rfl⟩ := semOp_inv hs0; clear hs0
  subst hao
  simp only [mkA, List.map_cons, List.map_nil] at hs
  generalize hp : x'.ev σ.tmps = vx at hs
  generalize hq : y'.ev σ.tmps = vy at hs
  rcases vx with (⟨k, m⟩ | _ | _ | _ | _ | _ | _ | _ | _) | _ | _ | _ | _ | _ <;> try (simp [sem] at hs; done)
  rcases vy with (⟨k', n⟩ | _ | _ | _ | _ | _ | _ | _ | _) | _ | _ | _ | _ | _ <;> try (simp [sem] at hs; done)
  simp only [sem, Option.some.injEq, Prod.mk.injEq] at hs
  obtain ⟨rfl, rfl, rfl⟩ := hs
  rw [fin_put]
  exact ok_max c.F c.d ho hc hxs hx hy hp hq
theorem s_min {cl : Call} {x y : Operand} {x' y' : Opnd} (ho : o.op = .call cl) (hc : cl.callee = .builtin .min) (hxs : cl.args = #[x, y]) (hx : OOk x x') (hy : OOk y y') (hao : ao = mkA h o [x', y'] .mini gs) (c : Ctx P w G β ω σ a o ao) (hs0 : semOp ao σ = some σ') : StepOk P w G ω β a o σ σ' := by
  obtain ⟨v, ws, bs, hs, rfl⟩ := semOp_inv hs0; clear hs0
  subst hao
  simp only [mkA, List.map_cons, List.map_nil] at hs
  generalize hp : x'.ev σ.tmps = vx at hs
  generalize hq : y'.ev σ.tmps = vy at hs
  rcases vx with (⟨k, m⟩ | _ | _ | _ | _ | _ | _ | _ | _) | _ | _ | _ | _ | _ <;> try (simp [sem] at hs; done)
  rcases vy with (⟨k', n⟩ | _ | _ | _ | _ | _ | _ | _ | _) | _ | _ | _ | _ | _ <;> try (simp [sem] at hs; done)
  simp only [sem, Option.some.injEq, Prod.mk.injEq] at hs
  obtain ⟨rfl, rfl, rfl⟩ := hs
  rw [fin_put]
  exact ok_min c.F c.d ho hc hxs hx hy hp hq
theorem s_append {cl : Call} {t e : TypeId} {s : Nat} {x : Operand} {x' : Opnd} {i : TypeInfo} {z : Value} (ho : o.op = .call cl) (hc : cl.callee = .builtin .append) (hat : cl.argTypes = #[t, t]) (hargs : cl.args = #[.tmp s, x]) (hu : P.underlying t = some (.slice e)) (hi : P.info? e = some i)
    (hz : i.zero = some z) (hzs : z.cells.size = i.size) (hpos : 0 < i.size) (hby : 0 < i.bytes) (hne : o.dst ≠ some s) (hx : OOk x x') (hao : ao = { mkA h o [.t s, x'] (.append i.size i.bytes) gs with wb := [s] }) (c : Ctx P w G β ω σ a o ao) (hd : o.dst ≠ none) (hs0 : semOp ao σ = some σ') : StepOk P w G ω β a o σ σ' := by
  obtain ⟨v, ws, bs, hs, rfl⟩ := semOp_inv hs0; clear hs0
  have hsz := c.sz s (by subst hao; simp [AOp.wrs])
  subst hao
  cases hdd : o.dst with
  | none => exact absurd hdd hd
  | some d =>
    simp only [mkA, List.map_cons, List.map_nil, Opnd.ev] at hs
    generalize hp : tget σ.tmps s = vx at hs
    rcases vx with p | ⟨e1, cc, r⟩ | _ | _ | _ | _ <;> try (simp [sem] at hs; done)
    simp only [sem] at hs
    split at hs
    · rename_i c' r' hl
      split at hs
      · rename_i hcond
        obtain ⟨rfl, hcc, hb⟩ := hcond
        simp at hs
        obtain ⟨rfl, rfl, rfl⟩ := hs
        have hb2 : r.length + r'.length ≤ maxLen := by
          have : r.length + r'.length ≤ (r.length + r'.length) * i.bytes := Nat.le_mul_of_pos_right _ hby
          simp only [maxLen]; omega
        have := ok_append (P := P) (e1 := none) c.F (c.d d hdd) hsz hdd (fun e => hne (by rw [hdd, e])) ho hc hat hargs hu hi hz hzs hpos hx hp (.inl rfl) hl hcc hb hb2
        simpa [mkA, hdd, Fr.put, setAll] using this
      · cases hs
    · cases hs
theorem s_appendT {cl : Call} {t e : TypeId} {s : Nat} {x : Operand} {x' : Opnd} {i : TypeInfo} {z : Value} (ho : o.op = .call cl) (hc : cl.callee = .builtin .append) (hat : cl.argTypes = #[t, t]) (hargs : cl.args = #[.tmp s, x]) (hu : P.underlying t = some (.slice e)) (hi : P.info? e = some i)
    (hz : i.zero = some z) (hzs : z.cells.size = i.size) (hpos : 0 < i.size) (hby : 0 < i.bytes) (hne : o.dst ≠ some s) (hx : OOk x x') (hao : ao = { mkA h o [.t s, x'] (.appendT e i.size i.bytes) gs with wb := [s] }) (c : Ctx P w G β ω σ a o ao) (hd : o.dst ≠ none) (hs0 : semOp ao σ = some σ') : StepOk P w G ω β a o σ σ' := by
  obtain ⟨v, ws, bs, hs, rfl⟩ := semOp_inv hs0; clear hs0
  have hsz := c.sz s (by subst hao; simp [AOp.wrs])
  subst hao
  cases hdd : o.dst with
  | none => exact absurd hdd hd
  | some d =>
    simp only [mkA, List.map_cons, List.map_nil, Opnd.ev] at hs
    generalize hp : tget σ.tmps s = vx at hs
    rcases vx with p | ⟨e1, cc, r⟩ | _ | _ | _ | _ <;> try (simp [sem] at hs; done)
    simp only [sem] at hs
    split at hs
    · rename_i c' r' hl
      split at hs
      · rename_i hcond
        obtain ⟨rfl, hcc, hb, he1⟩ := hcond
        simp at hs
        obtain ⟨rfl, rfl, rfl⟩ := hs
        have hb2 : r.length + r'.length ≤ maxLen := by
          have : r.length + r'.length ≤ (r.length + r'.length) * i.bytes := Nat.le_mul_of_pos_right _ hby
          simp only [maxLen]; omega
        have := ok_append (P := P) (e1 := some e) c.F (c.d d hdd) hsz hdd (fun e => hne (by rw [hdd, e])) ho hc hat hargs hu hi hz hzs hpos hx hp (.inr ⟨he1, rfl⟩) hl hcc hb hb2
        simpa [mkA, hdd, Fr.put, setAll] using this
      · cases hs
    · cases hs
theorem s_pub {s d : Nat} (ho : o.op = .move (.tmp s) ∨ o.op = .assign (.tmp s)) (hdd : o.dst = some d) (hne : d ≠ s) (hao : ao = { mkA h o [.t s] .pub gs with wb := [s] }) (c : Ctx P w G β ω σ a o ao) (hs0 : semOp ao σ = some σ') : StepOk P w G ω β a o σ σ' := by
  obtain ⟨v, ws, bs, hs, rfl⟩ := semOp_inv hs0; clear hs0
  have hsz := c.sz s (by subst hao; simp [AOp.wrs])
  subst hao
  simp only [mkA, List.map_cons, List.map_nil, Opnd.ev] at hs
  generalize hp : tget σ.tmps s = vx at hs
  cases vx <;> simp [sem] at hs
  obtain ⟨rfl, rfl, rfl⟩ := hs
  have := ok_pub (P := P) (o := o) c.F (c.d d hdd) hsz hdd hne ho hp
  simpa [mkA, hdd, Fr.put, setAll] using this
theorem s_pubv {s d : Nat} (ho : o.op = .move (.tmp s) ∨ o.op = .assign (.tmp s)) (hdd : o.dst = some d) (hne : d ≠ s) (hao : ao = { mkA h o [.t s] .pubv gs with wb := [s] }) (c : Ctx P w G β ω σ a o ao) (hs0 : semOp ao σ = some σ') : StepOk P w G ω β a o σ σ' := by
  obtain ⟨v, ws, bs, hs, rfl⟩ := semOp_inv hs0; clear hs0
  have hsz := c.sz s (by subst hao; simp [AOp.wrs])
  subst hao
  simp only [mkA, List.map_cons, List.map_nil, Opnd.ev] at hs
  generalize hp : tget σ.tmps s = vx at hs
  cases vx <;> simp [sem] at hs
  obtain ⟨rfl, rfl, rfl⟩ := hs
  have := ok_pubv (P := P) (o := o) c.F (c.d d hdd) hsz hdd hne ho hp
  simpa [mkA, hdd, Fr.put, setAll] using this
theorem s_openx {s d : Nat} (ho : o.op = .move (.tmp s) ∨ o.op = .assign (.tmp s)) (hdd : o.dst = some d) (hne : d ≠ s) (hao : ao = { mkA h o [.t s] .openx gs with wb := [s], mw := [d] }) (c : Ctx P w G β ω σ a o ao) (hs0 : semOp ao σ = some σ') : StepOk P w G ω β a o σ σ' := by
  obtain ⟨v, ws, bs, hs, rfl⟩ := semOp_inv hs0; clear hs0
  have hsz := c.sz s (by subst hao; simp [AOp.wrs])
  subst hao
  simp only [mkA, List.map_cons, List.map_nil, Opnd.ev, hdd] at hs
  generalize hp : tget σ.tmps s = vx at hs
  generalize hm : get σ.mem d = ob at hs
  cases vx <;> try (simp [sem] at hs; done)
  cases ob with
  | some b => simp [sem] at hs
  | none =>
    simp only [sem] at hs
    split at hs
    · rename_i hc
      split at hs
      · rename_i hr0
        simp at hs
        obtain ⟨rfl, rfl, rfl⟩ := hs
        subst hr0
        have := ok_openx0 (P := P) (o := o) c.F (c.d d hdd) hdd hne ho hp
        simpa [mkA, hdd, Fr.put, setAll] using this
      · rename_i hr0
        simp at hs
        obtain ⟨rfl, rfl, rfl⟩ := hs
        have := ok_openx (P := P) (o := o) c.F (c.d d hdd) hsz hdd hne ho hp hr0 hm
        simpa [mkA, hdd, Fr.put, setAll] using this
    · cases hs
theorem s_nilsx {t : TypeId} {x : Operand} {n : Nat} (ho : o.op = .move x ∨ o.op = .assign x) (hx : cOpnd P t x = some (.c (.sl n []))) (hao : ao = mkA h o [] (.nilsx n) gs) (c : Ctx P w G β ω σ a o ao) (hs0 : semOp ao σ = some σ') : StepOk P w G ω β a o σ σ' := by
  obtain ⟨v, ws, bs, hs, rfl⟩ := semOp_inv hs0; clear hs0
  subst hao
  have := nil_opnd hx
  subst this
  simp [mkA, sem] at hs
  obtain ⟨rfl, rfl, rfl⟩ := hs
  rw [fin_put]
  refine .pure (v := .slice none 0 0) c.F c.d ?_ (fun d => ?_) (fun s e => by cases e)
  · rcases ho with ho | ho <;> simp [execOp, ho, Act.eval]
  · exact ⟨0, [], World.ownsRow_nil _ _ _ _, by simp, by simp, by simp, by simp, fun g hg => by simp [Value.ownBlock] at hg⟩
theorem s_bslice0 {t e : TypeId} {n d : Nat} (ho : o.op = .buildSlice t 0 #[]) (hu : P.underlying t = some (.slice e)) (hn : szT P e = some n) (hdd : o.dst = some d) (hao : ao = mkA h o [] (.nilsx n) gs) (c : Ctx P w G β ω σ a o ao) (hs0 : semOp ao σ = some σ') : StepOk P w G ω β a o σ σ' := by
  obtain ⟨v, ws, bs, hs, rfl⟩ := semOp_inv hs0; clear hs0
  subst hao
  simp [mkA, sem] at hs
  obtain ⟨rfl, rfl, rfl⟩ := hs
  rw [fin_put]
  have := ok_bslice0 (P := P) (o := o) c.F (c.d d hdd) hdd ho hu hn
  simpa [mkA, hdd, Fr.put] using this
theorem s_bslicex {t e : TypeId} {len n : Nat} {parts : Array (Nat × Operand)} {zs : List PV} {xs : List Opnd} {pl : List (Nat × Nat)} (ho : o.op = .buildSlice t len parts) (hu : P.underlying t = some (.slice e)) (hn : szT P e = some n) (hz : zeroC P e = some zs)
    (hc : cParts P (fun i => some (i * n, n, e)) parts.toList = some (xs, pl)) (hb : 0 < len ∧ 0 < n ∧ zs.length = n ∧ len * n ≤ 2 ^ 20)
    (hao : ao = mkA h o xs (.bslicex n ((List.replicate len zs).flatten) pl) gs) (c : Ctx P w G β ω σ a o ao) (hd : o.dst ≠ none) (hs0 : semOp ao σ = some σ') : StepOk P w G ω β a o σ σ' := by
  obtain ⟨v, ws, bs, hs, rfl⟩ := semOp_inv hs0; clear hs0
  subst hao
  simp only [mkA, sem] at hs
  split at hs
  · rename_i cs hf
    simp at hs
    obtain ⟨rfl, rfl, rfl⟩ := hs
    rw [fin_put]
    cases hdd : o.dst with
    | none => exact absurd hdd hd
    | some d =>
      have := ok_bslicex (P := P) c.F (c.d d hdd) hdd ho hu hn hz hc hb hf
      simpa [mkA, hdd, Fr.put] using this
  · cases hs
theorem s_appendx {cl : Call} {t e : TypeId} {s : Nat} {x : Operand} {x' : Opnd} {i : TypeInfo} {z : Value} (ho : o.op = .call cl) (hc : cl.callee = .builtin .append) (hat : cl.argTypes = #[t, t]) (hargs : cl.args = #[.tmp s, x]) (hu : P.underlying t = some (.slice e)) (hi : P.info? e = some i)
    (hz : i.zero = some z) (hzs : z.cells.size = i.size) (hpos : 0 < i.size) (hby : 0 < i.bytes) (hne : o.dst ≠ some s) (hx : OOk x x') (hao : ao = { mkA h o [.t s, x'] (.appendx i.size i.bytes) gs with wb := [s] }) (c : Ctx P w G β ω σ a o ao) (hd : o.dst ≠ none) (hs0 : semOp ao σ = some σ') : StepOk P w G ω β a o σ σ' := by
  obtain ⟨v, ws, bs, hs, rfl⟩ := semOp_inv hs0; clear hs0
  have hsz := c.sz s (by subst hao; simp [AOp.wrs])
  subst hao
  cases hdd : o.dst with
  | none => exact absurd hdd hd
  | some d =>
    simp only [mkA, List.map_cons, List.map_nil, Opnd.ev] at hs
    generalize hp : tget σ.tmps s = vx at hs
    cases vx <;> try (simp [sem] at hs; done)
    rename_i cc r
    simp only [sem] at hs
    split at hs
    · rename_i c' r' hl
      split at hs
      · rename_i hcond
        obtain ⟨rfl, hcc, hb⟩ := hcond
        simp at hs
        obtain ⟨rfl, rfl, rfl⟩ := hs
        have hb2 : r.length + r'.length ≤ maxLen := by
          have : r.length + r'.length ≤ (r.length + r'.length) * i.bytes := Nat.le_mul_of_pos_right _ hby
          simp only [maxLen]; omega
        have := ok_appendx (P := P) c.F (c.d d hdd) hsz hdd (fun e => hne (by rw [hdd, e])) ho hc hat hargs hu hi hz hzs hpos hx hp hl hcc hb hb2
        simpa [mkA, hdd, Fr.put, setAll] using this
      · cases hs
    · cases hs
theorem s_eqsl {n : Bool} {op : BinOp} {t t' e : TypeId} {x y : Operand} {x' : Opnd} {k : Nat} (ho : o.op = .binOp op t x y t') (hy : cOpnd P t' y = some (.c (.sl k []))) (hu : P.underlying t = some (.slice e)) (hop : op = if n then .neq else .eql) (hx : OOk x x') (hao : ao = mkA h o [x'] (.eqsl n) gs) (c : Ctx P w G β ω σ a o ao) (hs0 : semOp ao σ = some σ') : StepOk P w G ω β a o σ σ' := by
  obtain ⟨v, ws, bs, hs, rfl⟩ := semOp_inv hs0; clear hs0
  subst hao
  have := nil_opnd hy
  subst this
  simp only [mkA, List.map_cons, List.map_nil, sem] at hs
  split at hs
  · rename_i c' hl
    simp at hs
    obtain ⟨rfl, rfl, rfl⟩ := hs
    rw [fin_put]
    exact ok_eqsl c.F c.d ho hu hop hx hl
  · rename_i c' r1 r2 hl
    simp at hs
    obtain ⟨rfl, rfl, rfl⟩ := hs
    rw [fin_put]
    have := ok_eqsl (P := P) c.F c.d ho hu hop hx hl
    simpa [mkA] using this
  · cases hs
theorem s_range {t : TypeId} {x : Operand} {x' : Opnd} {d : Nat} (ho : o.op = .range t x) (hu : P.underlying t = some .string) (hx : OOk x x') (hdd : o.dst = some d) (hao : ao = { mkA h o [x'] .range gs with mw := [d] }) (c : Ctx P w G β ω σ a o ao) (hs0 : semOp ao σ = some σ') : StepOk P w G ω β a o σ σ' := by
  obtain ⟨v, ws, bs, hs, rfl⟩ := semOp_inv hs0; clear hs0
  subst hao
  simp only [mkA, List.map_cons, List.map_nil, hdd] at hs
  generalize hp : x'.ev σ.tmps = vx at hs
  generalize hm : get σ.mem d = ob at hs
  rcases vx with (_ | _ | l | _ | _ | _ | _ | _ | _) | _ | _ | _ | _ | _ <;> try (simp [sem] at hs; done)
  cases ob with
  | some b => simp [sem] at hs
  | none =>
    simp [sem] at hs
    obtain ⟨rfl, rfl, rfl⟩ := hs
    simpa [mkA, hdd, Fr.put, setAll] using ok_range (P := P) c.F (c.d d hdd) hdd hm ho hu hx hp
theorem s_next {x : Operand} {x' : Opnd} (ho : o.op = .next x true) (hx : OOk x x') (hao : ao = { mkA h o [x'] .next gs with mw := h.mw }) (c : Ctx P w G β ω σ a o ao) (hs0 : semOp ao σ = some σ') : StepOk P w G ω β a o σ σ' := by
  obtain ⟨v, ws, bs, hs, rfl⟩ := semOp_inv hs0; clear hs0
  subst hao
  simp only [mkA, List.map_cons, List.map_nil] at hs
  generalize hp : x'.ev σ.tmps = vx at hs
  rcases vx with p | ⟨e1, cc, r⟩ | ⟨s, off⟩ | ⟨cs, off⟩ | _ | _ <;> try (simp [sem] at hs; done)
  cases off with
  | succ n => simp [sem] at hs
  | zero =>
    rcases hmw : h.mw with _ | ⟨s', _ | ⟨s2, ms⟩⟩ <;> rw [hmw] at hs
    · simp [sem] at hs
    · simp only [List.map_cons, List.map_nil] at hs
      generalize hb : get σ.mem s' = ob at hs
      rcases ob with _ | (⟨e0, cs⟩ | cs | ⟨l, pos⟩) <;> try (simp [sem] at hs; done)
      simp only [sem] at hs
      split at hs
      · rename_i e; subst e
        have := ok_next (P := P) (t := true) c.F c.d ho hx hp hb
        split at hs
        · rename_i hc
          simp at hs
          obtain ⟨rfl, rfl, rfl⟩ := hs
          rw [if_pos hc] at this
          simpa [mkA, hmw, setAll] using this
        · rename_i hc
          simp at hs
          obtain ⟨rfl, rfl, rfl⟩ := hs
          rw [if_neg hc] at this
          simpa [mkA, hmw, setAll] using this
      · cases hs
    · simp [sem] at hs
end ops
end Go.AR
