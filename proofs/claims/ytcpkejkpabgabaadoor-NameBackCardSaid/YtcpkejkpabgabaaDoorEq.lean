import Derived.Test.YtcpkejkpabgabaaDoorOps8
set_option linter.all false
namespace Go.AR
open Go
section ops
variable {P : Program} {w : World} {G β : Nat → Nat} {ω : Nat → Option Occ} {σ σ' : Fr} {a : Act} {o : Oper}

theorem eqCells_len : ∀ {ks : List CK} {as bs : List PV} {r : Bool}, eqCells ks as bs = some r → as.length = ks.length ∧ bs.length = ks.length
  | [], [], [], _, _ => ⟨rfl, rfl⟩
  | [], [], _ :: _, _, h => by simp [eqCells] at h
  | [], _ :: _, _, _, h => by simp [eqCells] at h
  | _ :: _, [], _, _, h => by simp [eqCells] at h
  | _ :: _, _ :: _, [], _, h => by simp [eqCells] at h
  | k :: ks, a :: as, b :: bs, r, h => by
    simp only [eqCells] at h
    split at h
    · rename_i x y hx hy
      obtain ⟨h1, h2⟩ := eqCells_len hy
      simp [h1, h2]
    · cases h
theorem eqCells_app : ∀ (s r : List CK) {as bs : List PV} {q : Bool}, eqCells (s ++ r) as bs = some q →
    ∃ x y, eqCells s (as.take s.length) (bs.take s.length) = some x ∧ eqCells r (as.drop s.length) (bs.drop s.length) = some y ∧ q = (x && y)
  | [], r, as, bs, q, h => ⟨true, q, by simp [eqCells], by simpa using h, by simp⟩
  | k :: s, r, [], bs, q, h => by simp [eqCells] at h
  | k :: s, r, a :: as, [], q, h => by simp [eqCells] at h
  | k :: s, r, a :: as, b :: bs, q, h => by
    simp only [List.cons_append, eqCells] at h
    split at h
    · rename_i x y hx hy
      obtain ⟨u, v, h1, h2, rfl⟩ := eqCells_app s r hy
      simp at h; subst h
      exact ⟨x && u, v, by simp [eqCells, hx, h1], by simpa using h2, by simp [Bool.and_assoc]⟩
    · cases h

/-- A value of a type, as cells. -/
def AtT (P : Program) (w : World) (G : Nat → Nat) (t : TypeId) (x : Value) (cs : List PV) : Prop :=
  (isAggT P t = some true ∧ ∃ arr, x = .agg arr ∧ CellsRep w G cs arr) ∨ (isAggT P t = some false ∧ ∃ p, cs = [p] ∧ Rep w G p x)

theorem CellsRep.sub {cs : List PV} {arr : Array Value} (h : CellsRep w G cs arr) (off n : Nat) (hle : off + n ≤ cs.length) : CellsRep w G ((cs.drop off).take n) (arr.extract off (off + n)) := by
  obtain ⟨vs', e, hl, h', h1⟩ := Rep.agg_inv (h.agg.part off n hle)
  cases e
  exact ⟨hl, h1, h'⟩
theorem shp_agg {n : Nat} {t : TypeId} {sh : List CK} (h : shp P n t = some sh) : isAggT P t = some true ∨ (isAggT P t = some false ∧ sh.length = 1) := by
  cases n with
  | zero => simp [shp] at h
  | succ n =>
    simp only [shp, isAggT, uT] at h ⊢
    cases hu : P.underlying t with
    | none => simp [hu] at h
    | some d => cases d <;> simp [hu] at h <;> simp <;> (subst h; rfl)
theorem run_part_at {t : TypeId} {n : Nat} {sh : List CK} {cs : List PV} {arr : Array Value} {off : Nat} (hs : shp P n t = some sh) (hz : szT P t = some sh.length) (h : CellsRep w G cs arr) (hle : off + sh.length ≤ cs.length) :
    ∃ x, (part t arr off).run P w = .ok x w ∧ AtT P w G t x ((cs.drop off).take sh.length) := by
  rcases shp_agg hs with hg | ⟨hg, hl⟩
  · exact ⟨.agg (arr.extract off (off + sh.length)), by simp [part, run_isAggT hg, run_szT hz], .inl ⟨hg, _, rfl, h.sub off _ hle⟩⟩
  · have hlt : off < arr.size := by rw [h.1]; omega
    have hlt2 : off < cs.length := by omega
    refine ⟨arr[off], by simp [part, run_isAggT hg, Array.getElem?_eq_getElem hlt], .inr ⟨hg, cs[off], ?_, h.2.2 off _ _ (List.getElem?_eq_getElem hlt2) (Array.getElem?_eq_getElem hlt)⟩⟩
    rw [hl]
    apply List.ext_getElem?
    intro i
    cases i with
    | zero => simp [List.getElem?_eq_getElem hlt2]
    | succ i => simp; omega

theorem eqFields_at {n D : Nat} (IH : ∀ (t : TypeId) (sh : List CK), shp P n t = some sh → ∀ (x y : Value) (cs ds : List PV) (r : Bool), AtT P w G t x cs → AtT P w G t y ds → eqCells sh cs ds = some r → (Op.equalIn D t x y).run P w = .ok r w)
    {xs ys : Array Value} {cs ds : List PV} (hx : CellsRep w G cs xs) (hy : CellsRep w G ds ys) :
    ∀ (fs : List Field) (off : Nat) (sh : List CK) (r : Bool), off ≤ cs.length → off ≤ ds.length → shpF P (shp P n) off fs = some sh → eqCells sh (cs.drop off) (ds.drop off) = some r → (Op.eqFields D xs ys fs).run P w = .ok r w
  | [], off, sh, r, _, _, h, he => by
    simp [shpF] at h; subst h
    have hl := eqCells_len he
    have e1 : cs.drop off = [] := List.eq_nil_of_length_eq_zero hl.1
    have e2 : ds.drop off = [] := List.eq_nil_of_length_eq_zero hl.2
    rw [e1, e2] at he
    simp [eqCells] at he; subst he
    simp [Op.eqFields]
  | f :: fs, off, sh, r, hoc, hod, h, he => by
    simp only [shpF] at h
    split at h
    · rename_i hcond
      obtain ⟨ho, hn⟩ := hcond
      split at h
      · rename_i s hs
        split at h
        · rename_i hz
          split at h
          · rename_i q hq
            simp at h; subst h
            obtain ⟨u, v, h1, h2, rfl⟩ := eqCells_app s q he
            have hl := eqCells_len he
            simp at hl
            have hcl : off + s.length ≤ cs.length := by omega
            have hdl : off + s.length ≤ ds.length := by omega
            obtain ⟨vx, px, ax⟩ := run_part_at hs hz hx hcl
            obtain ⟨vy, py, ay⟩ := run_part_at hs hz hy hdl
            have hr := IH f.type s hs vx vy _ _ u ax ay h1
            subst ho
            rw [List.drop_drop, List.drop_drop] at h2
            have ih := eqFields_at IH hx hy fs _ q v hcl hdl hq h2
            simp only [Op.eqFields, hn, ne_eq, not_false_eq_true, if_true, Sem.run_bind, px, py, Result.andThen_ok, hr]
            cases u
            · simp
            · simpa using ih
          · cases h
        · cases h
      · cases h
    · cases h

theorem eqItems_at {n D : Nat} {e : TypeId} {s : List CK} (IH : ∀ (x y : Value) (cs ds : List PV) (r : Bool), AtT P w G e x cs → AtT P w G e y ds → eqCells s cs ds = some r → (Op.equalIn D e x y).run P w = .ok r w)
    (hs : shp P n e = some s) (hz : szT P e = some s.length) {xs ys : Array Value} {cs ds : List PV} (hx : CellsRep w G cs xs) (hy : CellsRep w G ds ys) :
    ∀ (k i : Nat) (r : Bool), (i + k) * s.length ≤ cs.length → (i + k) * s.length ≤ ds.length → eqCells (List.replicate k s).flatten (cs.drop (i * s.length)) (ds.drop (i * s.length)) = some r → (Op.eqItems D e s.length xs ys (List.range' i k)).run P w = .ok r w
  | 0, i, r, _, _, he => by
    simp at he
    have hl := eqCells_len he
    have e1 : cs.drop (i * s.length) = [] := List.eq_nil_of_length_eq_zero hl.1
    have e2 : ds.drop (i * s.length) = [] := List.eq_nil_of_length_eq_zero hl.2
    rw [e1, e2] at he
    simp [eqCells] at he; subst he
    simp [Op.eqItems]
  | k + 1, i, r, hc, hd, he => by
    rw [List.replicate_succ, List.flatten_cons] at he
    obtain ⟨u, v, h1, h2, rfl⟩ := eqCells_app s _ he
    have hle : i * s.length + s.length ≤ (i + (k + 1)) * s.length := by rw [← Nat.succ_mul]; exact Nat.mul_le_mul_right _ (by omega)
    obtain ⟨vx, px, ax⟩ := run_part_at hs hz hx (off := i * s.length) (by omega)
    obtain ⟨vy, py, ay⟩ := run_part_at hs hz hy (off := i * s.length) (by omega)
    have hr := IH vx vy _ _ u ax ay h1
    rw [List.drop_drop, List.drop_drop, show i * s.length + s.length = (i + 1) * s.length by rw [Nat.add_mul]; omega] at h2
    have ih := eqItems_at IH hs hz hx hy k (i + 1) v (by rw [show i + 1 + k = i + (k + 1) by omega]; exact hc) (by rw [show i + 1 + k = i + (k + 1) by omega]; exact hd) h2
    simp only [List.range'_succ, Op.eqItems, Sem.run_bind, px, py, Result.andThen_ok, hr]
    cases u
    · simp
    · simpa using ih

def aggD : TypeDesc → Bool
  | .struct _ => true
  | .array _ _ => true
  | _ => false
theorem isAggT_of {t : TypeId} {d : TypeDesc} (h : P.underlying t = some d) : isAggT P t = some (aggD d) := by
  unfold isAggT uT
  rw [h]
  cases d <;> rfl
theorem eqIn : ∀ (n : Nat) (t : TypeId) (sh : List CK), shp P n t = some sh → ∀ (D : Nat), n ≤ D → ∀ (x y : Value) (cs ds : List PV) (r : Bool), AtT P w G t x cs → AtT P w G t y ds → eqCells sh cs ds = some r →
    (Op.equalIn D t x y).run P w = .ok r w
  | 0, t, sh, h, _, _, _, _, _, _, _, _, _, _ => by simp [shp] at h
  | n + 1, t, sh, h, D, hD, x, y, cs, ds, r, hx, hy, he => by
    obtain ⟨D, rfl⟩ : ∃ d, D = d + 1 := ⟨D - 1, by omega⟩
    have scalar : ∀ {ck}, sh = [ck] → isAggT P t = some false → ∃ p q, cs = [p] ∧ ds = [q] ∧ Rep w G p x ∧ Rep w G q y ∧ eqB ck p q = some r := by
      intro ck hsh hg
      rcases hx with ⟨h1, _⟩ | ⟨_, p, rfl, hp⟩
      · rw [hg] at h1; cases h1
      · rcases hy with ⟨h1, _⟩ | ⟨_, q, rfl, hq⟩
        · rw [hg] at h1; cases h1
        · subst hsh
          refine ⟨p, q, rfl, rfl, hp, hq, ?_⟩
          simp only [eqCells] at he
          split at he
          · rename_i a b ha hb
            simp at hb he
            subst hb; simp at he; subst he; exact ha
          · cases he
    have aggr : isAggT P t = some true → ∃ xa ya, x = .agg xa ∧ y = .agg ya ∧ CellsRep w G cs xa ∧ CellsRep w G ds ya := by
      intro hg
      rcases hx with ⟨_, xa, rfl, hxa⟩ | ⟨h1, _⟩
      · rcases hy with ⟨_, ya, rfl, hya⟩ | ⟨h1, _⟩
        · exact ⟨xa, ya, rfl, rfl, hxa, hya⟩
        · rw [hg] at h1; cases h1
      · rw [hg] at h1; cases h1
    simp only [shp, uT] at h
    cases hu : P.underlying t with
    | none => simp [hu] at h
    | some d =>
      have hga := isAggT_of hu
      cases d <;> simp only [hu] at h <;> try (cases h; done)
      case bool =>
        cases h
        obtain ⟨p, q, rfl, rfl, hp, hq, hb⟩ := scalar rfl hga
        cases p <;> cases q <;> simp [eqB] at hb
        subst hb
        rw [Rep.bool_inv hp, Rep.bool_inv hq]
        exact run_equalIn_bool w D t _ _ hu
      case int k =>
        cases h
        obtain ⟨p, q, rfl, rfl, hp, hq, hb⟩ := scalar rfl hga
        cases p <;> cases q <;> simp [eqB] at hb
        obtain ⟨rfl, rfl⟩ := hb
        rw [Rep.int_inv hp, Rep.int_inv hq]
        exact run_equalIn_int w D t _ _ _ _ hu
      case string =>
        cases h
        obtain ⟨p, q, rfl, rfl, hp, hq, hb⟩ := scalar rfl hga
        cases p <;> cases q <;> simp [eqB] at hb
        subst hb
        rw [Rep.str_inv hp, Rep.str_inv hq]
        rw [run_equalIn_string w D t _ _ hu]
        simp
      case array k e =>
        split at h
        · rename_i s hs
          split at h
          · rename_i hz
            cases h
            obtain ⟨xa, ya, rfl, rfl, hxa, hya⟩ := aggr hga
            obtain ⟨i, hi, hsz⟩ := szT_info hz
            have hfl : (List.replicate k s).flatten.length = k * s.length := by
              have : ∀ (k : Nat), (List.replicate k s).flatten.length = k * s.length := fun k => by
                induction k with
                | zero => simp
                | succ k ih => rw [List.replicate_succ, List.flatten_cons, List.length_append, ih, Nat.add_mul]; omega
              exact this k
            have hl := eqCells_len he
            have hcs : P.cellsOf e = s.length := by simp [Program.cellsOf, hi, hsz]
            rw [run_equalIn_array w D xa ya hu hi, hcs, List.range_eq_range']
            exact eqItems_at (n := n) (fun x y cs ds r => eqIn n e s hs D (by omega) x y cs ds r) hs hz hxa hya k 0 r (by rw [hl.1, hfl]; simp) (by rw [hl.2, hfl]; simp) (by simpa using he)
          · cases h
        · cases h
      case struct fs =>
        split at h
        · cases h
        · rename_i hst
          obtain ⟨xa, ya, rfl, rfl, hxa, hya⟩ := aggr hga
          have hfo : P.fieldsOf t = fs := by simp [Program.fieldsOf, hu]
          rw [run_equalIn_struct w D t xa ya (by rw [hfo]; exact hu) (by simpa using hst), hfo]
          exact eqFields_at (n := n) (fun t sh hs x y cs ds r => eqIn n t sh hs D (by omega) x y cs ds r) hxa hya fs.toList 0 sh r (Nat.zero_le _) (Nat.zero_le _) h (by simpa using he)

theorem ok_eqa {n : Bool} {op : BinOp} {t t' : TypeId} {x y : Operand} {x' y' : Opnd} {sh : List CK} {cs ds : List PV} {r : Bool} (hF : FRel w G β ω σ a.tmps) (hd : ∀ d, o.dst = some d → d < a.tmps.size)
    (ho : o.op = .binOp op t x y t') (hga : isAggT P t = some true) (hgt : P.eqGuardType P.depth t = false) (hs : shp P 8 t = some sh) (hop : op = if n then .neq else .eql) (hx : OOk x x') (hy : OOk y y')
    (ex : x'.ev σ.tmps = .val (.agg cs)) (ey : y'.ev σ.tmps = .val (.agg ds)) (he : eqCells sh cs ds = some r) :
    StepOk P w G ω β a o σ (σ.put o.dst (.val (.bool (if n then !r else r)))) := by
  obtain ⟨xa, e1, hxa⟩ := Rep.agg_inv (hx.val hF ex)
  obtain ⟨ya, e2, hya⟩ := Rep.agg_inv (hy.val hF ey)
  have hr := eqIn (P := P) (w := w) (G := G) 8 t sh hs 10000 (by omega) (.agg xa) (.agg ya) cs ds r (.inl ⟨hga, xa, rfl, hxa.1, hxa.2.2, hxa.2.1⟩) (.inl ⟨hga, ya, rfl, hya.1, hya.2.2, hya.2.1⟩) he
  have hg := fun op => run_eqGuard_agg (P := P) w op t x y xa ya hgt
  cases n <;> simp at hop <;> subst hop <;> refine ok_val hF hd ?_ (Rep.bool _)
  · simp only [execOp, ho, e1, e2, Sem.run_bind, hg, Result.andThen_ok, run_eql_struct, hr, Sem.run_pure, Bool.false_eq_true, if_false]
  · simp only [execOp, ho, e1, e2, Sem.run_bind, hg, Result.andThen_ok, run_neq_struct, hr, Sem.run_pure, if_true]
end ops
end Go.AR
