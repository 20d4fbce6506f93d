import Derived.Test.YtlhahjlnhkokcaaG16
import Derived.Test.YtlhahjlnhkokcaaG18
import Derived.Laws.Cover4
import Derived.MapKept
set_option linter.all false
/-! Characters to text; maps. -/
namespace Go.AR
open Go
section ops
variable {P : Program} {w : World} {G β : Nat → Nat} {ω : Nat → Option Occ} {σ σ' : Fr} {a : Act} {o : Oper}
theorem runesOf_get : ∀ {rows : List (List PV)} {l : List Int}, runesOf rows = some l → rows = l.map (fun n => [.int .i32 n]) := by
  intro rows
  induction rows with
  | nil => intro l h; simp [runesOf] at h; subst h; rfl
  | cons r rows ih =>
    intro l h
    unfold runesOf at h
    split at h
    · simp_all
    · rename_i n r' he
      simp only [List.cons.injEq] at he
      obtain ⟨rfl, rfl⟩ := he
      split at h
      · rename_i l' hl'
        simp at h; subst h
        rw [ih hl']; rfl
      · cases h
    · cases h
theorem encs_fold (ns : List Int) : ∀ s : ByteArray, (ns.foldl (fun r n => r ++ Utf8.encode n) s).data.toList = s.data.toList ++ encs ns := by
  induction ns with
  | nil => intro s; simp [encs]
  | cons n ns ih =>
    intro s
    rw [List.foldl_cons, ih, ByteArray.data_append]
    simp [encs]
theorem encs_bytes (ns : List Int) : runesBytes ns = ⟨⟨encs ns⟩⟩ := by
  have h : (runesBytes ns).data.toList = encs ns := by
    unfold runesBytes
    rw [encs_fold]
    rfl
  apply ByteArray.ext
  apply Array.ext'
  exact h
theorem ok_r2s {s d e : TypeId} {x : Operand} {x' : Opnd} {c : Nat} {rows : List (List PV)} {l : List Int} (hF : FRel w G β ω σ a.tmps) (hd : ∀ d, o.dst = some d → d < a.tmps.size)
    (ho : o.op = .convert s d x) (hs : P.underlying s = some (.slice e)) (he : P.underlying e = some (.int .i32)) (hu : P.underlying d = some .string) (hx : OOk x x') (ex : (x'.ev σ.tmps).ro = .val (.sl c rows)) (hb : runesOf rows = some l) :
    StepOk P w G ω β a o σ (σ.put o.dst (.val (.str (encs l)))) := by
  have hrep := hx.valro hF ex
  obtain ⟨A, cap, e1, hc, _, hcap, hcell⟩ := Rep.sl_inv hrep
  have := runesOf_get hb
  subst this
  have : (convert s d (a.eval x)).run P w = .ok (.string ⟨⟨encs l⟩⟩) w := by
    rw [e1]
    by_cases hne : l = []
    · subst hne
      rcases A with _ | A
      · rw [run_convert_runes_nil w s d e _ _ hs he hu]
        rfl
      · have := run_convert_runes (P := P) w s d e A 0 cap [] (Nat.le_refl _) hs he hu (fun j hj => by simp at hj)
        rw [encs_bytes] at this
        simpa using this
    · obtain ⟨b, off, rfl, hG, hcell⟩ := hcell (by simpa using hne)
      have := run_convert_runes (P := P) w s d e ⟨b, off, none⟩ l.length cap l (Nat.le_refl _) hs he hu (fun j hj => ?_)
      · rw [encs_bytes, List.take_length] at this
        simpa using this
      · obtain ⟨v, hv, hr⟩ := hcell j (.int .i32 (l.getD j 0)) (by
          rw [flat_one]; simp [List.getElem?_eq_getElem hj, List.getD_eq_getElem?_getD])
        have e2 : (⟨b, off, none⟩ : Addr).add j = ⟨b, off + j, none⟩ := by unfold Addr.add; split <;> simp_all
        rw [e2, hv, Rep.int_inv hr]
  refine ok_val hF hd ?_ (Rep.str _)
  simp [execOp, ho, this]

theorem ok_mkmap {t : TypeId} {d : Nat} (hF : FRel w G β ω σ a.tmps) (hd : d < a.tmps.size) (hdst : o.dst = some d) (hm : get σ.mem d = none) (ho : o.op = .makeMap t none) :
    StepOk P w G ω β a o σ { tmps := set σ.tmps d (.mp d), mem := set σ.mem d (.map []) } := by
  have hr : (execOp a.eval o).run P w = .ok (.value (.map (some w.heap.size))) (w.alloc (.map #[] 0)) := by
    simp [execOp, ho, Instr.makeMap, Sem.run_bind, run_newObj_alloc, Result.andThen]
  have hsame := alloc_same (XT := fun _ => False) (XB := fun _ => False) (ob := .map #[] 0) (n := 0) (d := d) (occ := .blk d) (σ := σ) (a := a) hF
  have hβ : ∀ s, get σ.mem s ≠ none → upd β d w.heap.size s = β s := fun s hs => upd_ne _ _ _ _ (fun e => by rw [e] at hs; exact hs hm)
  refine ⟨.value (.map (some w.heap.size)), .map (some w.heap.size), w.alloc (.map #[] 0), upd G w.heap.size 0, upd β d w.heap.size, upd ω w.heap.size (some (.blk d)), hr, .inl rfl, alloc_evo _ 0 hF.gnew, fun b hb => ?_, hβ, ?_⟩
  · by_cases e : b = w.heap.size
    · exact .inr (by omega)
    · rw [upd_ne _ _ _ _ e] at hb; exact .inl hb
  · refine ⟨fun t => ?_, fun t s h => ?_, fun s b hb => ?_, fun b hb => ?_, fun b hb => ?_⟩
    · simp only [hdst, Act.put]
      rw [tget_set]
      by_cases e1 : t = d
      · subst e1
        rw [if_pos rfl, getD_set_eq _ _ _ _ hd]
        simp [TRep, upd_eq]
      · rw [if_neg e1, getD_set_ne _ _ _ _ _ (Ne.symm e1)]
        exact hF.rest_tmp hsame hβ t id
    · rw [tget_set] at h
      rw [get_set]
      split at h
      · cases h; simp
      · have := hF.live t s h
        split
        · simp
        · exact this
    · rw [get_set] at hb
      split at hb
      · rename_i e1
        subst e1
        cases hb
        refine ⟨by rw [upd_eq, upd_eq], ?_⟩
        rw [upd_eq]
        exact ⟨#[], 0, heap_alloc_new w _, by rw [upd_eq], rfl, fun i kv e h => by simp at h⟩
      · exact hF.rest_blk hsame hβ s id b hb
    · simp only [World.size_alloc] at hb
      rw [upd_ne _ _ _ _ (by omega)]; exact hF.gnew b (by omega)
    · simp only [World.size_alloc]
      by_cases e : b = w.heap.size
      · omega
      · rw [upd_ne _ _ _ _ e] at hb
        have := hF.ωnew b hb; omega

/-! ### Keys -/
theorem shpF_mono {f g : TypeId → Option (List CK)} (hfg : ∀ t s, f t = some s → g t = some s) : ∀ (L : List Field) (off : Nat) (s : List CK), shpF P f off L = some s → shpF P g off L = some s
  | [], _, _, h => h
  | fd :: fs, off, s, h => by
    simp only [shpF] at h ⊢
    split at h
    · rename_i hc
      rw [if_pos hc]
      split at h
      · rename_i s1 hs1
        split at h
        · rename_i hz
          split at h
          · rename_i r hr
            cases h
            rw [hfg _ _ hs1]
            simp only
            rw [if_pos hz, shpF_mono hfg fs _ r hr]
          · cases h
        · cases h
      · cases h
    · cases h
theorem shpK_shp : ∀ (n : Nat) (t : TypeId) (s : List CK), shpK P n t = some s → shp P n t = some s
  | 0, t, s, h => by simp [shpK] at h
  | n + 1, t, s, h => by
    simp only [shpK, shp] at h ⊢
    cases hu : uT P t with
    | none => simp [hu] at h
    | some d =>
      cases d <;> simp only [hu] at h ⊢ <;> try (first | exact h | (cases h; done))
      split at h
      · cases h
      · rename_i hst
        rw [if_neg hst]
        exact shpF_mono (shpK_shp n) _ _ _ h
theorem checkKey_at (em : Bool) : ∀ (n : Nat) (t : TypeId) (sh : List CK), shpK P n t = some sh → ∀ (D : Nat), n ≤ D → ∀ (x : Value) (cs : List PV), AtT P w G t x cs → cs.length = sh.length → (Instr.checkKey em D t x).run P w = .ok () w
  | 0, t, sh, h, _, _, _, _, _, _ => by simp [shpK] at h
  | n + 1, t, sh, h, D, hD, x, cs, hx, hlen => by
    obtain ⟨D, rfl⟩ : ∃ d, D = d + 1 := ⟨D - 1, by omega⟩
    simp only [shpK, uT] at h
    cases hu : P.underlying t with
    | none => simp [hu] at h
    | some d =>
      have hga := isAggT_of hu
      cases d <;> simp only [hu] at h <;> try (cases h; done)
      case bool => simp [Instr.checkKey, run_underlying hu]
      case int k => simp [Instr.checkKey, run_underlying hu]
      case string => simp [Instr.checkKey, run_underlying hu]
      case struct fs =>
        split at h
        · cases h
        · rcases hx with ⟨_, xa, rfl, hxa⟩ | ⟨h1, _⟩
          · rw [Instr.checkKey]
            simp only [Sem.run_bind, run_underlying hu, Result.andThen_ok]
            rw [← Array.forIn_toList]
            have step : ∀ (L : List Field) (off : Nat) (s : List CK), off + s.length ≤ cs.length → shpF P (shpK P n) off L = some s →
                ∀ f ∈ L, f.name ≠ "_" ∧ ∃ v, (part f.type xa f.offset).run P w = .ok v w ∧ (Instr.checkKey em D f.type v).run P w = .ok () w := by
              intro L
              induction L with
              | nil => intro off s _ _ f hf; simp at hf
              | cons f L ih =>
                intro off s hle hs
                simp only [shpF] at hs
                split at hs
                · rename_i hcond
                  obtain ⟨hoff, hn⟩ := hcond
                  split at hs
                  · rename_i s1 hs1
                    split at hs
                    · rename_i hz
                      split at hs
                      · rename_i r hr
                        cases hs
                        simp at hle
                        subst hoff
                        obtain ⟨v, p1, a1⟩ := run_part_at (w := w) (shpK_shp n _ _ hs1) hz hxa (off := f.offset) (by omega)
                        have p2 := checkKey_at em n f.type s1 hs1 D (by omega) v _ a1 (by simp; omega)
                        intro f' hf'
                        rcases List.mem_cons.1 hf' with rfl | hf'
                        · exact ⟨hn, v, p1, p2⟩
                        · exact ih _ r (by omega) hr f' hf'
                      · cases hs
                    · cases hs
                  · cases hs
                · cases hs
            have each := step fs.toList 0 sh (by omega) h
            clear step h
            generalize fs.toList = L at each
            induction L with
            | nil => simp
            | cons f L ih =>
              obtain ⟨hn, v, p1, p2⟩ := each f (by simp)
              simp only [List.forIn_cons, Sem.run_bind, hn, ne_eq, not_false_eq_true, if_true, Result.andThen_ok, p1, p2, Sem.run_pure]
              exact ih (fun y hy => each y (by simp [hy]))
          · rw [hga] at h1; cases h1

/-- Where a key stands. -/
def findI (sh : List CK) (k : PV) : List (PV × PV) → Option (Option Nat)
  | [] => some none
  | (k', _) :: r => match k, k' with
    | .agg a, .agg b => match eqCells sh a b with
      | some true => some (some 0)
      | some false => match findI sh k r with
        | some (some j) => some (some (j + 1))
        | x => x
      | none => none
    | _, _ => none
theorem findP_I {sh : List CK} {k : PV} : ∀ {kvs : List (PV × PV)} {r : Option PV}, findP sh k kvs = some r → ∃ q, findI sh k kvs = some q ∧ (q = none → r = none) ∧ (∀ j, q = some j → ∃ kv, kvs[j]? = some kv ∧ r = some kv.2)
  | [], r, h => by simp [findP] at h; exact ⟨none, rfl, fun _ => h.symm, fun j hj => by cases hj⟩
  | (k', v) :: kvs, r, h => by
    simp only [findP] at h
    simp only [findI]
    split at h
    · rename_i a b
      split at h
      · rename_i he
        cases h
        exact ⟨some 0, by simp [he], (fun h => by cases h), fun j hj => by cases hj; exact ⟨_, rfl, rfl⟩⟩
      · rename_i he
        obtain ⟨q, h1, h2, h3⟩ := findP_I h
        cases q with
        | none => exact ⟨none, by simp [he, h1], h2, fun j hj => by cases hj⟩
        | some j => exact ⟨some (j + 1), by simp [he, h1], (fun h => by cases h), fun i hi => by cases hi; obtain ⟨kv, e1, e2⟩ := h3 j rfl; exact ⟨kv, by simpa using e1, e2⟩⟩
      · cases h
    · cases h
theorem setP_I {sh : List CK} {k v : PV} : ∀ {kvs kvs' : List (PV × PV)}, setP sh k v kvs = some kvs' → ∃ q, findI sh k kvs = some q ∧ (q = none → kvs' = kvs ++ [(k, v)]) ∧ (∀ j, q = some j → kvs' = kvs.set j (k, v))
  | [], kvs', h => by simp [setP] at h; exact ⟨none, rfl, fun _ => h.symm, fun j hj => by cases hj⟩
  | (k', v') :: kvs, kvs', h => by
    simp only [setP] at h
    simp only [findI]
    split at h
    · rename_i a b
      split at h
      · rename_i he
        cases h
        exact ⟨some 0, by simp [he], (fun h => by cases h), fun j hj => by cases hj; rfl⟩
      · rename_i he
        split at h
        · rename_i r' hr'
          cases h
          obtain ⟨q, h1, h2, h3⟩ := setP_I hr'
          cases q with
          | none => exact ⟨none, by simp [he, h1], (fun _ => by rw [h2 rfl]; rfl), fun j hj => by cases hj⟩
          | some j => exact ⟨some (j + 1), by simp [he, h1], (fun h => by cases h), fun i hi => by cases hi; rw [h3 j rfl]; rfl⟩
        · cases h
      · cases h
    · cases h
theorem eqCells_get : ∀ {sh : List CK} {as bs : List PV}, eqCells sh as bs = some true → ∀ (i : Nat) (x y : PV), as[i]? = some x → bs[i]? = some y → ∃ c, eqB c x y = some true
  | [], [], [], _, i, x, y, h, _ => by simp at h
  | [], [], _ :: _, h, _, _, _, _, _ => by simp [eqCells] at h
  | [], _ :: _, _, h, _, _, _, _, _ => by simp [eqCells] at h
  | _ :: _, [], _, h, _, _, _, _, _ => by simp [eqCells] at h
  | _ :: _, _ :: _, [], h, _, _, _, _, _ => by simp [eqCells] at h
  | k :: ks, a :: as, b :: bs, h, i, x, y, hx, hy => by
    simp only [eqCells] at h
    split at h
    · rename_i u v hu hv
      simp only [Option.some.injEq, Bool.and_eq_true] at h
      cases i with
      | zero => simp at hx hy; subst hx; subst hy; exact ⟨k, by rw [hu, h.1]⟩
      | succ i => exact eqCells_get (by rw [hv, h.2]) i x y (by simpa using hx) (by simpa using hy)
    · cases h
theorem eqCells_comm : ∀ {sh : List CK} {as bs : List PV}, eqCells sh as bs = some true → eqCells sh bs as = some true
  | [], [], [], _ => rfl
  | [], [], _ :: _, h => by simp [eqCells] at h
  | [], _ :: _, _, h => by simp [eqCells] at h
  | _ :: _, [], _, h => by simp [eqCells] at h
  | _ :: _, _ :: _, [], h => by simp [eqCells] at h
  | k :: ks, a :: as, b :: bs, h => by
    simp only [eqCells] at h
    split at h
    · rename_i u v hu hv
      simp only [Option.some.injEq, Bool.and_eq_true] at h
      have ih := eqCells_comm (by rw [hv, h.2])
      have e : eqB k b a = some true := by
        rw [h.1] at hu
        cases k <;> cases a <;> cases b <;> simp [eqB] at hu ⊢
        · exact ⟨hu.1.symm, hu.2.symm⟩
        · exact hu.symm
        · exact hu.symm
      simp only [eqCells, e, ih, Bool.and_self]
    · cases h
theorem sameBits_of {sh : List CK} {as bs : List PV} {xs ys : Array Value} (h : eqCells sh as bs = some true) (hx : CellsRep w G as xs) (hy : CellsRep w G bs ys) : Instr.sameBits 10000 (.agg xs) (.agg ys) = true := by
  obtain ⟨l1, l2⟩ := eqCells_len h
  show Instr.sameBits (9999 + 1) (.agg xs) (.agg ys) = true
  have hsz : xs.size = ys.size := by rw [hx.1, hy.1, l1, l2]
  simp only [Instr.sameBits, hsz, beq_self_eq_true, Bool.true_and, List.all_eq_true]
  intro p hp
  obtain ⟨i, hi, he⟩ := List.mem_iff_getElem.1 hp
  simp at hi
  rw [List.getElem_zip] at he
  subst he
  have hi1 : i < as.length := by rw [← hx.1]; omega
  have hi2 : i < bs.length := by rw [← hy.1]; omega
  obtain ⟨c, hc⟩ := eqCells_get h i _ _ (List.getElem?_eq_getElem hi1) (List.getElem?_eq_getElem hi2)
  have r1 := hx.2.2 i _ xs[i] (List.getElem?_eq_getElem hi1) (Array.getElem?_eq_getElem (by omega))
  have r2 := hy.2.2 i _ ys[i] (List.getElem?_eq_getElem hi2) (Array.getElem?_eq_getElem (by omega))
  simp only [Array.getElem_toList]
  generalize as[i] = p at hc r1
  generalize bs[i] = q at hc r2
  cases c <;> cases p <;> cases q <;> simp [eqB] at hc
  · obtain ⟨rfl, rfl⟩ := hc
    rw [Rep.int_inv r1, Rep.int_inv r2]
    simp [Instr.sameBits]
  · subst hc
    rw [Rep.bool_inv r1, Rep.bool_inv r2]
    simp [Instr.sameBits]
  · subst hc
    rw [Rep.str_inv r1, Rep.str_inv r2]
    simp only [Instr.sameBits]
    have e : ∀ x : ByteArray, (x == x) = true := fun x => (MapKept.bytes_beq x x).2 rfl
    exact e _
theorem findKey_eq {k : TypeId} (hg : isAggT P k = some true) (x : Value) (es : List MapEntry) : (Instr.findKey k x es).run P w = (Instr.findAsking k x es).run P w := by
  unfold isAggT uT at hg
  cases hu : P.underlying k with
  | none => simp [hu] at hg
  | some kd =>
    cases es with
    | nil => simp [Instr.findKey, run_underlying hu, Instr.findNow, Instr.findAsking]
    | cons e es => cases kd <;> simp [hu] at hg <;> simp [Instr.findKey, run_underlying hu, Instr.findNow, Instr.sameNow]
theorem findAsking_run {kt : TypeId} {sh : List CK} (hs : shp P 8 kt = some sh) (hga : isAggT P kt = some true) {k : PV} {kv : Value} (hk : Rep w G k kv) : ∀ (kvs : List (PV × PV)) (es : List MapEntry) (i : Nat) (q : Option Nat), es.length = kvs.length →
    (∀ (j : Nat) (x : PV × PV) (e : MapEntry), kvs[j]? = some x → es[j]? = some e → Rep w G x.1 e.key ∧ Rep w G x.2 e.val) → findI sh k kvs = some q →
    (q = none → (Instr.findAsking kt kv es i).run P w = .ok none w) ∧ ∀ j, q = some j → ∃ e, es[j]? = some e ∧ (Instr.findAsking kt kv es i).run P w = .ok (some (i + j, e.val)) w ∧ Instr.sameBits 10000 e.key kv = true
  | [], [], i, q, _, _, h => by simp [findI] at h; subst h; exact ⟨fun _ => by simp [Instr.findAsking], fun j hj => by cases hj⟩
  | [], _ :: _, _, _, hl, _, _ => by simp at hl
  | _ :: _, [], _, _, hl, _, _ => by simp at hl
  | (k', v') :: kvs, e :: es, i, q, hl, hr, h => by
    simp only [findI] at h
    split at h
    · rename_i ka kb
      obtain ⟨r1, r2⟩ := hr 0 _ e rfl rfl
      obtain ⟨xa, rfl, hxa⟩ := Rep.agg_inv hk
      obtain ⟨ya, e2, hya⟩ := Rep.agg_inv r1
      have run : ∀ b, eqCells sh ka kb = some b → (Op.equal kt (.agg xa) e.key).run P w = .ok b w := fun b hb => by
        rw [e2]
        exact eqIn (P := P) (w := w) (G := G) 8 kt sh hs 10000 (by omega) (.agg xa) (.agg ya) ka kb b (.inl ⟨hga, xa, rfl, hxa.1, hxa.2.2, hxa.2.1⟩) (.inl ⟨hga, ya, rfl, hya.1, hya.2.2, hya.2.1⟩) hb
      split at h
      · rename_i he
        cases h
        refine ⟨(fun h => by cases h), fun j hj => ?_⟩
        cases hj
        refine ⟨e, rfl, by simp [Instr.findAsking, run true he], ?_⟩
        rw [e2]
        exact sameBits_of (eqCells_comm he) ⟨hya.1, hya.2.2, hya.2.1⟩ ⟨hxa.1, hxa.2.2, hxa.2.1⟩
      · rename_i he
        have rest := findAsking_run hs hga hk kvs es (i + 1)
        have hl' : es.length = kvs.length := by simpa using hl
        have hr' : ∀ (j : Nat) (x : PV × PV) (e : MapEntry), kvs[j]? = some x → es[j]? = some e → Rep w G x.1 e.key ∧ Rep w G x.2 e.val := fun j x e hx he => hr (j + 1) x e (by simpa using hx) (by simpa using he)
        split at h
        · rename_i j hj
          cases h
          obtain ⟨_, h2⟩ := rest _ hl' hr' hj
          obtain ⟨e0, a1, a2, a3⟩ := h2 j rfl
          refine ⟨(fun h => by cases h), fun i' hi' => ?_⟩
          cases hi'
          exact ⟨e0, by simpa using a1, by simp [Instr.findAsking, run false he, a2, Nat.add_assoc, Nat.add_comm 1 j], a3⟩
        · rename_i hx
          obtain ⟨h1, h2⟩ := rest q hl' hr' h
          cases q with
          | none => exact ⟨fun _ => by simp [Instr.findAsking, run false he, h1 rfl], fun j hj => by cases hj⟩
          | some j => exact absurd h (hx j)
      · cases h
    · cases h

theorem modify_get (es : Array MapEntry) (j i : Nat) (f : MapEntry → MapEntry) : (es.modify j f)[i]? = if i = j then (es[i]?).map f else es[i]? := by
  by_cases h : i = j
  · subst h; simp [Array.getElem?_modify]
  · simp [Array.getElem?_modify, h, Ne.symm h]
theorem ok_lookup {t kt et : TypeId} {m k : Operand} {m' k' : Opnd} {sh : List CK} {z : PV} {zv : Value} {ok : Bool} {s : Nat} {kvs : List (PV × PV)} {ka : List PV} {r : Option PV} (hF : FRel w G β ω σ a.tmps) (hd : ∀ d, o.dst = some d → d < a.tmps.size)
    (ho : o.op = .lookup t m k ok) (hu : P.underlying t = some (.map kt et)) (hs : shpK P 8 kt = some sh) (hga : isAggT P kt = some true) (hz : (P.info? et).bind (·.zero) = some zv) (hzc : cVal 0 zv = some z)
    (hm : OOk m m') (hk : OOk k k') (em : m'.ev σ.tmps = .mp s) (ek : k'.ev σ.tmps = .val (.agg ka)) (hl : ka.length = sh.length) (hb : get σ.mem s = some (.map kvs)) (hf : findP sh (.agg ka) kvs = some r) :
    StepOk P w G ω β a o σ (σ.put o.dst (.val (match r with | some v => if ok then .tup [v, .bool true] else v | none => if ok then .tup [z, .bool false] else z))) := by
  have h0 := hm.trep hF
  rw [em] at h0
  have e1 : a.eval m = .map (some (β s)) := h0
  have hkr := hk.val hF ek
  obtain ⟨xa, e2, hxa⟩ := Rep.agg_inv hkr
  obtain ⟨hω, es, clock, hh, hG, hsz, hrep⟩ := hF.blk s _ hb
  obtain ⟨q, hq, q1, q2⟩ := findP_I hf
  have hsh := shpK_shp 8 kt sh hs
  obtain ⟨f1, f2⟩ := findAsking_run (w := w) hsh hga hkr kvs es.toList 0 q (by simpa using hsz) (fun j x e hx he => hrep j x e hx (by simpa using he)) hq
  have hck : ∀ em, (Instr.checkKey em 10000 kt (a.eval k)).run P w = .ok () w := fun em => by
    rw [e2]
    exact checkKey_at em 8 kt sh hs 10000 (by omega) _ ka (.inl ⟨hga, xa, rfl, hxa.1, hxa.2.2, hxa.2.1⟩) hl
  have hgo : (getObj (β s)).run P w = .ok (.map es clock) w := by simp [getObj, Sem.run, hh]
  have hzero : (zeroValue et).run P w = .ok zv w := by
    cases hi : P.info? et with
    | none => simp [hi] at hz
    | some it =>
      simp only [hi, Option.bind_some] at hz
      simp [zeroValue, typeInfo, hi, hz]
  have tup2 : ∀ (v : PV) (x : Value) (b : Bool), Rep w G v x → Rep w G (.tup [v, .bool b]) (.tuple #[x, .bool b]) := fun v x b hv => .tup _ _ rfl (fun i p y hp hy => by
    rcases i with _ | _ | i
    · simp at hp hy; subst hp; subst hy; exact hv
    · simp at hp hy; subst hp; subst hy; exact .bool _
    · simp at hp)
  cases q with
  | none =>
    have hr := q1 rfl
    subst hr
    have hrun : (execOp a.eval o).run P w = .ok (.value (if ok then .tuple #[zv, .bool false] else zv)) w := by
      simp only [execOp, ho, Instr.lookup, Sem.run_bind, run_underlying hu, Result.andThen_ok, e1, hgo, hck, findKey_eq hga, f1 rfl, hzero, Sem.run_pure]
    refine ok_val hF hd hrun ?_
    have hzr := (cVal_rep hzc w G).1
    cases ok
    · exact hzr
    · exact tup2 _ _ _ hzr
  | some j =>
    obtain ⟨e, he, hrn, _⟩ := f2 j rfl
    obtain ⟨kv, hkv, hr⟩ := q2 j rfl
    subst hr
    have hv := (hrep j kv e hkv (by simpa using he)).2
    have hrun : (execOp a.eval o).run P w = .ok (.value (if ok then .tuple #[e.val, .bool true] else e.val)) w := by
      simp only [execOp, ho, Instr.lookup, Sem.run_bind, run_underlying hu, Result.andThen_ok, e1, hgo, hck, findKey_eq hga, hrn, Sem.run_pure]
    refine ok_val hF hd hrun ?_
    cases ok
    · exact hv
    · exact tup2 _ _ _ hv

theorem ok_mapup {t kt et : TypeId} {m k x : Operand} {m' k' x' : Opnd} {sh : List CK} {s : Nat} {kvs kvs' : List (PV × PV)} {ka : List PV} {v : PV} (hF : FRel w G β ω σ a.tmps)
    (ho : o.op = .mapUpdate t m k x) (hdst : o.dst = none) (hu : P.underlying t = some (.map kt et)) (hs : shpK P 8 kt = some sh) (hga : isAggT P kt = some true)
    (hm : OOk m m') (hk : OOk k k') (hx : OOk x x') (em : m'.ev σ.tmps = .mp s) (ek : k'.ev σ.tmps = .val (.agg ka)) (ev : x'.ev σ.tmps = .val v) (hl : ka.length = sh.length) (hb : get σ.mem s = some (.map kvs)) (hf : setP sh (.agg ka) v kvs = some kvs') :
    StepOk P w G ω β a o σ { tmps := σ.tmps, mem := set σ.mem s (.map kvs') } := by
  have h0 := hm.trep hF
  rw [em] at h0
  have e1 : a.eval m = .map (some (β s)) := h0
  have hkr := hk.val hF ek
  have hvr := hx.val hF ev
  obtain ⟨xa, e2, hxa⟩ := Rep.agg_inv hkr
  obtain ⟨hω, es, clock, hh, hG, hsz, hrep⟩ := hF.blk s _ hb
  obtain ⟨q, hq, q1, q2⟩ := setP_I hf
  have hsh := shpK_shp 8 kt sh hs
  obtain ⟨f1, f2⟩ := findAsking_run (w := w) hsh hga hkr kvs es.toList 0 q (by simpa using hsz) (fun j x e hx he => hrep j x e hx (by simpa using he)) hq
  have hck : ∀ em, (Instr.checkKey em 10000 kt (a.eval k)).run P w = .ok () w := fun em => by
    rw [e2]
    exact checkKey_at em 8 kt sh hs 10000 (by omega) _ ka (.inl ⟨hga, xa, rfl, hxa.1, hxa.2.2, hxa.2.1⟩) hl
  have hgo : (getObj (β s)).run P w = .ok (.map es clock) w := by simp [getObj, Sem.run, hh]
  have hso : ∀ ob, (setObj (β s) ob).run P w = .ok () { w with heap := w.heap.setIfInBounds (β s) ob } := fun ob => by simp [setObj, Sem.run, hh]
  have hlt : β s < w.heap.size := (Array.getElem?_eq_some_iff.1 hh).1
  have main : ∀ (es' : Array MapEntry) (clock' : Nat), (execOp a.eval o).run P w = .ok .skip { w with heap := w.heap.setIfInBounds (β s) (.map es' clock') } →
      es'.size = kvs'.length → (∀ (i : Nat) (kv : PV × PV) (e : MapEntry), kvs'[i]? = some kv → es'[i]? = some e → Rep w G kv.1 e.key ∧ Rep w G kv.2 e.val) → StepOk P w G ω β a o σ { tmps := σ.tmps, mem := set σ.mem s (.map kvs') } := by
    intro es' clock' hr hsz' hrep'
    generalize hw : ({ w with heap := w.heap.setIfInBounds (β s) (.map es' clock') } : World) = w' at hr
    have hother : ∀ b, b ≠ β s → w'.heap[b]? = w.heap[b]? := fun b hb => by rw [← hw]; simp [Array.getElem?_setIfInBounds_ne (Ne.symm hb)]
    have hself : w'.heap[β s]? = some (.map es' clock') := by rw [← hw]; simp [hlt]
    have hext : GExt w G w' G := ⟨fun _ => Nat.le_refl _, fun b off hb => World.cell?_of_block (a := ⟨b, off, none⟩) (hother b (fun e => by rw [e, hG] at hb; omega)), fun b sh hs => by
      by_cases e : b = β s
      · subst e; simp [World.shape?, hh] at hs
      · rw [shape_of_block (hother b e)]; exact hs⟩
    have hne : ∀ g occ, ω g = some occ → occ ≠ .blk s → g ≠ β s := fun g occ hg hq e => by rw [e, hω] at hg; cases hg; exact hq rfl
    have hsame : Same (fun _ => False) (fun s' => s' = s) w G β ω w' G β ω := by
      refine ⟨hext, fun g t hg _ => ⟨hother g (hne g _ hg (by simp)), rfl, hg⟩, fun g t hg hq => ⟨hother g (hne g _ hg (by simp; exact hq)), rfl, hg⟩, fun g t i hg hq => ⟨hother g (hne g _ hg (by simp)), rfl, hg⟩⟩
    have hsize : w'.heap.size = w.heap.size := by rw [← hw]; simp
    refine ⟨.skip, undef, w', G, β, ω, hr, .inr ⟨rfl, rfl⟩, ⟨by rw [← hw], by rw [← hw], by rw [← hw], Nat.le_of_eq hsize.symm, hext, fun b _ hb => ⟨hother b (fun e => hb (by rw [e, hω]; simp)), rfl⟩⟩, fun b hb => .inl hb, fun _ _ => rfl, ?_⟩
    simp only [hdst, Act.put]
    refine ⟨fun t => hF.rest_tmp hsame (fun _ _ => rfl) t id, fun t s' h => ?_, fun s' b' hb' => ?_, fun b' hb' => hF.gnew b' (by rw [← hsize]; exact hb'), fun b' hb' => by rw [hsize]; exact hF.ωnew b' hb'⟩
    · simp only [get_set]
      split
      · simp
      · exact hF.live t s' h
    · simp only [get_set] at hb'
      split at hb'
      · rename_i e2
        subst e2
        cases hb'
        exact ⟨hω, es', clock', hself, hG, hsz', fun i kv e hi he => ⟨(hrep' i kv e hi he).1.mono hext, (hrep' i kv e hi he).2.mono hext⟩⟩
      · rename_i e2
        exact hF.rest_blk hsame (fun _ _ => rfl) s' e2 b' hb'
  cases q with
  | none =>
    have hk' := q1 rfl
    subst hk'
    refine main (es.push { key := a.eval k, val := a.eval x, born := clock }) (clock + 1) ?_ (by simp [hsz]) (fun i kv e hi he => ?_)
    · simp only [execOp, ho, Instr.mapUpdate, Sem.run_bind, run_underlying hu, Result.andThen_ok, e1, hgo, hck, findKey_eq hga, f1 rfl, hso, Sem.run_pure]
    · rw [Array.getElem?_push] at he
      split at he
      · rename_i hi'
        cases he
        rw [hi', hsz] at hi
        simp at hi
        subst hi
        exact ⟨hkr, hvr⟩
      · have hlt' : i < kvs.length := by
          have := (Array.getElem?_eq_some_iff.1 he).1; omega
        rw [List.getElem?_append_left hlt'] at hi
        exact hrep i kv e hi he
  | some j =>
    have hk' := q2 j rfl
    subst hk'
    obtain ⟨e0, he0, hrn, hsb⟩ := f2 j rfl
    have he0' : es[j]? = some e0 := by simpa using he0
    refine main (es.modify j fun e => { e with key := a.eval k, val := a.eval x }) clock ?_ (by simp [hsz]) (fun i kv e hi he => ?_)
    · have hkt : (Instr.keyThatStays e0.key (a.eval k)).run P w = .ok (a.eval k) w := by
        simp [Instr.keyThatStays, hsb]
      simp only [execOp, ho, Instr.mapUpdate, Sem.run_bind, run_underlying hu, Result.andThen_ok, e1, hgo, hck, findKey_eq hga, hrn, Nat.zero_add, he0', Option.map_some, Option.getD_some, hkt, hso, Sem.run_pure]
    · rw [modify_get] at he
      split at he
      · rename_i hij
        subst hij
        rw [he0'] at he
        cases he
        rw [List.getElem?_set] at hi
        split at hi
        · split at hi
          · cases hi; exact ⟨hkr, hvr⟩
          · cases hi
        · rename_i hne; exact absurd rfl hne
      · rename_i hij
        rw [List.getElem?_set_ne (Ne.symm hij)] at hi
        exact hrep i kv e hi he
end ops
end Go.AR
