import Derived.Test.YtlhahjlnhkokcaaG14
import Derived.Great.BuildSlice
set_option linter.all false
namespace Go.AR
open Go
section ops
variable {P : Program} {w : World} {G β : Nat → Nat} {ω : Nat → Option Occ} {σ σ' : Fr} {a : Act} {o : Oper}

theorem cVal_z {er : Option TypeId} {c : Nat} {v : Value} {p : PV} (h : cVal c v = some p) (w : World) (G : Nat → Nat) : (∃ q, p.zE er = .val q ∧ Rep w G q v ∧ q.one = true) ∨ (∃ eo c, p.zE er = .ownE eo c [] ∧ v = .slice none 0 0) := by
  have hr := cVal_rep h w G
  unfold cVal at h
  split at h <;> simp at h <;> subst h
  · exact .inl ⟨_, rfl, hr⟩
  · exact .inl ⟨_, rfl, hr⟩
  · exact .inl ⟨_, rfl, hr⟩
  · exact .inl ⟨_, rfl, hr⟩
  · exact .inl ⟨_, rfl, hr⟩
  · exact .inr ⟨_, _, rfl, rfl⟩
theorem cCells_z {er : Option TypeId} : ∀ {cs : List Nat} {vs : List Value} {ps : List PV}, cCells cs vs = some ps → ∀ (i : Nat) (t : TV) (x : Value), (ps.map (PV.zE er))[i]? = some t → vs[i]? = some x →
    (∃ p, t = .val p ∧ Rep w G p x ∧ p.one = true) ∨ (∃ eo c, t = .ownE eo c [] ∧ x = .slice none 0 0) := by
  intro cs vs
  induction vs generalizing cs with
  | nil => intro ps h i t x _ hx; simp at hx
  | cons v vs ih =>
    intro ps h
    cases cs with
    | nil => simp [cCells] at h
    | cons c cs =>
      simp only [cCells] at h
      split at h
      · rename_i q qs hq hqs
        simp at h; subst h
        intro i t x ht hx
        cases i with
        | zero =>
          simp at ht hx; subst ht; subst hx
          rcases cVal_z (er := er) hq w G with ⟨q', e, h⟩ | ⟨eo, c, e, h⟩
          · exact .inl ⟨q', e, h⟩
          · exact .inr ⟨eo, c, e, h⟩
        | succ i => exact ih hqs i t x (by simpa using ht) (by simpa using hx)
      · cases h
theorem zeroC_spec {t : TypeId} {zs : List PV} (h : zeroC P t = some zs) : ∃ it z, P.info? t = some it ∧ it.zero = some z ∧ cCells (leafs P 8 t) z.cells.toList = some zs := by
  unfold zeroC at h
  cases hi : P.info? t with
  | none => simp [hi] at h
  | some it =>
    cases hz : it.zero with
    | none => simp [hi, hz] at h
    | some z => exact ⟨it, z, rfl, hz, by simpa [hi, hz] using h⟩

theorem ok_alloc {er : Option TypeId} {e : TypeId} {d : Nat} {zs : List PV} {e0 : Option TypeId} (he : e0.getD e = e) (hF : FRel w G β ω σ a.tmps) (hd : d < a.tmps.size) (hdst : o.dst = some d) (hm : get σ.mem d = none) (ho : o.op = .alloc e) (hz : zeroC P e = some zs) :
    StepOk P w G ω β a o σ { tmps := set σ.tmps d (.lp d 0), mem := set σ.mem d (.cellsE e0 (zs.map (PV.zE er))) } := by
  obtain ⟨it, z, hi, hzz, hc⟩ := zeroC_spec hz
  refine ok_newblk (arr := z.cells) (e := e) hF hd hdst hm ?_ (by have := (cCells_rep hc).1; simpa using this) (fun i t x ht hx => cCells_z hc i t x ht (by simpa using hx)) he
  simp [execOp, ho, Instr.alloc, zeroValue, typeInfo, hi, hzz, newVar, newRow]

theorem Rep.cells {p : PV} {v : Value} {cs : List PV} (h : Rep w G p v) (hc : p.cs = some cs) : v.cells.size = cs.length ∧ (∀ q ∈ cs, q.one = true) ∧ ∀ (i : Nat) (q : PV) (x : Value), cs[i]? = some q → v.cells[i]? = some x → Rep w G q x := by
  have single : ∀ {v : Value}, Rep w G p v → v.cells = #[v] → p.cs = some [p] → p.one = true → v.cells.size = cs.length ∧ (∀ q ∈ cs, q.one = true) ∧ ∀ (i : Nat) (q : PV) (x : Value), cs[i]? = some q → v.cells[i]? = some x → Rep w G q x := by
    intro v h e1 e2 h1
    rw [e2] at hc; cases hc
    rw [e1]
    refine ⟨rfl, by simpa using h1, fun i q x hq hx => ?_⟩
    cases i with
    | zero => simp at hq hx; subst hq; subst hx; exact h
    | succ i => simp at hq
  cases h with
  | int k n => exact single (.int k n) rfl rfl rfl
  | bool b => exact single (.bool b) rfl rfl rfl
  | str l => exact single (.str l) rfl rfl rfl
  | nilif => exact single .nilif rfl rfl rfl
  | nilp => exact single .nilp rfl rfl rfl
  | fn f => exact single (.fn f) rfl rfl rfl
  | agg ds vs hl h h1 =>
    simp [PV.cs] at hc; subst hc
    exact ⟨hl, h1, h⟩
  | tup _ _ _ _ => simp [PV.cs] at hc
  | sl0 c A cap => exact single (.sl0 c A cap) rfl rfl rfl
  | sl c rows b off cap f hcc hG hv h h1 hcap => exact single (.sl c rows b off cap f hcc hG hv h h1 hcap) rfl rfl rfl

theorem ok_box {e : TypeId} {x : Operand} {x' : Opnd} {d : Nat} {p : PV} {cs : List PV} (hF : FRel w G β ω σ a.tmps) (hd : d < a.tmps.size) (hdst : o.dst = some d) (hm : get σ.mem d = none) (ho : o.op = .box e x)
    (hx : OOk x x') (hp : (x'.ev σ.tmps).pv = some p) (hc : p.cs = some cs) :
    StepOk P w G ω β a o σ { tmps := set σ.tmps d (.lp d 0), mem := set σ.mem d (.cells (cs.map .val)) } := by
  obtain ⟨h1, h2, h3⟩ := ((hx.trep hF).pv hp).cells hc
  refine ok_newblk (arr := (a.eval x).cells) (e := e) hF hd hdst hm ?_ (by simpa using h1) (fun i t y ht hy => ?_) rfl
  · simp [execOp, ho, Instr.box, newVar, newRow]
  · rw [List.getElem?_map] at ht
    cases hq : cs[i]? with
    | none => simp [hq] at ht
    | some q =>
      simp [hq] at ht
      exact .inl ⟨q, ht.symm, h3 i q y hq hy, h2 q (List.mem_of_getElem? hq)⟩

/-- Cells that read. -/
def CellsRep (w : World) (G : Nat → Nat) (cs : List PV) (arr : Array Value) : Prop :=
  arr.size = cs.length ∧ (∀ p ∈ cs, p.one = true) ∧ ∀ (i : Nat) (p : PV) (v : Value), cs[i]? = some p → arr[i]? = some v → Rep w G p v
theorem CellsRep.set {cs : List PV} {arr : Array Value} (h : CellsRep w G cs arr) (i : Nat) {p : PV} {v : Value} (hp : Rep w G p v) (h1 : p.one = true) : CellsRep w G (cs.set i p) (arr.setIfInBounds i v) := by
  obtain ⟨hl, ho, hr⟩ := h
  refine ⟨by simp [hl], fun q hq => ?_, fun j q x hq hx => ?_⟩
  · rcases List.mem_or_eq_of_mem_set hq with h | rfl
    · exact ho q h
    · exact h1
  · rw [List.getElem?_set] at hq
    rw [Array.getElem?_setIfInBounds] at hx
    by_cases e : i = j
    · subst e
      simp only [if_true] at hq hx
      split at hq
      · split at hx
        · cases hq; cases hx; exact hp
        · cases hx
      · cases hq
    · rw [if_neg e] at hq hx; exact hr j q x hq hx
theorem lay_rep : ∀ (vs : List Value) (ps : List PV) (base k : Nat) (cs : List PV) (arr : Array Value), CellsRep w G cs arr → vs.length = ps.length → (∀ p ∈ ps, p.one = true) →
    (∀ (i : Nat) (p : PV) (v : Value), ps[i]? = some p → vs[i]? = some v → Rep w G p v) →
    CellsRep w G (lay cs (base + k) ps) ((vs.zipIdx k).foldl (fun cs (c, j) => cs.setIfInBounds (base + j) c) arr)
  | [], [], base, k, cs, arr, h, _, _, _ => by simpa [lay] using h
  | [], _ :: _, _, _, _, _, _, h, _, _ => by simp at h
  | _ :: _, [], _, _, _, _, _, h, _, _ => by simp at h
  | v :: vs, p :: ps, base, k, cs, arr, h, hl, h1, hr => by
    simp only [lay, List.zipIdx_cons, List.foldl_cons]
    exact lay_rep vs ps base (k + 1) _ _ (h.set (base + k) (hr 0 p v rfl rfl) (h1 p (by simp))) (by simpa using hl) (fun q hq => h1 q (by simp [hq])) (fun i q x hq hx => hr (i + 1) q x (by simpa using hq) (by simpa using hx))

theorem lay_len : ∀ (ps cs : List PV) (m : Nat), (lay cs m ps).length = cs.length
  | [], _, _ => rfl
  | p :: ps, cs, m => by simp only [lay]; rw [lay_len ps]; simp
theorem fill_rep {pl3 : Nat → Option (Nat × Nat × TypeId)} {place : Nat → Option (Nat × Nat)} (hpl : ∀ i off n ty, pl3 i = some (off, n, ty) → place i = some (off, n)) (hF : FRel w G β ω σ a.tmps) :
    ∀ (parts : List (Nat × Operand)) (ys : List Opnd) (ps : List (Nat × Nat)), cParts P pl3 parts = some (ys, ps) → ∀ (cs : List PV) (arr : Array Value), CellsRep w G cs arr → ∀ cs', fillA cs (ys.map (·.ev σ.tmps)) ps = some cs' →
    ∃ arr', Instr.fill place arr (parts.map fun x => (x.1, a.eval x.2)) = some arr' ∧ CellsRep w G cs' arr' ∧ cs'.length = cs.length
  | [], ys, ps, h, cs, arr, hc, cs', hf => by
    simp [cParts] at h
    obtain ⟨rfl, rfl⟩ := h
    simp [fillA] at hf; subst hf
    exact ⟨arr, rfl, hc, rfl⟩
  | (i, x) :: parts, ys, ps, h, cs, arr, hc, cs', hf => by
    simp only [cParts] at h
    split at h
    · rename_i off n ty hpi
      split at h
      · rename_i y ys' ps' hy hrest
        simp at h
        obtain ⟨rfl, rfl⟩ := h
        simp only [List.map_cons, fillA] at hf
        split at hf
        · rename_i p hp
          split at hf
          · rename_i qs hq
            split at hf
            · rename_i hle
              obtain ⟨c1, c2, c3⟩ := ((cOpnd_ok hy).trep hF |>.pv hp).cells hq
              have hlay := lay_rep (w := w) (G := G) (a.eval x).cells.toList qs off 0 cs arr hc (by simpa using c1) c2 (fun i p v hp hv => c3 i p v hp (by simpa using hv))
              obtain ⟨arr', h1, h2, h3⟩ := fill_rep hpl hF parts ys' ps' hrest _ _ hlay cs' hf
              have hlen : (lay cs (off + 0) qs).length = cs.length := lay_len _ _ _
              refine ⟨arr', ?_, h2, by rw [h3, hlen]⟩
              simp only [List.map_cons, Instr.fill, hpl i off n ty hpi]
              have hsz : arr.size = cs.length := hc.1
              rw [if_neg (by simp [c1, hle.1, hsz]; omega)]
              rw [← h1]
              congr 1
              rw [← Array.foldl_toList, Array.toList_zipIdx]
            · cases hf
          · cases hf
        · cases hf
      · cases h
    · cases h

theorem CellsRep.agg {cs : List PV} {arr : Array Value} (h : CellsRep w G cs arr) : Rep w G (.agg cs) (.agg arr) := .agg cs arr h.1 h.2.2 h.2.1
theorem cCells_cells {ls : List Nat} {arr : Array Value} {zs : List PV} (h : cCells ls arr.toList = some zs) : CellsRep w G zs arr := by
  obtain ⟨h1, h2, h3⟩ := cCells_rep h
  exact ⟨by simpa using h1, h2, fun i p v hp hv => h3 w G i p v hp (by simpa using hv)⟩

theorem places_built {t : TypeId} {it : TypeInfo} {z : Value} (hi : P.info? t = some it) (hz : it.zero = some z) (hp : placesOk P t = true) :
    ∃ place : Nat → Option (Nat × Nat), (∀ i off n ty, places P t i = some (off, n, ty) → place i = some (off, n)) ∧ ∀ parts cells, Instr.fill place z.cells parts = some cells → P.built t parts = some cells := by
  unfold placesOk uT at hp
  cases hu : P.underlying t with
  | none => simp [hu] at hp
  | some d =>
    cases d <;> simp [hu] at hp
    case array n e =>
      obtain ⟨ie, hie⟩ := Option.isSome_iff_exists.1 hp
      refine ⟨fun i => some (i * ie.size, ie.size), fun i off n' ty h => ?_, fun parts cells h => by simp [Program.built, hi, hu, hz, hie, h]⟩
      simp [places, uT, hu, szT, hie] at h
      show some (i * ie.size, ie.size) = _
      rw [h.1, h.2.1]
    case struct fs =>
      obtain ⟨pls, hpls⟩ := Option.isSome_iff_exists.1 hp
      refine ⟨fun i => pls.toArray[i]?, fun i off n' ty h => ?_, fun parts cells h => by simp only [Program.built, hi, hu, hz, hpls, h]⟩
      simp only [places, uT, hu] at h
      split at h
      · rename_i f hf
        split at h
        · rename_i n hn
          simp at h
          obtain ⟨rfl, rfl, rfl⟩ := h
          obtain ⟨ti, hti, rfl⟩ := szT_info hn
          have hf' : fs.toList[i]? = some f := by simpa using hf
          clear hf hp hu
          generalize fs.toList = l at hf' hpls
          induction l generalizing i pls with
          | nil => simp at hf'
          | cons g l ih =>
            simp only [List.mapM_cons, Option.bind_eq_bind, Option.pure_def] at hpls
            cases hgi : P.info? g.type with
            | none => simp [hgi] at hpls
            | some gi =>
              cases hr : l.mapM (fun f => (P.info? f.type).map fun i => (f.offset, i.size)) with
              | none => simp [hgi, hr] at hpls
              | some rest =>
                simp [hgi, hr] at hpls
                subst hpls
                cases i with
                | zero => simp at hf'; subst hf'; rw [hti] at hgi; cases hgi; simp
                | succ i => simpa using ih _ _ (by first | exact hr | simpa using hf') (by first | exact hr | simpa using hf')
        · cases h
      · cases h

theorem ok_build {t : TypeId} {parts : Array (Nat × Operand)} {zs cs : List PV} {ys : List Opnd} {ps : List (Nat × Nat)} (hF : FRel w G β ω σ a.tmps) (hd : ∀ d, o.dst = some d → d < a.tmps.size)
    (ho : o.op = .build t parts) (hz : zeroC P t = some zs) (hp : placesOk P t = true) (hc : cParts P (places P t) parts.toList = some (ys, ps)) (hf : fillA zs (ys.map (·.ev σ.tmps)) ps = some cs) :
    StepOk P w G ω β a o σ (σ.put o.dst (.val (.agg cs))) := by
  obtain ⟨it, z, hi, hzz, hcc⟩ := zeroC_spec hz
  obtain ⟨place, hpl, hb⟩ := places_built (P := P) hi hzz hp
  obtain ⟨arr', h1, h2, _⟩ := fill_rep hpl hF parts.toList ys ps hc zs z.cells (cCells_cells hcc) cs hf
  refine ok_val hF hd ?_ h2.agg
  have := run_build (P := P) w t (parts.map fun (i, x) => (i, a.eval x)) arr' (hb _ _ (by rw [← h1]; congr 1; simp))
  simp only [execOp, ho, Sem.run_bind, this, Result.andThen_ok, Sem.run_pure]

theorem rep_replicate {len : Nat} {z : Array Value} {zs : List PV} (h : CellsRep w G zs z) (hpos : 0 < zs.length) :
    CellsRep w G ((List.replicate len zs).flatten) ((Array.range (len * zs.length)).map (z[· % z.size]!)) := by
  obtain ⟨h1, h2, h3⟩ := h
  have hfl : ∀ r ∈ List.replicate len zs, r.length = zs.length := fun r hr => by rw [List.eq_of_mem_replicate hr]
  have hlen : (List.replicate len zs).flatten.length = len * zs.length := by rw [flat_len hfl, List.length_replicate]
  refine ⟨by simp [hlen], fun p hp => ?_, fun i p v hp hv => ?_⟩
  · obtain ⟨r, hr, hpr⟩ := List.mem_flatten.1 hp
    rw [List.eq_of_mem_replicate hr] at hpr
    exact h2 p hpr
  · have hi : i < len * zs.length := by rw [← hlen]; exact (List.getElem?_eq_some_iff.1 hp).1
    have hq : i / zs.length < len := Nat.div_lt_of_lt_mul (by rw [Nat.mul_comm]; exact hi)
    have hm : i % zs.length < zs.length := Nat.mod_lt _ hpos
    have hf := flat_at hfl (i := i / zs.length) (j := i % zs.length) (r := zs) (by simp [hq]) hm
    rw [Nat.div_add_mod' i zs.length] at hf
    rw [hf] at hp
    have hv' : v = z[i % z.size]! := by
      rw [Array.getElem?_map, Array.getElem?_eq_getElem (by simpa using hi)] at hv
      simpa using hv.symm
    subst hv'
    rw [h1]
    refine h3 _ p _ hp ?_
    rw [getElem!_pos z (i % zs.length) (by omega), Array.getElem?_eq_getElem]

theorem chunks_spec (c : Nat) (hc : 0 < c) : ∀ (n : Nat) (cs : List PV), cs.length = n * c → (chunks c n cs).length = n ∧ (∀ r ∈ chunks c n cs, r.length = c) ∧ (chunks c n cs).flatten = cs
  | 0, cs, h => by
    have : cs = [] := List.eq_nil_of_length_eq_zero (by simpa using h)
    subst this; simp [chunks]
  | n + 1, cs, h => by
    obtain ⟨h1, h2, h3⟩ := chunks_spec c hc n (cs.drop c) (by simp [h, Nat.add_mul])
    refine ⟨by simp [chunks, h1], fun r hr => ?_, by simp [chunks, h3]⟩
    simp only [chunks, List.mem_cons] at hr
    rcases hr with rfl | hr
    · simp [h, Nat.add_mul]
    · exact h2 r hr

/-- A new row of the frame's own. -/
theorem ok_newrow {d c n : Nat} {rows : List (List PV)} {arr : Array Value} {e : TypeId} (hF : FRel w G β ω σ a.tmps) (hd : d < a.tmps.size) (hdst : o.dst = some d)
    (hr : (execOp a.eval o).run P w = .ok (.value (.slice (some ⟨w.heap.size, 0, none⟩) n n)) (w.alloc (.cells arr e))) (hn : rows.length = n) (hc : ∀ r ∈ rows, r.length = c) (hm : n ≤ maxLen)
    (hz : CellsRep w G rows.flatten arr) : StepOk P w G ω β a o σ { σ with tmps := set σ.tmps d (.own c rows) } := by
  have hlt := hF.ωnew
  have hext := (alloc_evo (T := fun _ => True) (.cells arr e) rows.flatten.length hF.gnew).ext
  have hsame : Same (fun _ => False) (fun _ => False) w G β ω (w.alloc (.cells arr e)) (upd G w.heap.size rows.flatten.length) β (upd ω w.heap.size (some (.tmp d))) := by
    refine ⟨hext, fun g t hg _ => ?_, fun g t hg _ => ?_, fun g t i hg _ => ?_⟩ <;>
    (have := hlt g (by rw [hg]; simp); exact ⟨heap_alloc_old w _ this, upd_ne _ _ _ _ (by omega), by rw [upd_ne _ _ _ _ (by omega)]; exact hg⟩)
  refine ⟨_, _, w.alloc (.cells arr e), upd G w.heap.size rows.flatten.length, β, upd ω w.heap.size (some (.tmp d)), hr, .inl rfl, alloc_evo _ _ hF.gnew, fun b hb => ?_, fun _ _ => rfl, ?_⟩
  · by_cases e : b = w.heap.size
    · exact .inr (by omega)
    · rw [upd_ne _ _ _ _ e] at hb; exact .inl hb
  · refine ⟨fun t => ?_, fun t s h => ?_, fun s b hb => hF.rest_blk hsame (fun _ _ => rfl) s id b hb, fun b hb => ?_, fun b hb => ?_⟩
    · simp only [hdst, Act.put]
      rw [tget_set]
      by_cases e1 : t = d
      · subst e1
        rw [if_pos rfl, getD_set_eq _ _ _ _ hd]
        subst hn
        refine ⟨e, arr.toList, ⟨by simp [hz.1, flat_len hc], .inr ⟨w.heap.size, rows.length, arr, rfl, Nat.zero_le _, heap_alloc_new w _, Nat.le_refl _, hm, by rw [hz.1, flat_len hc], ?_⟩⟩, hc, by simp [hz.1],
          fun j p x hp hx => (hz.2.2 j p x hp (by simpa using hx)).mono hext, hz.2.1, fun g hg => ?_⟩
        · rw [← flat_len hc, ← hz.1, ← Array.length_toList, List.take_length]
        · simp [Value.ownBlock] at hg
          subst hg
          exact ⟨by rw [upd_eq], by rw [upd_eq]⟩
      · rw [if_neg e1, getD_set_ne _ _ _ _ _ (Ne.symm e1)]
        exact hF.rest_tmp hsame (fun _ _ => rfl) t id
    · rw [tget_set] at h
      split at h
      · cases h
      · exact hF.live t s h
    · simp only [World.size_alloc] at hb
      rw [upd_ne _ _ _ _ (by omega)]; exact hF.gnew b (by omega)
    · simp only [World.size_alloc]
      by_cases e : b = w.heap.size
      · omega
      · rw [upd_ne _ _ _ _ e] at hb
        have := hF.ωnew b hb; omega
theorem ok_bslice {t e : TypeId} {len c d : Nat} {parts : Array (Nat × Operand)} {zs cs : List PV} {ys : List Opnd} {ps : List (Nat × Nat)} (hF : FRel w G β ω σ a.tmps) (hd : d < a.tmps.size) (hdst : o.dst = some d)
    (ho : o.op = .buildSlice t len parts) (hu : P.underlying t = some (.slice e)) (hn : szT P e = some c) (hz : zeroC P e = some zs) (hc : cParts P (fun i => some (i * c, c, e)) parts.toList = some (ys, ps)) (hb : 0 < len ∧ 0 < c ∧ zs.length = c ∧ len * c ≤ 2 ^ 20)
    (hf : fillA ((List.replicate len zs).flatten) (ys.map (·.ev σ.tmps)) ps = some cs) :
    StepOk P w G ω β a o σ { σ with tmps := set σ.tmps d (.own c (chunks c ((List.replicate len zs).flatten.length / c) cs)) } := by
  obtain ⟨h0, hc0, hzl, hsm⟩ := hb
  obtain ⟨it, z, hi, hzz, hcc⟩ := zeroC_spec hz
  obtain ⟨it', hi', hsz⟩ := szT_info hn
  rw [hi] at hi'; cases hi'
  have hzr := cCells_cells (w := w) (G := G) hcc
  have hrep := rep_replicate (len := len) hzr (by omega)
  have hzsz : z.cells.size = zs.length := hzr.1
  have hlen : (List.replicate len zs).flatten.length = len * c := by
    rw [flat_len (c := c) (fun r hr => by rw [List.eq_of_mem_replicate hr]; exact hzl), List.length_replicate]
  have hsmall : len ≤ 2 ^ 20 := Nat.le_trans (Nat.le_mul_of_pos_right len hc0) hsm
  rw [hlen, Nat.mul_div_cancel _ hc0]
  obtain ⟨arr', h1, h2, h3⟩ := fill_rep (place := fun i => some (i * c, c)) (fun i off n ty h => by simp at h; show some (i * c, c) = _; rw [h.1, h.2.1]) hF parts.toList ys ps hc _ _ hrep cs hf
  obtain ⟨k1, k2, k3⟩ := chunks_spec c hc0 len cs (by rw [h3, hlen])
  refine ok_newrow (e := e) hF hd hdst ?_ k1 k2 (by simp only [maxLen]; omega) (by rw [k3]; exact h2)
  have := run_buildSlice (P := P) w t e len (parts.map fun (i, x) => (i, a.eval x)) arr' it z hu hi hzz (by rw [hsz]; omega) (by rw [hsz]; exact Nat.mul_ne_zero (by omega) (by omega)) (by
    rw [hsz, ← h1, ← hzl]; congr 1; simp)
  simp only [execOp, ho, Sem.run_bind, this, Result.andThen_ok, Sem.run_pure]
end ops
end Go.AR

/-! A fresh struct: its cells that no part covers are the zero value's. -/
namespace Go.AR
open Go
section
variable {P : Program} {w : World} {G β : Nat → Nat} {ω : Nat → Option Occ} {σ σ' : Fr} {a : Act} {o : Oper}
theorem tagT_len : ∀ (ps : List PV) (ns : List Nat) (k : Nat), (tagT ps ns k).length = ps.length
  | [], _, _ => rfl
  | p :: ps, ns, k => by simp only [tagT, List.length_cons, tagT_len ps ns (k + 1)]
theorem tagT_get : ∀ (ps : List PV) (ns : List Nat) (k i : Nat), (tagT ps ns k)[i]? = (ps[i]?).map fun p => if ns.contains (k + i) then nilTV p else .val p
  | [], _, _, i => by simp [tagT]
  | p :: ps, ns, k, 0 => by simp [tagT]
  | p :: ps, ns, k, i + 1 => by
    simp only [tagT, List.getElem?_cons_succ]
    rw [tagT_get ps ns (k + 1) i, show k + 1 + i = k + (i + 1) by omega]
theorem fold_keep : ∀ (vs : List Value) (off k : Nat) (arr : Array Value) (i : Nat), (i < off + k ∨ off + k + vs.length ≤ i) → ((vs.zipIdx k).foldl (fun cs (c, j) => cs.setIfInBounds (off + j) c) arr)[i]? = arr[i]?
  | [], _, _, _, _, _ => rfl
  | v :: vs, off, k, arr, i, h => by
    simp only [List.zipIdx_cons, List.foldl_cons]
    rw [fold_keep vs off (k + 1) _ i (by simp only [List.length_cons] at h; omega), Array.getElem?_setIfInBounds_ne (by simp only [List.length_cons] at h; omega)]
theorem fill_keep {pl3 : Nat → Option (Nat × Nat × TypeId)} {place : Nat → Option (Nat × Nat)} (hpl : ∀ i off n ty, pl3 i = some (off, n, ty) → place i = some (off, n)) :
    ∀ (parts : List (Nat × Operand)) (ys : List Opnd) (ps : List (Nat × Nat)), cParts P pl3 parts = some (ys, ps) → ∀ (arr arr' : Array Value), Instr.fill place arr (parts.map fun x => (x.1, a.eval x.2)) = some arr' →
    ∀ i, (ps.all fun q => decide (i < q.1) || decide (q.1 + q.2 ≤ i)) = true → arr'[i]? = arr[i]?
  | [], ys, ps, h, arr, arr', hf, i, hi => by
    simp only [List.map_nil, Instr.fill, Option.some.injEq] at hf
    rw [hf]
  | (j, x) :: parts, ys, ps, h, arr, arr', hf, i, hi => by
    simp only [cParts] at h
    split at h
    · rename_i off n ty hpi
      split at h
      · rename_i y ys' ps' hy hrest
        simp at h
        obtain ⟨rfl, rfl⟩ := h
        simp only [List.map_cons, Instr.fill, hpl j off n ty hpi] at hf
        simp only [List.all_cons, Bool.and_eq_true, Bool.or_eq_true, decide_eq_true_eq] at hi
        split at hf
        · cases hf
        · rename_i hsz
          have hs : (a.eval x).cells.size = n := by
            simp only [Bool.or_eq_true, decide_eq_true_eq, not_or, bne_iff_ne, ne_eq, Decidable.not_not] at hsz
            exact hsz.1
          rw [fill_keep hpl parts ys' ps' hrest _ _ hf i (by simpa using hi.2), ← Array.foldl_toList, Array.toList_zipIdx]
          exact fold_keep _ off 0 arr i (by rw [Array.length_toList, hs]; omega)
      · cases h
    · cases h
theorem cCells_nil : ∀ {ls : List Nat} {vs : List Value} {zs : List PV}, cCells ls vs = some zs → ∀ (i c : Nat), zs[i]? = some (PV.sl c []) → vs[i]? = some (Value.slice none 0 0)
  | [], [], zs, h, i, c, hz => by simp [cCells] at h; subst h; simp at hz
  | [], _ :: _, _, h, _, _, _ => by simp [cCells] at h
  | _ :: _, [], _, h, _, _, _ => by simp [cCells] at h
  | l :: ls, v :: vs, zs, h, i, c, hz => by
    simp only [cCells] at h
    split at h
    · rename_i q qs hq hqs
      simp at h; subst h
      cases i with
      | zero =>
        simp at hz; subst hz
        unfold cVal at hq
        split at hq <;> simp at hq
        rfl
      | succ i => exact cCells_nil hqs i c (by simpa using hz)
    · cases h
theorem nilsOf_mem {zs : List PV} {pl : List (Nat × Nat)} {i : Nat} (h : i ∈ nilsOf zs pl) : (∃ c, zs[i]? = some (.sl c [])) ∧ (pl.all fun q => decide (i < q.1) || decide (q.1 + q.2 ≤ i)) = true := by
  unfold nilsOf at h
  rw [List.mem_filter, Bool.and_eq_true] at h
  refine ⟨?_, h.2.2⟩
  have h1 := h.2.1
  split at h1
  · rename_i c hz; exact ⟨c, hz⟩
  · cases h1
theorem ok_buildt {t : TypeId} {parts : Array (Nat × Operand)} {zs cs : List PV} {ys : List Opnd} {ps : List (Nat × Nat)} (hF : FRel w G β ω σ a.tmps) (hd : ∀ d, o.dst = some d → d < a.tmps.size)
    (ho : o.op = .build t parts) (hz : zeroC P t = some zs) (hp : placesOk P t = true) (hc : cParts P (places P t) parts.toList = some (ys, ps)) (hf : fillA zs (ys.map (·.ev σ.tmps)) ps = some cs) :
    StepOk P w G ω β a o σ (σ.put o.dst (.tag cs (nilsOf zs ps))) := by
  obtain ⟨it, z, hi, hzz, hcc⟩ := zeroC_spec hz
  obtain ⟨place, hpl, hb⟩ := places_built (P := P) hi hzz hp
  obtain ⟨arr', h1, h2, _⟩ := fill_rep hpl hF parts.toList ys ps hc zs z.cells (cCells_cells hcc) cs hf
  have := run_build (P := P) w t (parts.map fun (i, x) => (i, a.eval x)) arr' (hb _ _ (by rw [← h1]; congr 1; simp))
  refine .pure (v := .agg arr') hF hd (by simp only [execOp, ho, Sem.run_bind, this, Result.andThen_ok, Sem.run_pure]) (fun d => ⟨h2.agg, arr', rfl, fun i hi => ?_⟩) (fun s e => by cases e)
  obtain ⟨⟨c, hzi⟩, hall⟩ := nilsOf_mem hi
  rw [fill_keep hpl parts.toList ys ps hc z.cells arr' h1 i hall]
  have := cCells_nil hcc i c hzi
  simpa using this
end
end Go.AR

namespace Go.AR
open Go
section ops
variable {P : Program} {w : World} {G β : Nat → Nat} {ω : Nat → Option Occ} {σ σ' : Fr} {a : Act} {o : Oper}

theorem ok_ltake {e0 eo : Option TypeId} {t : TypeId} {x : Operand} {x' : Opnd} {s off d c : Nat} {cs : List TV} {r : List (List PV)} (hF : FRel w G β ω σ a.tmps) (hd : d < a.tmps.size) (hdst : o.dst = some d)
    (ho : o.op = .load t x) (hg : isAggT P t = some false) (hx : OOk x x') (ex : x'.ev σ.tmps = .lp s off) (hm : get σ.mem s = some (.cellsE e0 cs)) (hc : cs[off]? = some (.ownE eo c r)) :
    StepOk P w G ω β a o σ { tmps := set σ.tmps d (.ownE eo c r), mem := set σ.mem s (.cellsE e0 (cs.set off (.val (.sl c r)))) } := by
  have h0 := hx.trep hF
  rw [ex] at h0
  have e1 : a.eval x = .pointer (some ⟨β s, off, none⟩) := h0
  obtain ⟨hω, arr, e, hh, ⟨hsz, hsq⟩, hG, hcell⟩ := hF.blk s _ hm
  have hlt : off < arr.size := Nat.lt_of_lt_of_le (List.getElem?_eq_some_iff.1 hc).1 hsz
  have hcr : ORepE eo w G ω (.cell s off) c r arr[off] := hcell off _ _ hc (Array.getElem?_eq_getElem hlt)
  let ω' : Nat → Option Occ := fun g => if ω g = some (.cell s off) then some (.tmp d) else ω g
  have hsame : Same (fun _ => False) (fun s' => s' = s) w G β ω w G β ω' := by
    refine ⟨.refl _ _, fun g t hg _ => ⟨rfl, rfl, ?_⟩, fun g t hg _ => ⟨rfl, rfl, ?_⟩, fun g t i hg ht => ⟨rfl, rfl, ?_⟩⟩ <;> simp only [ω', hg]
    · rw [if_neg (by simp)]
    · rw [if_neg (by simp)]
    · rw [if_neg (by simp; intro e; exact absurd e ht)]
  refine ⟨.value arr[off], arr[off], w, G, β, ω', ?_, .inl rfl, .refl _ _ _, fun b hb => ?_, fun _ _ => rfl, ?_⟩
  · have hcl : w.cell? ⟨β s, off, none⟩ = some arr[off] := by rw [cell_of_block hh, Array.getElem?_eq_getElem hlt]
    simp [execOp, ho, e1, Instr.loadAt, Instr.sureAddr, loadVar, run_isAggT hg, hcl]
  · simp only [ω'] at hb
    split at hb
    · rename_i h; exact .inl (by rw [h]; simp)
    · exact .inl hb
  · refine ⟨fun t => ?_, fun t s' h => ?_, fun s' b hb => ?_, hF.gnew, fun b hb => ?_⟩
    · simp only [hdst, Act.put]
      rw [tget_set]
      by_cases e1 : t = d
      · subst e1
        rw [if_pos rfl, getD_set_eq _ _ _ _ hd]
        exact hcr.mono (.refl _ _) (fun g hg => ⟨rfl, rfl, by simp only [ω', hg, if_true]⟩)
      · rw [if_neg e1, getD_set_ne _ _ _ _ _ (Ne.symm e1)]
        exact hF.rest_tmp hsame (fun _ _ => rfl) t id
    · rw [tget_set] at h
      rw [get_set]
      split at h
      · cases h
      · have := hF.live t s' h
        split
        · simp
        · exact this
    · rw [get_set] at hb
      split at hb
      · rename_i e2
        subst e2
        cases hb
        refine ⟨by simp only [ω', hω]; simp, arr, e, hh, ⟨by simpa using hsz, by simpa using hsq⟩, hG, fun i t x ht hx => ?_⟩
        rw [List.getElem?_set] at ht
        split at ht
        · rename_i e3
          subst e3
          split at ht
          · cases ht
            rw [Array.getElem?_eq_getElem hlt] at hx
            cases hx
            exact ⟨hcr.rep, rfl⟩
          · cases ht
        · rename_i e3
          refine (hcell i t x ht hx).mono (.refl _ _) (fun g hg => ⟨rfl, rfl, ?_⟩)
          simp only [ω', hg]
          rw [if_neg (by simp; exact fun e => e3 e.symm)]
      · rename_i e2
        exact hF.rest_blk hsame (fun _ _ => rfl) s' e2 b hb
    · simp only [ω'] at hb
      split at hb
      · rename_i h; exact hF.ωnew b (by rw [h]; simp)
      · exact hF.ωnew b hb

theorem setRow_evo {T : Nat → Prop} {b : Nat} {arr cs : Array Value} {e : TypeId} (hh : w.heap[b]? = some (.cells arr e (0, 0))) (n : Nat) (hn : G b ≤ n) (hT : T b) (hst : ∀ i, i < G b → cs[i]? = arr[i]?) (hcs : cs.size = arr.size) :
    Evo T w G (w.setRow b cs) (upd G b n) := by
  refine ⟨rfl, rfl, rfl, by simp, ⟨fun b' => ?_, fun b' off h => ?_, fun b' sh hs => ?_⟩, fun b' hb ht => ?_⟩
  · by_cases e : b' = b
    · subst e; rw [upd_eq]; exact hn
    · rw [upd_ne _ _ _ _ e]; exact Nat.le_refl _
  · by_cases e : b' = b
    · subst e
      rw [cell_setRow_same w b' off arr cs _ _ hh, cell_of_block hh]
      exact hst off h
    · exact cell_setRow_other w b cs ⟨b', off, none⟩ e
  · by_cases e : b' = b
    · subst e
      have := setRow_heap w b' arr cs _ _ hh
      rw [← hs]
      simp [World.shape?, this, hh, hcs]
    · rw [shape_of_block (setRow_other w b b' cs e)]; exact hs
  · have e : b' ≠ b := fun e => ht (e ▸ hT)
    exact ⟨setRow_other w b b' cs e, upd_ne _ _ _ _ e⟩

def srcSet (m : List (Nat × TV)) : Opnd → TV → List (Nat × TV)
  | .t q, v => set m q v
  | .c _, _ => m
def Opnd.slot : Opnd → Option Nat
  | .t q => some q
  | .c _ => none
theorem tget_srcSet (σ : Fr) (y : Opnd) (t : Nat) : tget (srcSet σ.tmps y (y.ev σ.tmps).ro) t = if y.slot = some t then (tget σ.tmps t).ro else tget σ.tmps t := by
  cases y with
  | t q =>
    show tget (set σ.tmps q (tget σ.tmps q).ro) t = _
    rw [tget_set]
    by_cases e : t = q
    · subst e; rw [if_pos rfl, if_pos (show (Opnd.t t).slot = some t from rfl)]
    · rw [if_neg e, if_neg (show ¬ (Opnd.t q).slot = some t from fun h => e (Option.some.inj h).symm)]
  | c p =>
    show tget σ.tmps t = _
    rw [if_neg (show ¬ (Opnd.c p).slot = some t from fun h => by cases h)]
def srcω (ω : Nat → Option Occ) (y : Option Nat) (new : Occ) : Nat → Option Occ := match y with
  | some q => fun g => if ω g = some (.tmp q) then some new else ω g
  | none => ω
theorem srcω_keep {ω : Nat → Option Occ} {y : Option Nat} {new oc : Occ} {g : Nat} (hg : ω g = some oc) (hq : ∀ q, y = some q → oc ≠ .tmp q) : srcω ω y new g = some oc := by
  cases y with
  | none => exact hg
  | some q => simp only [srcω]; rw [if_neg (by rw [hg]; intro e; exact hq q rfl (Option.some.inj e))]; exact hg
theorem srcω_src {ω : Nat → Option Occ} {q : Nat} {new : Occ} {g : Nat} (hg : ω g = some (.tmp q)) : srcω ω (some q) new g = some new := by simp [srcω, hg]
theorem srcω_dom {ω : Nat → Option Occ} {y : Option Nat} {new : Occ} {g : Nat} (h : srcω ω y new g ≠ none) : ω g ≠ none := by
  cases y with
  | none => exact h
  | some q =>
    simp only [srcω] at h
    split at h
    · rename_i e; rw [e]; simp
    · exact h

/-- A store into a block of the frame's own. -/
theorem ok_storeN {e0 : Option TypeId} {t : TypeId} {x y : Operand} {x' y' : Opnd} {s off : Nat} {cs cs' : List TV} (hF : FRel w G β ω σ a.tmps) (hdst : o.dst = none)
    (ho : o.op = .store t x y) (hx : OOk x x') (hy : OOk y y') (ex : x'.ev σ.tmps = .lp s off) (hm : get σ.mem s = some (.cellsE e0 cs)) (hn : szT P t = some (a.eval y).cells.size) (hlen : cs'.length = cs.length)
    (hle : off + (a.eval y).cells.size ≤ cs.length) (h1 : ∀ v ∈ (a.eval y).cells.toList, v.oneCell' = true) (hout : ∀ i, i < off ∨ off + (a.eval y).cells.size ≤ i → cs'[i]? = cs[i]?)
    (hin : ∀ (w' : World) (G' : Nat → Nat) (ω' : Nat → Option Occ), GExt w G w' G' → (∀ g q, y'.slot = some q → ω g = some (.tmp q) → w'.heap[g]? = w.heap[g]? ∧ G' g = G g ∧ ω' g = some (.cell s off)) →
      ∀ (i : Nat) (t : TV) (v : Value), cs'[off + i]? = some t → (a.eval y).cells[i]? = some v → CRep w' G' ω' (β s) s (off + i) t v) :
    StepOk P w G ω β a o σ { tmps := srcSet σ.tmps y' (y'.ev σ.tmps).ro, mem := set σ.mem s (.cellsE e0 cs') } := by
  have h0 := hx.trep hF
  rw [ex] at h0
  have e1 : a.eval x = .pointer (some ⟨β s, off, none⟩) := h0
  obtain ⟨hω, arr, e, hh, ⟨hsz, hsq⟩, hG, hcell⟩ := hF.blk s _ hm
  let vs := (a.eval y).cells.toList
  have hvl : vs.length = (a.eval y).cells.size := by simp [vs]
  let arr' : Array Value := (arr.toList.take (off + 0) ++ vs ++ arr.toList.drop (off + 0 + vs.length)).toArray
  have hrun := run_storeCells_at P (β s) off _ vs 0 arr w hh (by rw [hvl]; omega) h1
  have hget : ∀ i, arr'[i]? = if i < off then arr[i]? else if i < off + vs.length then vs[i - off]? else arr[i]? := by
    intro i
    have htl : (arr.toList.take off).length = off := by simp; omega
    simp only [arr', Nat.add_zero, List.getElem?_toArray, List.append_assoc]
    by_cases hi : i < off
    · rw [if_pos hi, List.getElem?_append_left (by rw [htl]; exact hi), List.getElem?_take, if_pos hi]; simp
    · rw [if_neg hi, List.getElem?_append_right (by rw [htl]; omega), htl]
      by_cases hj : i < off + vs.length
      · rw [if_pos hj, List.getElem?_append_left (by omega)]
      · rw [if_neg hj, List.getElem?_append_right (by omega), List.getElem?_drop]
        simp; congr 1; omega
  have hevo : Evo (fun b => ω b ≠ none) w G (w.setRow (β s) arr') (upd G (β s) 0) := setRow_evo hh 0 (by rw [hG]; exact Nat.le_refl _) (by rw [hω]; simp) (fun i hi => by rw [hG] at hi; omega) (by simp only [arr', List.size_toArray, List.length_append, List.length_take, List.length_drop, Array.length_toList, Nat.add_zero]; omega)
  have hG' : upd G (β s) 0 = G := by
    funext b
    by_cases e : b = β s
    · subst e; rw [upd_eq, hG]
    · rw [upd_ne _ _ _ _ e]
  rw [hG'] at hevo
  let ω' : Nat → Option Occ := srcω ω y'.slot (.cell s off)
  have hne : ∀ g, ω g ≠ some (.blk s) → g ≠ β s := fun g hg e => hg (e ▸ hω)
  have hkeep : ∀ g oc, ω g = some oc → (∀ q, y'.slot = some q → oc ≠ .tmp q) → ω' g = some oc := fun g oc hg hq => srcω_keep hg hq
  have hsame : Same (fun t => y'.slot = some t) (fun s' => s' = s) w G β ω (w.setRow (β s) arr') G β ω' := by
    refine ⟨hevo.ext, fun g t hg ht => ⟨setRow_other w _ _ _ (hne g (by rw [hg]; simp)), rfl, hkeep g _ hg (fun q e e2 => ht (by rw [e]; cases e2; rfl))⟩,
      fun g t hg ht => ⟨setRow_other w _ _ _ (hne g (by rw [hg]; simpa using ht)), rfl, hkeep g _ hg (fun q e e2 => by cases e2)⟩,
      fun g t i hg ht => ⟨setRow_other w _ _ _ (hne g (by rw [hg]; simp)), rfl, hkeep g _ hg (fun q e e2 => by cases e2)⟩⟩
  refine ⟨.skip, undef, w.setRow (β s) arr', G, β, ω', ?_, .inr ⟨rfl, rfl⟩, hevo, fun b hb => ?_, fun _ _ => rfl, ?_⟩
  · simp only [execOp, ho, e1, Instr.storeAt, Instr.sureAddr, storeVar, Sem.run_bind, Sem.run_pure, Result.andThen_ok, run_szT hn, ne_eq, not_true_eq_false, if_false]
    have : (storeCells ⟨β s, off, none⟩ (a.eval y).cells.toList).run P w = .ok () (w.setRow (β s) arr') := hrun
    simp [this]
  · exact .inl (srcω_dom hb)
  · refine ⟨fun t => ?_, fun t s' h => ?_, fun s' b hb => ?_, fun b hb => hF.gnew b (by simpa using hb), fun b hb => ?_⟩
    · simp only [hdst, Act.put]
      rw [tget_srcSet]
      split
      · have h0 := hF.tmp t
        cases hx : tget σ.tmps t <;> rw [hx] at h0
        · exact Rep.mono hevo.ext h0
        · exact (ORepE.rep h0).mono hevo.ext
        · exact h0
        · exact PRep.mono h0 hevo.ext
        · exact h0.elim
        · trivial
        · trivial
        · obtain ⟨cap, e3, k1, k2, k3, k4⟩ := h0
          exact ⟨cap, e3, k1, k2, k3, hevo.ext.shape _ _ k4⟩
        · exact h0
        · exact h0
        · exact Rep.mono hevo.ext h0.1
      · rename_i e2
        exact hF.rest_tmp hsame (fun _ _ => rfl) t e2
    · dsimp only at h ⊢
      rw [tget_srcSet] at h
      have : get σ.mem s' ≠ none := by
        split at h
        · exact hF.live t _ (TV.rf_ro h)
        · exact hF.live t _ h
      rw [get_set]
      split
      · simp
      · exact this
    · rw [get_set] at hb
      split at hb
      · rename_i e2
        subst e2
        cases hb
        refine ⟨hkeep _ _ hω (fun q e e2 => by cases e2), arr', e, setRow_heap w _ arr arr' _ _ hh, ⟨?_, fun h => ?_⟩, hG, fun i t v ht hv => ?_⟩
        · simp [arr', hvl, hlen]; omega
        · have := hsq h; simp [arr', hvl, hlen]; omega
        · rw [hget] at hv
          by_cases hi : i < off
          · rw [if_pos hi] at hv
            rw [hout i (.inl hi)] at ht
            exact (hcell i t v ht hv).mono hevo.ext (fun g hg => ⟨setRow_other w _ _ _ (hne g (by rw [hg]; simp)), rfl, hkeep g _ hg (fun q e e2 => by cases e2)⟩)
          · rw [if_neg hi] at hv
            by_cases hj : i < off + vs.length
            · rw [if_pos hj] at hv
              have := hin (w.setRow (β s') arr') G ω' hevo.ext (fun g q hq hg => ⟨setRow_other w _ _ _ (hne g (by rw [hg]; simp)), rfl, by simp only [ω', hq]; exact srcω_src hg⟩) (i - off) t v (by rw [show off + (i - off) = i by omega]; exact ht) (by simpa [vs] using hv)
              rwa [show off + (i - off) = i by omega] at this
            · rw [if_neg hj] at hv
              rw [hout i (.inr (by rw [hvl] at hj; omega))] at ht
              exact (hcell i t v ht hv).mono hevo.ext (fun g hg => ⟨setRow_other w _ _ _ (hne g (by rw [hg]; simp)), rfl, hkeep g _ hg (fun q e e2 => by cases e2)⟩)
      · rename_i e2
        exact hF.rest_blk hsame (fun _ _ => rfl) s' e2 b hb
    · rw [size_setRow]; exact hF.ωnew b (srcω_dom hb)
end ops
end Go.AR
