import Derived.Test.YtfipbmlnklmjoaaDoorG45
import Derived.Test.YtfipbmlnklmjoaaDoorG10
import Derived.Deep.DeepHandedRow
import Derived.Lib.LaidIn
set_option linter.all false
/-! The row of a law whose list says what package variables hold. -/
namespace Go.AR
open Go Go.ChangeShapes Go.WideShapes Go.ChangeAt Go.RowKit
theorem law_laid {I : Inv} {C : Checked} {os : Os} {f : FuncId} {fn : Func} {s : ChangeSpec} {F : Stop.Interp} {conds : List PathCond} {laidL : List (String × DataW Unit)} {H : Type} (enc : TypeId × Value → H) (shapes : List Sh) (tb : TypeId)
    (own : ownKnob C.prog.godebug = none) (started : os.Started) (noInit : C.prog.inits.idxOf? f = none) (hfn : C.prog.funcs[f]? = some fn)
    (hvars : s.vars = []) (laid : laidOutB C.prog = true) (hpar : (fn.params.toList.all fun t => C.prog.readableRec t && decide (t < C.prog.types.size)) = true)
    (hsh : fn.params.toList.mapM (shOf C.prog 20) = some shapes) (hres : fn.resultTypes = #[tb]) (hbool : C.prog.underlying tb = some .bool)
    (hsfn : ∀ ds : List (DataW H), ds.length = shapes.length → s.fn H ds = { results := [.lit (.bool true)], args := ds })
    (witness : ∃ (w : World) (tape : Tape) (i : Input), w.os = os ∧ (w.forCall tape i).Shaped C.prog ∧ i.vars = [] ∧ Input.okWide C.prog (w.forCall tape i) .any w.heap.size f i ∧
      (OpenSpec.ofChange s).preRow enc C.prog fn conds false laidL (w.forCall tape i).memory i.args ∧ ({} : Assume).holds C.prog (lone (Frame.enter C.prog f i.args .normal) [] (w.forCall tape i)))
    (hI : ∀ W, laidMetH C.prog laidL W → I.on W (fun _ => none))
    (hcall : ∀ ps, HasArgs shapes ps → ACallI I C.prog f (ps.map .v) (.val (.bool true)) []) :
    ReturnsInHanded {} C os f .any ((OpenSpec.ofChange s).preRow enc C.prog fn conds false laidL) (((OpenSpec.ofChange s).at F).post enc C.prog fn false true false false) := by
  refine returnsInHanded_of_row (s := OpenSpec.ofChange s) own started noInit hfn witness ?_
  intro W base args ds gs before hval hW hcnd _ _ hL _ _
  show Calls C.prog f args W fun e W' => ∃ v, e = .returned v ∧ s.post enc C.prog fn false true false false W args v W'
  have hW0 : DataW.Whole enc C.prog fn.params.toList s.vars false W args.toList ds gs before := hW
  obtain ⟨p, q, hA, hV, e, hfz, hnd⟩ := id hW0
  have hA' : DataW.TrodAll enc C.prog W 0 (fun _ => true) true fn.params.toList args.toList ds p := hA
  rw [hvars] at hV
  obtain ⟨rfl, rfl⟩ : gs = [] ∧ q = [] := by
    cases gs with
    | nil => exact ⟨rfl, hV⟩
    | cons g gs => simp [DataW.TrodVars] at hV
  obtain ⟨hl, ps, hps, hrep⟩ := args_rep (k := 20) fn.params.toList args.toList ds p shapes hsh hA' (fun j t v ht hv => hval j t v (by simpa using ht) (by simpa using hv))
  obtain ⟨hent, hc⟩ := hcall ps hps
  have hG : ∀ b, W.heap.size ≤ b → Gof W b = 0 := fun b hb => by
    unfold Gof
    rw [Array.getElem?_eq_none hb]
  have := hc W (Gof W) (fun _ => 0) (fun _ => none) args.toList hG (fun b hb => (hb rfl).elim) (hrep 0) (hI W hL)
  simp only [Array.toArray_toList] at this
  refine this.mono fun e W' ⟨v, G', ω', he, hE, _, _, _, _, hrv⟩ => ?_
  subst he
  have hb : Below W.heap.size W W' := ⟨hE.os, hE.tape, hE.output, hE.size, fun b hb => (hE.block b hb (fun h => h rfl)).1⟩
  cases hrv with
  | bool b =>
  simp only [List.all_eq_true, Bool.and_eq_true, decide_eq_true_eq] at hpar
  obtain ⟨pa, hpa⟩ := args_below laid hb _ _ _ _ hpar hA'
  refine ⟨_, rfl, ds, [], before, [], pa, [], hW0, ?_, ?_, ?_, hb.frame _, fun h => by cases h⟩
  · rw [List.append_nil, hsfn ds hl, hres]
    exact trodAll_mk1 (shut_bool hbool _)
  · rw [List.append_nil, hsfn ds hl]
    exact hpa
  · rw [List.append_nil, hsfn ds hl, hvars]
    rfl
end Go.AR

/-! Rows of which what comes in is of little bulk. -/
namespace Go.AR
open Go Go.ChangeShapes Go.WideShapes Go.ChangeAt Go.RowKit
mutual
/-- What a shape has, with a bound on how many there are of anything. -/
def Sh.hasB (N : Nat) : Sh → List PV → Prop
  | .int k, cs => ∃ n, cs = [.int k n] ∧ (Lit.int k n).wf = true
  | .bool, cs => ∃ b, cs = [.bool b]
  | .str, cs => ∃ l, cs = [.str l] ∧ l.length ≤ N
  | .arr n s, cs => hasN (s.hasB N) n cs
  | .struct ss, cs => Sh.hasAllB N ss cs
  | .sl s, cs => ∃ rows, cs = [.sl s.size rows] ∧ rows.length ≤ N ∧ ∀ r ∈ rows, s.hasB N r
def Sh.hasAllB (N : Nat) : List Sh → List PV → Prop
  | [], cs => cs = []
  | s :: ss, cs => ∃ a b, cs = a ++ b ∧ s.hasB N a ∧ Sh.hasAllB N ss b
end
def HasArgsB (N : Nat) : List Sh → List PV → Prop
  | [], [] => True
  | s :: ss, p :: ps => (∃ cs, s.hasB N cs ∧ p = s.pv cs) ∧ HasArgsB N ss ps
  | _, _ => False
/-- A measure of data. -/
structure Bulk {H : Type} (f : DataW H → Nat) : Prop where
  str : ∀ b : List UInt8, b.length ≤ f (.lit (.string b))
  agg : ∀ ps d, d ∈ ps → f d ≤ f (.agg ps)
  len : ∀ es sp, es.length ≤ f (.slice es sp)
  sl : ∀ es sp d, d ∈ es → f d ≤ f (.slice es sp)
section
variable {H : Type} {enc : TypeId × Value → H} {P : Program} {w : World} {base : Nat} {spare : Nat → Bool} {held : Bool} {bulk : DataW H → Nat} {N : Nat}
theorem fields_repB {m k : Nat} (IH : ∀ (t : TypeId) (cs : List Value) (d : DataW H) (ms : List MemPlace) (s : Sh), shOf P k t = some s → DataW.trod enc P w base spare held m t cs = some (d, ms) → bulk d ≤ N → ∃ ps, s.hasB N ps ∧ CR w (Gof w) ps cs)
    (cs : List Value) (total : Nat) (htot : cs.length = total) :
    ∀ (fs : List Field) (off : Nat) (xs : List (DataW H × List MemPlace)) (ss : List Sh), P.consecB fs off total = true →
      fs.mapM (fun f => DataW.trod enc P w base spare held m f.type ((cs.drop f.offset).take (P.cellsOf f.type))) = some xs → fs.mapM (fun f => shOf P k f.type) = some ss → (∀ x ∈ xs, bulk x.1 ≤ N) →
      ∃ ps, Sh.hasAllB N ss ps ∧ CR w (Gof w) ps (cs.drop off)
  | [], off, xs, ss, hc, hx, hs, hb => by
    simp at hs; subst hs
    simp only [Program.consecB, beq_iff_eq] at hc
    refine ⟨[], by simp [Sh.hasAllB], ?_⟩
    rw [List.drop_eq_nil_of_le (by omega)]
    exact .nil _ _
  | f :: fs, off, xs, ss, hc, hx, hs, hb => by
    simp only [Program.consecB, Bool.and_eq_true, beq_iff_eq] at hc
    obtain ⟨hoff, hc⟩ := hc
    rw [List.mapM_cons] at hx hs
    cases h1 : shOf P k f.type with
    | none => simp [h1] at hs
    | some s =>
      cases h2 : fs.mapM (fun f => shOf P k f.type) with
      | none => simp [h1, h2] at hs
      | some ss' =>
        simp [h1, h2] at hs; subst hs
        cases h3 : DataW.trod enc P w base spare held m f.type ((cs.drop f.offset).take (P.cellsOf f.type)) with
        | none => simp [h3] at hx
        | some x =>
          cases h4 : fs.mapM (fun f => DataW.trod enc P w base spare held m f.type ((cs.drop f.offset).take (P.cellsOf f.type))) with
          | none => simp [h3, h4] at hx
          | some xs' =>
            simp [h3, h4] at hx; subst hx
            obtain ⟨ps, hp, hr⟩ := IH _ _ _ _ _ h1 h3 (hb x (by simp))
            obtain ⟨qs, hq, hr'⟩ := fields_repB IH cs total htot fs (off + P.cellsOf f.type) xs' ss' hc h4 h2 (fun y hy => hb y (by simp [hy]))
            refine ⟨ps ++ qs, ⟨ps, qs, rfl, hp, hq⟩, ?_⟩
            have := hr.append hr'
            rw [hoff, take_drop_step] at this
            exact this

theorem elems_repB {m : Nat} {e : TypeId} {s : Sh} (IH : ∀ (cs : List Value) (d : DataW H) (ms : List MemPlace), DataW.trod enc P w base spare held m e cs = some (d, ms) → bulk d ≤ N → ∃ ps, s.hasB N ps ∧ CR w (Gof w) ps cs) (cs : List Value) :
    ∀ (n i0 : Nat) (xs : List (DataW H × List MemPlace)), cs.length = (i0 + n) * P.cellsOf e →
      (List.range' i0 n).mapM (fun i => DataW.trod enc P w base spare held m e ((cs.drop (i * P.cellsOf e)).take (P.cellsOf e))) = some xs → (∀ x ∈ xs, bulk x.1 ≤ N) →
      ∃ ps, hasN (s.hasB N) n ps ∧ CR w (Gof w) ps (cs.drop (i0 * P.cellsOf e))
  | 0, i0, xs, hl, hx, hb => by
    refine ⟨[], rfl, ?_⟩
    rw [List.drop_eq_nil_of_le (by simp at hl; omega)]
    exact .nil _ _
  | n + 1, i0, xs, hl, hx, hb => by
    rw [List.range'_succ, List.mapM_cons] at hx
    cases h3 : DataW.trod enc P w base spare held m e ((cs.drop (i0 * P.cellsOf e)).take (P.cellsOf e)) with
    | none => simp [h3] at hx
    | some x =>
      cases h4 : (List.range' (i0 + 1) n).mapM (fun i => DataW.trod enc P w base spare held m e ((cs.drop (i * P.cellsOf e)).take (P.cellsOf e))) with
      | none => simp [h3, h4] at hx
      | some xs' =>
        simp [h3, h4] at hx; subst hx
        obtain ⟨ps, hp, hr⟩ := IH _ _ _ h3 (hb x (by simp))
        obtain ⟨qs, hq, hr'⟩ := elems_repB IH cs n (i0 + 1) xs' (by rw [hl]; congr 1; omega) h4 (fun y hy => hb y (by simp [hy]))
        refine ⟨ps ++ qs, ⟨ps, qs, rfl, hp, hq⟩, ?_⟩
        have := hr.append hr'
        rw [show (i0 + 1) * P.cellsOf e = i0 * P.cellsOf e + P.cellsOf e by rw [Nat.add_mul]; omega, take_drop_step] at this
        exact this

theorem trod_repB (hB : Bulk bulk) : ∀ (k m : Nat) (t : TypeId) (cs : List Value) (d : DataW H) (ms : List MemPlace) (s : Sh), shOf P k t = some s → DataW.trod enc P w base spare held m t cs = some (d, ms) → bulk d ≤ N → ∃ ps, s.hasB N ps ∧ CR w (Gof w) ps cs
  | 0, _, _, _, _, _, _, h, _, _ => by cases h
  | k + 1, 0, _, _, _, _, _, _, h, _ => by cases h
  | k + 1, m + 1, t, cs, d, ms, s, hs, h, hN => by
    unfold shOf at hs
    unfold DataW.trod at h
    cases ht : P.underlying t with
    | none => rw [ht] at hs; cases hs
    | some u =>
      rw [ht] at hs h
      cases u with
      | bool =>
        cases hs
        rcases cs with _ | ⟨v, _ | ⟨v2, cs⟩⟩ <;> (try cases v) <;> simp at h
        rename_i b
        exact ⟨[.bool b], ⟨b, rfl⟩, .single (.bool b) rfl⟩
      | int kd =>
        cases hs
        rcases cs with _ | ⟨v, _ | ⟨v2, cs⟩⟩ <;> (try cases v) <;> simp at h
        rename_i k2 n
        obtain ⟨⟨e, hw⟩, _⟩ := h
        subst e
        exact ⟨[.int _ n], ⟨n, rfl, hw⟩, .single (.int _ n) rfl⟩
      | string =>
        cases hs
        rcases cs with _ | ⟨v, _ | ⟨v2, cs⟩⟩ <;> (try cases v) <;> simp at h
        rename_i b
        obtain ⟨h1, rfl, _⟩ := h
        refine ⟨[.str b.data.toList], ⟨_, rfl, Nat.le_trans (hB.str _) hN⟩, .single ?_ rfl⟩
        have := Rep.str (w := w) (G := Gof w) b.data.toList
        simpa using this
      | slice e =>
        simp only at hs
        split at hs
        · rename_i s' hs'
          split at hs
          · rename_i hcond
            cases hs
            obtain ⟨hsz, hpos⟩ := hcond
            rcases cs with _ | ⟨v, _ | ⟨v2, cs⟩⟩ <;> (try cases v) <;> (try simp at h)
            rename_i oa len cap
            cases oa with
            | none =>
              rcases len with _ | len
              · exact ⟨[.sl _ []], ⟨[], rfl, by simp, by simp⟩, .single (.sl0 _ _ _) rfl⟩
              · simp at h
            | some a =>
              simp only at h
              split at h
              case isFalse => cases h
              rename_i hbl
              obtain ⟨hb, hlc, hcm⟩ := hbl
              cases hel : (List.range len).mapM (fun i => (w.cells? base (a.add (i * P.cellsOf e)) (P.cellsOf e)).bind (DataW.trod enc P w base spare held m e)) with
              | none => rw [hel] at h; cases h
              | some el =>
              obtain ⟨h1, h2⟩ := mapM_get hel
              rw [hel] at h
              simp only [Option.bind_some, Option.map_eq_some_iff, Prod.mk.injEq] at h
              obtain ⟨rest, hrest, hd, hms⟩ := h
              subst hd
              have hlenN : len ≤ N := by
                have := hB.len (el.map (·.1)) (rest.map (·.1))
                rw [List.length_map, h1, List.length_range] at this
                omega
              have helN : ∀ y ∈ el, bulk y.1 ≤ N := fun y hy => Nat.le_trans (hB.sl _ _ _ (List.mem_map_of_mem hy)) hN
              have hrow : ∀ i, i < len → ∃ r, s'.hasB N r ∧ ∃ vs, CR w (Gof w) r vs ∧ vs.length = P.cellsOf e ∧ ∀ j, j < P.cellsOf e → ∃ v, vs[j]? = some v ∧ w.cell? ((a.add (i * P.cellsOf e)).add j) = some v := fun i hi => by
                obtain ⟨y, hy, hf⟩ := h2 i i (by simp [hi])
                cases hcs : w.cells? base (a.add (i * P.cellsOf e)) (P.cellsOf e) with
                | none => rw [hcs] at hf; cases hf
                | some vs =>
                  rw [hcs] at hf
                  obtain ⟨r, hr1, hr2⟩ := trod_repB hB k m e vs y.1 y.2 s' hs' hf (helN y (List.mem_of_getElem? hy))
                  obtain ⟨hl, hat⟩ := cells_at hcs
                  exact ⟨r, hr1, vs, hr2, hl, hat⟩
              by_cases hlen : len = 0
              · subst hlen
                exact ⟨[.sl _ []], ⟨[], rfl, by simp, by simp⟩, .single (.sl0 _ _ _) rfl⟩
              · obtain ⟨rows, hrl, hrows⟩ := exists_list (Q := fun i r => s'.hasB N r ∧ ∃ vs, CR w (Gof w) r vs ∧ vs.length = P.cellsOf e ∧ ∀ j, j < P.cellsOf e → ∃ v, vs[j]? = some v ∧ w.cell? ((a.add (i * P.cellsOf e)).add j) = some v) len hrow
                have hspot : a.spot = none := by
                  obtain ⟨r, _, vs, _, _, hat⟩ := hrow 0 (by omega)
                  obtain ⟨v, _, hv⟩ := hat 0 hpos
                  simpa [Addr.add] using World.cell?_spot hv
                obtain ⟨b, off, spot⟩ := a
                simp only at hspot; subst hspot
                have hadd : ∀ i j, ((⟨b, off, none⟩ : Addr).add i).add j = ⟨b, off + (i + j), none⟩ := fun i j => by
                  unfold Addr.add
                  by_cases hi : i = 0 <;> by_cases hj : j = 0 <;> simp [hi, hj]; try omega
                have hc : ∀ r ∈ rows, r.length = P.cellsOf e := fun r hr => by
                  obtain ⟨i, hi⟩ := List.mem_iff_getElem?.1 hr
                  obtain ⟨_, vs, hcr, hl, _⟩ := hrows i r hi
                  rw [← hcr.len, hl]
                have hflat : rows.flatten.length = len * P.cellsOf e := by rw [flat_len hc, hrl]
                have hcell : ∀ (j : Nat) (p : PV), rows.flatten[j]? = some p → ∃ v, w.cell? ⟨b, off + j, none⟩ = some v ∧ Rep w (Gof w) p v ∧ p.one = true := fun j p hp => by
                  have hj : j < len * P.cellsOf e := by rw [← hflat]; exact (List.getElem?_eq_some_iff.1 hp).1
                  have hq : j / P.cellsOf e < len := (Nat.div_lt_iff_lt_mul hpos).2 hj
                  have hm : j % P.cellsOf e < P.cellsOf e := Nat.mod_lt _ hpos
                  have hje : j / P.cellsOf e * P.cellsOf e + j % P.cellsOf e = j := by rw [Nat.mul_comm]; exact Nat.div_add_mod j _
                  have hr : rows[j / P.cellsOf e]? = some (rows[j / P.cellsOf e]'(by omega)) := List.getElem?_eq_getElem _
                  obtain ⟨_, vs, hcr, hl, hat⟩ := hrows _ _ hr
                  obtain ⟨v, hv, hcv⟩ := hat _ hm
                  have hp' := flat_at hc hr hm
                  rw [hje, hp] at hp'
                  rw [hadd, hje] at hcv
                  exact ⟨v, hcv, hcr.rep _ p v hp'.symm hv, hcr.one p (List.mem_iff_getElem?.2 ⟨_, hp'.symm⟩)⟩
                have hne : ∀ j, j < rows.flatten.length → ∃ v, w.cell? ⟨b, off + j, none⟩ = some v := fun j hj => by
                  obtain ⟨v, hv, _⟩ := hcell j _ (List.getElem?_eq_getElem hj)
                  exact ⟨v, hv⟩
                refine ⟨[.sl (P.cellsOf e) rows], ⟨rows, by rw [hsz], by rw [hrl]; exact hlenN, fun r hr => ?_⟩, ?_⟩
                · obtain ⟨i, hi⟩ := List.mem_iff_getElem?.1 hr
                  exact (hrows i r hi).1
                · refine .single ?_ rfl
                  have := Rep.sl (w := w) (G := Gof w) (P.cellsOf e) rows b off cap (fun j => (w.cell? ⟨b, off + j, none⟩).getD undef) hc ?_ ?_ ?_ ?_ (by omega)
                  · rw [hrl] at this; exact this
                  · have hpos' : 0 < rows.flatten.length := by rw [hflat]; exact Nat.mul_pos (by omega) hpos
                    obtain ⟨v, hv⟩ := hne (rows.flatten.length - 1) (by omega)
                    have := cell_Gof hv
                    omega
                  · intro j hj
                    obtain ⟨v, hv⟩ := hne j hj
                    rw [hv]; rfl
                  · intro j p hp
                    obtain ⟨v, hv, hr, _⟩ := hcell j p hp
                    rw [hv]; exact hr
                  · intro p hp
                    obtain ⟨j, hj⟩ := List.mem_iff_getElem?.1 hp
                    obtain ⟨_, _, _, h1⟩ := hcell j p hj
                    exact h1
          · cases hs
        · cases hs
      | struct fs =>
        simp only at hs h
        split at hs
        · rename_i ss hss
          split at hs
          · rename_i hcons
            cases hs
            split at h
            · rename_i hl
              cases hx : fs.toList.mapM (fun f => DataW.trod enc P w base spare held m f.type ((cs.drop f.offset).take (P.cellsOf f.type))) with
              | none => rw [hx] at h; cases h
              | some xs =>
                rw [hx] at h
                simp only [Option.map_some, Option.some.injEq, Prod.mk.injEq] at h
                obtain ⟨hd, _⟩ := h
                subst hd
                obtain ⟨ps, hp, hr⟩ := fields_repB (fun t cs d ms s => trod_repB hB k m t cs d ms s) cs _ hl fs.toList 0 xs ss hcons hx hss (fun x hx => Nat.le_trans (hB.agg _ _ (List.mem_map_of_mem hx)) hN)
                exact ⟨ps, hp, by simpa using hr⟩
            · cases h
          · cases hs
        · cases hs
      | array n e =>
        simp only at hs h
        split at hs
        · rename_i s' hs'
          split at hs
          · rename_i hcells
            cases hs
            split at h
            · rename_i hl
              cases hx : (List.range n).mapM (fun i => DataW.trod enc P w base spare held m e ((cs.drop (i * P.cellsOf e)).take (P.cellsOf e))) with
              | none => rw [hx] at h; cases h
              | some xs =>
                rw [hx] at h
                simp only [Option.map_some, Option.some.injEq, Prod.mk.injEq] at h
                obtain ⟨hd, _⟩ := h
                subst hd
                rw [List.range_eq_range'] at hx
                obtain ⟨ps, hp, hr⟩ := elems_repB (fun cs d ms => trod_repB hB k m e cs d ms s' hs') cs n 0 xs (by rw [hl, hcells]; simp) hx (fun x hx => Nat.le_trans (hB.agg _ _ (List.mem_map_of_mem hx)) hN)
                exact ⟨ps, hp, by simpa using hr⟩
            · cases h
          · cases hs
        · cases hs
      | _ => cases hs
end
section
variable {H : Type} {enc : TypeId × Value → H} {P : Program} {w : World} {base : Nat} {spare : Nat → Bool} {held : Bool} {bulk : DataW H → Nat} {N : Nat}
theorem arg_repB (hB : Bulk bulk) {k : Nat} {t : TypeId} {s : Sh} {r : Go.Reach} {b0 : Nat} {v : Value} {d : DataW H} {ms : List MemPlace} (hs : shOf P k t = some s) (hok : Value.okWide P w r b0 t v)
    (h : DataW.Trod enc P w base spare held t v d ms) (hN : bulk d ≤ N) : ∃ cs, s.hasB N cs ∧ Rep w (Gof w) (s.pv cs) v := by
  obtain ⟨m, hm⟩ := h
  obtain ⟨ps, hp, hr⟩ := trod_repB hB k m t _ d ms s hs hm hN
  refine ⟨ps, hp, ?_⟩
  have hone : v.cells.toList = [v] → s.agg = false → Rep w (Gof w) (s.pv ps) v := fun e ha => by
    rw [e] at hr
    obtain ⟨hl, hrep, h1⟩ := hr
    rcases ps with _ | ⟨p, _ | ⟨q, ps⟩⟩ <;> simp at hl
    simp [Sh.pv, ha]
    exact hrep 0 p v rfl rfl
  have hagg : ∀ xs : Array Value, v = .agg xs → s.agg = true → Rep w (Gof w) (s.pv ps) v := fun xs e ha => by
    subst e
    obtain ⟨hl, hrep, h1⟩ := hr
    simp only [Sh.pv, ha, if_true]
    exact .agg ps xs (by simpa [Value.cells] using hl) (fun i p u hp' hu => hrep i p u hp' (by simpa [Value.cells] using hu)) h1
  cases k with
  | zero => cases hs
  | succ k =>
    unfold shOf at hs
    cases ht : P.underlying t with
    | none => rw [ht] at hs; cases hs
    | some u =>
      rw [ht] at hs
      cases u with
      | bool => cases hs; obtain ⟨b, rfl⟩ := okWide_bool ht hok; exact hone rfl rfl
      | int kd => cases hs; obtain ⟨b, rfl⟩ := okWide_int ht hok; exact hone rfl rfl
      | string => cases hs; obtain ⟨b, rfl⟩ := okWide_string ht hok; exact hone rfl rfl
      | slice e =>
        obtain ⟨a, l, c, rfl⟩ := okWide_slice ht hok
        simp only at hs
        split at hs
        · split at hs
          · cases hs; exact hone rfl rfl
          · cases hs
        · cases hs
      | struct fs =>
        unfold Value.okWide at hok
        rw [ht] at hok
        obtain ⟨xs, e, _⟩ := hok
        simp only at hs
        split at hs
        · split at hs
          · cases hs; exact hagg xs e rfl
          · cases hs
        · cases hs
      | array n e =>
        unfold Value.okWide at hok
        rw [ht] at hok
        obtain ⟨xs, e, _⟩ := hok
        simp only at hs
        split at hs
        · split at hs
          · cases hs; exact hagg xs e rfl
          · cases hs
        · cases hs
      | _ => cases hs

theorem args_repB (hB : Bulk bulk) {k : Nat} {r : Go.Reach} {b0 : Nat} : ∀ (ts : List TypeId) (vs : List Value) (ds : List (DataW H)) (ms : List MemPlace) (ss : List Sh), ts.mapM (shOf P k) = some ss → DataW.TrodAll enc P w base spare held ts vs ds ms →
    (∀ (j : Nat) t v, ts[j]? = some t → vs[j]? = some v → Value.okWide P w r b0 t v) → (∀ d ∈ ds, bulk d ≤ N) → ds.length = ss.length ∧ ∃ ps, HasArgsB N ss ps ∧ ∀ i, ArgsRep w (Gof w) (fun _ => 0) (fun _ => none) i (ps.map .v) vs
  | [], vs, ds, ms, ss, hs, h, hok, hN => by
    simp at hs; subst hs
    cases vs <;> cases ds <;> simp [DataW.TrodAll] at h
    exact ⟨rfl, [], trivial, fun i => trivial⟩
  | t :: ts, [], ds, ms, ss, hs, h, hok, hN => by simp [DataW.TrodAll] at h
  | t :: ts, v :: vs, [], ms, ss, hs, h, hok, hN => by simp [DataW.TrodAll] at h
  | t :: ts, v :: vs, d :: ds, ms, ss, hs, h, hok, hN => by
    rw [List.mapM_cons] at hs
    cases h1 : shOf P k t with
    | none => simp [h1] at hs
    | some s =>
      cases h2 : ts.mapM (shOf P k) with
      | none => simp [h1, h2] at hs
      | some ss' =>
        simp [h1, h2] at hs; subst hs
        obtain ⟨p, q, ha, hb, _⟩ := h
        obtain ⟨cs, hc, hr⟩ := arg_repB hB h1 (hok 0 t v rfl rfl) ha (hN d (by simp))
        obtain ⟨hl, ps, hp, hrs⟩ := args_repB hB ts vs ds q ss' h2 hb (fun j t v ht hv => hok (j + 1) t v (by simpa using ht) (by simpa using hv)) (fun x hx => hN x (by simp [hx]))
        exact ⟨by simp [hl], s.pv cs :: ps, ⟨⟨cs, hc, rfl⟩, hp⟩, fun i => ⟨hr, hrs (i + 1)⟩⟩

end
/-- A spec of which what comes in is as a test says. -/
abbrev up (s : ChangeSpec) (c : (H : Type) → List (DataW H) → Bool) : OpenSpec := { OpenSpec.ofChange s with cond := some c }
theorem law_upto {I : Inv} {C : Checked} {os : Os} {f : FuncId} {fn : Func} {s : ChangeSpec} {F : Stop.Interp} {conds : List PathCond} {laidL : List (String × DataW Unit)} {H : Type} {bulk : DataW H → Nat} {N : Nat} {c : (H : Type) → List (DataW H) → Bool} (enc : TypeId × Value → H) (shapes : List Sh) (tb : TypeId)
    (own : ownKnob C.prog.godebug = none) (started : os.Started) (noInit : C.prog.inits.idxOf? f = none) (hfn : C.prog.funcs[f]? = some fn)
    (hvars : s.vars = []) (laid : laidOutB C.prog = true) (hpar : (fn.params.toList.all fun t => C.prog.readableRec t && decide (t < C.prog.types.size)) = true)
    (hsh : fn.params.toList.mapM (shOf C.prog 20) = some shapes) (hres : fn.resultTypes = #[tb]) (hbool : C.prog.underlying tb = some .bool)
    (hsfn : ∀ ds : List (DataW H), ds.length = shapes.length → s.fn H ds = { results := [.lit (.bool true)], args := ds })
    (witness : ∃ (w : World) (tape : Tape) (i : Input), w.os = os ∧ (w.forCall tape i).Shaped C.prog ∧ i.vars = [] ∧ Input.okWide C.prog (w.forCall tape i) .any w.heap.size f i ∧
      (up s c).preRow enc C.prog fn conds false laidL (w.forCall tape i).memory i.args ∧ ({} : Assume).holds C.prog (lone (Frame.enter C.prog f i.args .normal) [] (w.forCall tape i)))
    (hI : ∀ W, laidMetH C.prog laidL W → I.on W (fun _ => none))
    (hB : Bulk bulk) (hsmall : ∀ ds, c H ds = true → ∀ d ∈ ds, bulk d ≤ N) (hcall : ∀ ps, HasArgsB N shapes ps → ACallI I C.prog f (ps.map .v) (.val (.bool true)) []) :
    ReturnsInHanded {} C os f .any ((up s c).preRow enc C.prog fn conds false laidL) (((up s c).at F).post enc C.prog fn false true false false) := by
  refine returnsInHanded_of_row (s := up s c) own started noInit hfn witness ?_
  intro W base args ds gs before hval hW hcnd hk _ hL _ _
  show Calls C.prog f args W fun e W' => ∃ v, e = .returned v ∧ s.post enc C.prog fn false true false false W args v W'
  have hW0 : DataW.Whole enc C.prog fn.params.toList s.vars false W args.toList ds gs before := hW
  obtain ⟨p, q, hA, hV, e, hfz, hnd⟩ := id hW0
  have hA' : DataW.TrodAll enc C.prog W 0 (fun _ => true) true fn.params.toList args.toList ds p := hA
  rw [hvars] at hV
  obtain ⟨rfl, rfl⟩ : gs = [] ∧ q = [] := by
    cases gs with
    | nil => exact ⟨rfl, hV⟩
    | cons g gs => simp [DataW.TrodVars] at hV
  obtain ⟨hl, ps, hps, hrep⟩ := args_repB hB (k := 20) fn.params.toList args.toList ds p shapes hsh hA' (fun j t v ht hv => hval j t v (by simpa using ht) (by simpa using hv)) (hsmall ds (by simpa using hk c rfl))
  obtain ⟨hent, hc⟩ := hcall ps hps
  have hG : ∀ b, W.heap.size ≤ b → Gof W b = 0 := fun b hb => by
    unfold Gof
    rw [Array.getElem?_eq_none hb]
  have := hc W (Gof W) (fun _ => 0) (fun _ => none) args.toList hG (fun b hb => (hb rfl).elim) (hrep 0) (hI W hL)
  simp only [Array.toArray_toList] at this
  refine this.mono fun e W' ⟨v, G', ω', he, hE, _, _, _, _, hrv⟩ => ?_
  subst he
  have hb : Below W.heap.size W W' := ⟨hE.os, hE.tape, hE.output, hE.size, fun b hb => (hE.block b hb (fun h => h rfl)).1⟩
  cases hrv with
  | bool b =>
  simp only [List.all_eq_true, Bool.and_eq_true, decide_eq_true_eq] at hpar
  obtain ⟨pa, hpa⟩ := args_below laid hb _ _ _ _ hpar hA'
  refine ⟨_, rfl, ds, [], before, [], pa, [], hW0, ?_, ?_, ?_, hb.frame _, fun h => by cases h⟩
  · rw [List.append_nil, hsfn ds hl, hres]
    exact trodAll_mk1 (shut_bool hbool _)
  · rw [List.append_nil, hsfn ds hl]
    exact hpa
  · rw [List.append_nil, hsfn ds hl, hvars]
    rfl
end Go.AR

/-! What texts are, as shapes, with a bound. -/
namespace Go.AR
open Go
theorem argsB_cons {N : Nat} {s : Sh} {ss : List Sh} {ps : List PV} (h : HasArgsB N (s :: ss) ps) : ∃ cs ps', s.hasB N cs ∧ ps = s.pv cs :: ps' ∧ HasArgsB N ss ps' := by
  cases ps with
  | nil => exact h.elim
  | cons p ps =>
    obtain ⟨⟨cs, h1, h2⟩, h3⟩ := h
    exact ⟨cs, ps, h1, by rw [h2], h3⟩
theorem argsB_nil {N : Nat} {ps : List PV} (h : HasArgsB N [] ps) : ps = [] := by
  cases ps with
  | nil => rfl
  | cons p ps => exact h.elim
theorem hasB_text {N : Nat} {cs : List PV} (h : (Sh.str).hasB N cs) : ∃ s : List UInt8, cs = [.str s] ∧ s.length ≤ N := by
  obtain ⟨l, rfl, h⟩ := h
  exact ⟨l, rfl, h⟩
theorem hasB_texts {N : Nat} {cs : List PV} (h : (Sh.sl .str).hasB N cs) : ∃ l : List (List UInt8), cs = [.sl 1 (xRows l)] ∧ l.length ≤ N ∧ ∀ s ∈ l, s.length ≤ N := by
  obtain ⟨rows, rfl, hl, hr⟩ := h
  have key : ∀ rows : List (List PV), (∀ r ∈ rows, (Sh.str).hasB N r) → ∃ l : List (List UInt8), rows = xRows l ∧ ∀ s ∈ l, s.length ≤ N := by
    intro rows
    induction rows with
    | nil => intro _; exact ⟨[], rfl, by simp⟩
    | cons r rows ih =>
      intro h
      obtain ⟨l, rfl, hl⟩ := ih (fun x hx => h x (by simp [hx]))
      obtain ⟨s, rfl, hs⟩ := hasB_text (h r (by simp))
      exact ⟨s :: l, rfl, fun x hx => by rcases List.mem_cons.1 hx with rfl | hx; exact hs; exact hl x hx⟩
  obtain ⟨l, rfl, hl2⟩ := key rows hr
  exact ⟨l, rfl, by rw [xRows_len] at hl; exact hl, hl2⟩
end Go.AR
