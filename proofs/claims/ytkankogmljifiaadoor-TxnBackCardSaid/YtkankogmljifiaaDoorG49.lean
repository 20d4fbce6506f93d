import Derived.Test.YtkankogmljifiaaDoorG46
import Derived.Deep.DeepHandedRow
import Derived.Lib.LaidIn
set_option linter.all false
/-! The row of a law whose list says what package variables hold. -/
namespace Go.AR
open Go Go.ChangeShapes Go.WideShapes Go.ChangeAt Go.RowKit
theorem law_laid {I : Inv} {C : Checked} {os : Os} {f : FuncId} {fn : Func} {s : ChangeSpec} {F : Stop.Interp} {conds : List PathCond} {laidL : List (String × DataW Unit)} {H : Type} (enc : TypeId × Value → H) (shapes : List Sh) (tb : TypeId)
    (own : ownKnob C.prog.godebug = none) (started : os.Started) (noInit : C.prog.inits.idxOf? f = none) (hfn : C.prog.funcs[f]? = some fn)
    (hvars : s.vars = []) (laid : laidOutB C.prog = true) (hpar : (fn.params.toList.all fun t => C.prog.readableRec t && decide (t < C.prog.types.size)) = true)
    (hsh : fn.params.toList.mapM (shOf C.prog 20) = some shapes) (hres : fn.resultTypes = #[tb]) (hbool : C.prog.underlying tb = some .bool)
    (hsfn : ∀ ds : List (DataW H), ds.length = shapes.length → s.fn H ds = { results := [.lit (.bool true)], args := ds })
    (witness : ∃ (w : World) (tape : Tape) (i : Input), w.os = os ∧ (w.forCall tape i).Shaped C.prog ∧ i.vars = [] ∧ Input.okWide C.prog (w.forCall tape i) .any w.heap.size f i ∧
      (OpenSpec.ofChange s).preRow enc C.prog fn conds false laidL (w.forCall tape i).memory i.args ∧ ({} : Assume).holds C.prog (lone (Frame.enter C.prog f i.args .normal) [] (w.forCall tape i)))
    (hI : ∀ W, laidMetH C.prog laidL W → I.on W (fun _ => none))
    (hcall : ∀ ps, HasArgs shapes ps → ACallI I C.prog f (ps.map .v) (.val (.bool true)) []) :
    ReturnsInHanded {} C os f .any ((OpenSpec.ofChange s).preRow enc C.prog fn conds false laidL) (((OpenSpec.ofChange s).at F).post enc C.prog fn false true false false) := by
  refine returnsInHanded_of_row (s := OpenSpec.ofChange s) own started noInit hfn witness ?_
  intro W base args ds gs before hval hW hcnd _ _ hL _ _
  show Calls C.prog f args W fun e W' => ∃ v, e = .returned v ∧ s.post enc C.prog fn false true false false W args v W'
  have hW0 : DataW.Whole enc C.prog fn.params.toList s.vars false W args.toList ds gs before := hW
  obtain ⟨p, q, hA, hV, e, hfz, hnd⟩ := id hW0
  have hA' : DataW.TrodAll enc C.prog W 0 (fun _ => true) true fn.params.toList args.toList ds p := hA
  rw [hvars] at hV
  obtain ⟨rfl, rfl⟩ : gs = [] ∧ q = [] := by
    cases gs with
    | nil => exact ⟨rfl, hV⟩
    | cons g gs => simp [DataW.TrodVars] at hV
  obtain ⟨hl, ps, hps, hrep⟩ := args_rep (k := 20) fn.params.toList args.toList ds p shapes hsh hA' (fun j t v ht hv => hval j t v (by simpa using ht) (by simpa using hv))
  obtain ⟨hent, hc⟩ := hcall ps hps
  have hG : ∀ b, W.heap.size ≤ b → Gof W b = 0 := fun b hb => by
    unfold Gof
    rw [Array.getElem?_eq_none hb]
  have := hc W (Gof W) (fun _ => 0) (fun _ => none) args.toList hG (fun b hb => (hb rfl).elim) (hrep 0) (hI W hL)
  simp only [Array.toArray_toList] at this
  refine this.mono fun e W' ⟨v, G', ω', he, hE, _, _, _, _, hrv⟩ => ?_
  subst he
  have hb : Below W.heap.size W W' := ⟨hE.os, hE.tape, hE.output, hE.size, fun b hb => (hE.block b hb (fun h => h rfl)).1⟩
  cases hrv with
  | bool b =>
  simp only [List.all_eq_true, Bool.and_eq_true, decide_eq_true_eq] at hpar
  obtain ⟨pa, hpa⟩ := args_below laid hb _ _ _ _ hpar hA'
  refine ⟨_, rfl, ds, [], before, [], pa, [], hW0, ?_, ?_, ?_, hb.frame _, fun h => by cases h⟩
  · rw [List.append_nil, hsfn ds hl, hres]
    exact trodAll_mk1 (shut_bool hbool _)
  · rw [List.append_nil, hsfn ds hl]
    exact hpa
  · rw [List.append_nil, hsfn ds hl, hvars]
    rfl
end Go.AR
