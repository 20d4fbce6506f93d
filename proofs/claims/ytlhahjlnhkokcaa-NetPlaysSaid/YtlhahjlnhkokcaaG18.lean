import Derived.Test.YtlhahjlnhkokcaaG17
import Derived.Laws.RangeString
set_option linter.all false
/-! Going through a text. -/
namespace Go.AR
open Go
section ops
variable {P : Program} {w : World} {G β : Nat → Nat} {ω : Nat → Option Occ} {σ σ' : Fr} {a : Act} {o : Oper}
theorem ok_range {t : TypeId} {x : Operand} {x' : Opnd} {d : Nat} {l : List UInt8} (hF : FRel w G β ω σ a.tmps) (hd : d < a.tmps.size) (hdst : o.dst = some d) (hm : get σ.mem d = none) (ho : o.op = .range t x) (hu : P.underlying t = some .string)
    (hx : OOk x x') (ex : x'.ev σ.tmps = .val (.str l)) : StepOk P w G ω β a o σ { tmps := set σ.tmps d (.lp d 0), mem := set σ.mem d (.iter l 0) } := by
  have e1 := Rep.str_inv (hx.val hF ex)
  have hr : (execOp a.eval o).run P w = .ok (.value (.pointer (some ⟨w.heap.size, 0, none⟩))) (w.alloc (.stringIter ⟨⟨l⟩⟩ 0)) := by
    simp [execOp, ho, e1, run_range_string w t _ hu, World.iter]
  have hsame := alloc_same (XT := fun _ => False) (XB := fun _ => False) (ob := .stringIter ⟨⟨l⟩⟩ 0) (n := 0) (d := d) (occ := .blk d) (σ := σ) (a := a) hF
  have hβ : ∀ s, get σ.mem s ≠ none → upd β d w.heap.size s = β s := fun s hs => upd_ne _ _ _ _ (fun e => by rw [e] at hs; exact hs hm)
  refine ⟨.value (.pointer (some ⟨w.heap.size, 0, none⟩)), .pointer (some ⟨w.heap.size, 0, none⟩), w.alloc (.stringIter ⟨⟨l⟩⟩ 0), upd G w.heap.size 0, upd β d w.heap.size, upd ω w.heap.size (some (.blk d)), hr, .inl rfl, alloc_evo _ 0 hF.gnew, fun b hb => ?_, hβ, ?_⟩
  · by_cases e : b = w.heap.size
    · exact .inr (by omega)
    · rw [upd_ne _ _ _ _ e] at hb; exact .inl hb
  · refine ⟨fun t => ?_, fun t s h => ?_, fun s b hb => ?_, fun b hb => ?_, fun b hb => ?_⟩
    · simp only [hdst, Act.put]
      rw [tget_set]
      by_cases e1 : t = d
      · subst e1
        rw [if_pos rfl, getD_set_eq _ _ _ _ hd]
        simp [TRep, upd_eq]
      · rw [if_neg e1, getD_set_ne _ _ _ _ _ (Ne.symm e1)]
        exact hF.rest_tmp hsame hβ t id
    · rw [tget_set] at h
      rw [get_set]
      split at h
      · cases h; simp
      · have := hF.live t s h
        split
        · simp
        · exact this
    · rw [get_set] at hb
      split at hb
      · rename_i e1
        subst e1
        cases hb
        refine ⟨by rw [upd_eq, upd_eq], ?_⟩
        rw [upd_eq]
        exact ⟨heap_alloc_new w _, by rw [upd_eq]⟩
      · exact hF.rest_blk hsame hβ s id b hb
    · simp only [World.size_alloc] at hb
      rw [upd_ne _ _ _ _ (by omega)]; exact hF.gnew b (by omega)
    · simp only [World.size_alloc]
      by_cases e : b = w.heap.size
      · omega
      · rw [upd_ne _ _ _ _ e] at hb
        have := hF.ωnew b hb; omega

theorem ok_next {t : Bool} {x : Operand} {x' : Opnd} {s pos : Nat} {l : List UInt8} (hF : FRel w G β ω σ a.tmps) (hd : ∀ d, o.dst = some d → d < a.tmps.size) (ho : o.op = .next x true)
    (hx : OOk x x') (ex : x'.ev σ.tmps = .lp s 0) (hm : get σ.mem s = some (.iter l pos)) :
    StepOk P w G ω β a o σ (if pos < l.length then { tmps := (σ.put o.dst (.val (.tup [.bool true, .int .i64 pos, .int .i32 (decB l pos).1]))).tmps, mem := set σ.mem s (.iter l (pos + (decB l pos).2)) }
      else { tmps := (σ.put o.dst (.val (.tup [.bool false]))).tmps, mem := set σ.mem s (.iter l pos) }) := by
  have h0 := hx.trep hF
  rw [ex] at h0
  have e1 : a.eval x = .pointer (some ⟨β s, 0, none⟩) := h0
  obtain ⟨hω, hh, hG⟩ := hF.blk s _ hm
  have hlt : β s < w.heap.size := hF.ωnew _ (by rw [hω]; simp)
  have hsz : (⟨⟨l⟩⟩ : ByteArray).size = l.length := rfl
  have hh2 : w.heap[β s]'hlt = .stringIter ⟨⟨l⟩⟩ pos := (Array.getElem?_eq_some_iff.1 hh).2
  have main : ∀ (v : Value) (p : PV) (pos' : Nat) (w' : World), (execOp a.eval o).run P w = .ok (.value v) w' → w' = { w with heap := w.heap.setIfInBounds (β s) (.stringIter ⟨⟨l⟩⟩ pos') } → (∀ w G, Rep w G p v) →
      StepOk P w G ω β a o σ { tmps := (σ.put o.dst (.val p)).tmps, mem := set σ.mem s (.iter l pos') } := by
    intro v p pos' w' hr hw hp
    have hother : ∀ b, b ≠ β s → w'.heap[b]? = w.heap[b]? := fun b hb => by rw [hw]; simp [Array.getElem?_setIfInBounds_ne (Ne.symm hb)]
    have hself : w'.heap[β s]? = some (.stringIter ⟨⟨l⟩⟩ pos') := by rw [hw]; simp [hlt]
    have hext : GExt w G w' G := ⟨fun _ => Nat.le_refl _, fun b off hb => World.cell?_of_block (a := ⟨b, off, none⟩) (hother b (fun e => by rw [e, hG] at hb; omega)), fun b sh hs => by
      by_cases e : b = β s
      · subst e; simp [World.shape?, hh] at hs
      · rw [shape_of_block (hother b e)]; exact hs⟩
    have hne : ∀ g occ, ω g = some occ → occ ≠ .blk s → g ≠ β s := fun g occ hg hq e => by rw [e, hω] at hg; cases hg; exact hq rfl
    have hsame : Same (fun _ => False) (fun s' => s' = s) w G β ω w' G β ω := by
      refine ⟨hext, fun g t hg _ => ⟨hother g (hne g _ hg (by simp)), rfl, hg⟩, fun g t hg hq => ⟨hother g (hne g _ hg (by simp; exact hq)), rfl, hg⟩, fun g t i hg hq => ⟨hother g (hne g _ hg (by simp)), rfl, hg⟩⟩
    have hsize : w'.heap.size = w.heap.size := by rw [hw]; simp
    have base : FRel w' G β ω { σ with mem := set σ.mem s (.iter l pos') } a.tmps := by
      refine ⟨fun t => hF.rest_tmp hsame (fun _ _ => rfl) t id, fun t s' h => ?_, fun s' b' hb' => ?_, fun b' hb' => hF.gnew b' (by rw [← hsize]; exact hb'), fun b' hb' => by rw [hsize]; exact hF.ωnew b' hb'⟩
      · simp only [get_set]
        split
        · simp
        · exact hF.live t s' h
      · simp only [get_set] at hb'
        split at hb'
        · rename_i e2
          subst e2
          cases hb'
          exact ⟨hω, hself, hG⟩
        · rename_i e2
          exact hF.rest_blk hsame (fun _ _ => rfl) s' e2 b' hb'
    refine ⟨.value v, v, w', G, β, ω, hr, .inl rfl, ⟨by rw [hw], by rw [hw], by rw [hw], Nat.le_of_eq hsize.symm, hext, fun b _ hb => ⟨hother b (fun e => hb (by rw [e, hω]; simp)), rfl⟩⟩, fun b hb => .inl hb, fun _ _ => rfl, ?_⟩
    cases hdd : o.dst with
    | none => exact base
    | some d => exact base.put d (hd d hdd) _ _ (hp w' G) (fun s e => by cases e)
  by_cases hc : pos < l.length
  · rw [if_pos hc]
    refine main (.tuple #[.bool true, goInt pos, .int .i32 (decB l pos).1]) _ _ _ ?_ rfl (fun w G => .tup _ _ rfl (fun i p v hp hv => ?_))
    · simp [execOp, ho, e1, Instr.next, getObj, setObj, Sem.run, hh, hh2, hsz, hc, decB, hlt, Result.andThen]
    · rcases i with _ | _ | _ | i
      · simp at hp hv; subst hp; subst hv; exact .bool _
      · simp at hp hv; subst hp; subst hv; exact .int _ _
      · simp at hp hv; subst hp; subst hv; exact .int _ _
      · simp at hp
  · rw [if_neg hc]
    refine main (.tuple #[.bool false]) _ _ w ?_ ?_ (fun w G => .tup _ _ rfl (fun i p v hp hv => ?_))
    · simp [execOp, ho, e1, Instr.next, getObj, setObj, Sem.run, hh, hsz, hc]
    · have : w.heap.setIfInBounds (β s) (.stringIter ⟨⟨l⟩⟩ pos) = w.heap := by
        apply Array.ext_getElem?
        intro i
        by_cases e : i = β s
        · subst e; simp [hlt, hh2]
        · rw [Array.getElem?_setIfInBounds_ne (Ne.symm e)]
      rw [this]
    · rcases i with _ | i
      · simp at hp hv; subst hp; subst hv; exact .bool _
      · simp at hp
end ops
end Go.AR
