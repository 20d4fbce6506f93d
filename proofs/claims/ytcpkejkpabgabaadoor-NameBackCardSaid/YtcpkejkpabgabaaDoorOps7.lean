import Derived.Test.YtcpkejkpabgabaaDoorOps6
set_option linter.all false
namespace Go.AR
open Go
section ops
variable {P : Program} {w : World} {G β : Nat → Nat} {ω : Nat → Option Occ} {σ σ' : Fr} {a : Act} {o : Oper}

theorem ok_ltake {e0 eo : Option TypeId} {t : TypeId} {x : Operand} {x' : Opnd} {s off d c : Nat} {cs : List TV} {r : List (List PV)} (hF : FRel w G β ω σ a.tmps) (hd : d < a.tmps.size) (hdst : o.dst = some d)
    (ho : o.op = .load t x) (hg : isAggT P t = some false) (hx : OOk x x') (ex : x'.ev σ.tmps = .lp s off) (hm : get σ.mem s = some (.cellsE e0 cs)) (hc : cs[off]? = some (.ownE eo c r)) :
    StepOk P w G ω β a o σ { tmps := set σ.tmps d (.ownE eo c r), mem := set σ.mem s (.cellsE e0 (cs.set off (.val (.sl c r)))) } := by
  have h0 := hx.trep hF
  rw [ex] at h0
  have e1 : a.eval x = .pointer (some ⟨β s, off, none⟩) := h0
  obtain ⟨hω, arr, e, hh, ⟨hsz, hsq⟩, hG, hcell⟩ := hF.blk s _ hm
  have hlt : off < arr.size := Nat.lt_of_lt_of_le (List.getElem?_eq_some_iff.1 hc).1 hsz
  have hcr : ORepE eo w G ω (.cell s off) c r arr[off] := hcell off _ _ hc (Array.getElem?_eq_getElem hlt)
  let ω' : Nat → Option Occ := fun g => if ω g = some (.cell s off) then some (.tmp d) else ω g
  have hsame : Same (fun _ => False) (fun s' => s' = s) w G β ω w G β ω' := by
    refine ⟨.refl _ _, fun g t hg _ => ⟨rfl, rfl, ?_⟩, fun g t hg _ => ⟨rfl, rfl, ?_⟩, fun g t i hg ht => ⟨rfl, rfl, ?_⟩⟩ <;> simp only [ω', hg]
    · rw [if_neg (by simp)]
    · rw [if_neg (by simp)]
    · rw [if_neg (by simp; intro e; exact absurd e ht)]
  refine ⟨.value arr[off], arr[off], w, G, β, ω', ?_, .inl rfl, .refl _ _ _, fun b hb => ?_, fun _ _ => rfl, ?_⟩
  · have hcl : w.cell? ⟨β s, off, none⟩ = some arr[off] := by rw [cell_of_block hh, Array.getElem?_eq_getElem hlt]
    simp [execOp, ho, e1, Instr.loadAt, Instr.sureAddr, loadVar, run_isAggT hg, hcl]
  · simp only [ω'] at hb
    split at hb
    · rename_i h; exact .inl (by rw [h]; simp)
    · exact .inl hb
  · refine ⟨fun t => ?_, fun t s' h => ?_, fun s' b hb => ?_, hF.gnew, fun b hb => ?_⟩
    · simp only [hdst, Act.put]
      rw [tget_set]
      by_cases e1 : t = d
      · subst e1
        rw [if_pos rfl, getD_set_eq _ _ _ _ hd]
        exact hcr.mono (.refl _ _) (fun g hg => ⟨rfl, rfl, by simp only [ω', hg, if_true]⟩)
      · rw [if_neg e1, getD_set_ne _ _ _ _ _ (Ne.symm e1)]
        exact hF.rest_tmp hsame (fun _ _ => rfl) t id
    · rw [tget_set] at h
      rw [get_set]
      split at h
      · cases h
      · have := hF.live t s' h
        split
        · simp
        · exact this
    · rw [get_set] at hb
      split at hb
      · rename_i e2
        subst e2
        cases hb
        refine ⟨by simp only [ω', hω]; simp, arr, e, hh, ⟨by simpa using hsz, by simpa using hsq⟩, hG, fun i t x ht hx => ?_⟩
        rw [List.getElem?_set] at ht
        split at ht
        · rename_i e3
          subst e3
          split at ht
          · cases ht
            rw [Array.getElem?_eq_getElem hlt] at hx
            cases hx
            exact ⟨hcr.rep, rfl⟩
          · cases ht
        · rename_i e3
          refine (hcell i t x ht hx).mono (.refl _ _) (fun g hg => ⟨rfl, rfl, ?_⟩)
          simp only [ω', hg]
          rw [if_neg (by simp; exact fun e => e3 e.symm)]
      · rename_i e2
        exact hF.rest_blk hsame (fun _ _ => rfl) s' e2 b hb
    · simp only [ω'] at hb
      split at hb
      · rename_i h; exact hF.ωnew b (by rw [h]; simp)
      · exact hF.ωnew b hb

theorem setRow_evo {T : Nat → Prop} {b : Nat} {arr cs : Array Value} {e : TypeId} (hh : w.heap[b]? = some (.cells arr e (0, 0))) (n : Nat) (hn : G b ≤ n) (hT : T b) (hst : ∀ i, i < G b → cs[i]? = arr[i]?) (hcs : cs.size = arr.size) :
    Evo T w G (w.setRow b cs) (upd G b n) := by
  refine ⟨rfl, rfl, rfl, by simp, ⟨fun b' => ?_, fun b' off h => ?_, fun b' sh hs => ?_⟩, fun b' hb ht => ?_⟩
  · by_cases e : b' = b
    · subst e; rw [upd_eq]; exact hn
    · rw [upd_ne _ _ _ _ e]; exact Nat.le_refl _
  · by_cases e : b' = b
    · subst e
      rw [cell_setRow_same w b' off arr cs _ _ hh, cell_of_block hh]
      exact hst off h
    · exact cell_setRow_other w b cs ⟨b', off, none⟩ e
  · by_cases e : b' = b
    · subst e
      have := setRow_heap w b' arr cs _ _ hh
      rw [← hs]
      simp [World.shape?, this, hh, hcs]
    · rw [shape_of_block (setRow_other w b b' cs e)]; exact hs
  · have e : b' ≠ b := fun e => ht (e ▸ hT)
    exact ⟨setRow_other w b b' cs e, upd_ne _ _ _ _ e⟩

def srcSet (m : List (Nat × TV)) : Opnd → TV → List (Nat × TV)
  | .t q, v => set m q v
  | .c _, _ => m
def Opnd.slot : Opnd → Option Nat
  | .t q => some q
  | .c _ => none
theorem tget_srcSet (σ : Fr) (y : Opnd) (t : Nat) : tget (srcSet σ.tmps y (y.ev σ.tmps).ro) t = if y.slot = some t then (tget σ.tmps t).ro else tget σ.tmps t := by
  cases y with
  | t q =>
    show tget (set σ.tmps q (tget σ.tmps q).ro) t = _
    rw [tget_set]
    by_cases e : t = q
    · subst e; rw [if_pos rfl, if_pos (show (Opnd.t t).slot = some t from rfl)]
    · rw [if_neg e, if_neg (show ¬ (Opnd.t q).slot = some t from fun h => e (Option.some.inj h).symm)]
  | c p =>
    show tget σ.tmps t = _
    rw [if_neg (show ¬ (Opnd.c p).slot = some t from fun h => by cases h)]
def srcω (ω : Nat → Option Occ) (y : Option Nat) (new : Occ) : Nat → Option Occ := match y with
  | some q => fun g => if ω g = some (.tmp q) then some new else ω g
  | none => ω
theorem srcω_keep {ω : Nat → Option Occ} {y : Option Nat} {new oc : Occ} {g : Nat} (hg : ω g = some oc) (hq : ∀ q, y = some q → oc ≠ .tmp q) : srcω ω y new g = some oc := by
  cases y with
  | none => exact hg
  | some q => simp only [srcω]; rw [if_neg (by rw [hg]; intro e; exact hq q rfl (Option.some.inj e))]; exact hg
theorem srcω_src {ω : Nat → Option Occ} {q : Nat} {new : Occ} {g : Nat} (hg : ω g = some (.tmp q)) : srcω ω (some q) new g = some new := by simp [srcω, hg]
theorem srcω_dom {ω : Nat → Option Occ} {y : Option Nat} {new : Occ} {g : Nat} (h : srcω ω y new g ≠ none) : ω g ≠ none := by
  cases y with
  | none => exact h
  | some q =>
    simp only [srcω] at h
    split at h
    · rename_i e; rw [e]; simp
    · exact h

/-- A store into a block of the frame's own. -/
theorem ok_storeN {e0 : Option TypeId} {t : TypeId} {x y : Operand} {x' y' : Opnd} {s off : Nat} {cs cs' : List TV} (hF : FRel w G β ω σ a.tmps) (hdst : o.dst = none)
    (ho : o.op = .store t x y) (hx : OOk x x') (hy : OOk y y') (ex : x'.ev σ.tmps = .lp s off) (hm : get σ.mem s = some (.cellsE e0 cs)) (hn : szT P t = some (a.eval y).cells.size) (hlen : cs'.length = cs.length)
    (hle : off + (a.eval y).cells.size ≤ cs.length) (h1 : ∀ v ∈ (a.eval y).cells.toList, v.oneCell' = true) (hout : ∀ i, i < off ∨ off + (a.eval y).cells.size ≤ i → cs'[i]? = cs[i]?)
    (hin : ∀ (w' : World) (G' : Nat → Nat) (ω' : Nat → Option Occ), GExt w G w' G' → (∀ g q, y'.slot = some q → ω g = some (.tmp q) → w'.heap[g]? = w.heap[g]? ∧ G' g = G g ∧ ω' g = some (.cell s off)) →
      ∀ (i : Nat) (t : TV) (v : Value), cs'[off + i]? = some t → (a.eval y).cells[i]? = some v → CRep w' G' ω' (β s) s (off + i) t v) :
    StepOk P w G ω β a o σ { tmps := srcSet σ.tmps y' (y'.ev σ.tmps).ro, mem := set σ.mem s (.cellsE e0 cs') } := by
  have h0 := hx.trep hF
  rw [ex] at h0
  have e1 : a.eval x = .pointer (some ⟨β s, off, none⟩) := h0
  obtain ⟨hω, arr, e, hh, ⟨hsz, hsq⟩, hG, hcell⟩ := hF.blk s _ hm
  let vs := (a.eval y).cells.toList
  have hvl : vs.length = (a.eval y).cells.size := by simp [vs]
  let arr' : Array Value := (arr.toList.take (off + 0) ++ vs ++ arr.toList.drop (off + 0 + vs.length)).toArray
  have hrun := run_storeCells_at P (β s) off _ vs 0 arr w hh (by rw [hvl]; omega) h1
  have hget : ∀ i, arr'[i]? = if i < off then arr[i]? else if i < off + vs.length then vs[i - off]? else arr[i]? := by
    intro i
    have htl : (arr.toList.take off).length = off := by simp; omega
    simp only [arr', Nat.add_zero, List.getElem?_toArray, List.append_assoc]
    by_cases hi : i < off
    · rw [if_pos hi, List.getElem?_append_left (by rw [htl]; exact hi), List.getElem?_take, if_pos hi]; simp
    · rw [if_neg hi, List.getElem?_append_right (by rw [htl]; omega), htl]
      by_cases hj : i < off + vs.length
      · rw [if_pos hj, List.getElem?_append_left (by omega)]
      · rw [if_neg hj, List.getElem?_append_right (by omega), List.getElem?_drop]
        simp; congr 1; omega
  have hevo : Evo (fun b => ω b ≠ none) w G (w.setRow (β s) arr') (upd G (β s) 0) := setRow_evo hh 0 (by rw [hG]; exact Nat.le_refl _) (by rw [hω]; simp) (fun i hi => by rw [hG] at hi; omega) (by simp only [arr', List.size_toArray, List.length_append, List.length_take, List.length_drop, Array.length_toList, Nat.add_zero]; omega)
  have hG' : upd G (β s) 0 = G := by
    funext b
    by_cases e : b = β s
    · subst e; rw [upd_eq, hG]
    · rw [upd_ne _ _ _ _ e]
  rw [hG'] at hevo
  let ω' : Nat → Option Occ := srcω ω y'.slot (.cell s off)
  have hne : ∀ g, ω g ≠ some (.blk s) → g ≠ β s := fun g hg e => hg (e ▸ hω)
  have hkeep : ∀ g oc, ω g = some oc → (∀ q, y'.slot = some q → oc ≠ .tmp q) → ω' g = some oc := fun g oc hg hq => srcω_keep hg hq
  have hsame : Same (fun t => y'.slot = some t) (fun s' => s' = s) w G β ω (w.setRow (β s) arr') G β ω' := by
    refine ⟨hevo.ext, fun g t hg ht => ⟨setRow_other w _ _ _ (hne g (by rw [hg]; simp)), rfl, hkeep g _ hg (fun q e e2 => ht (by rw [e]; cases e2; rfl))⟩,
      fun g t hg ht => ⟨setRow_other w _ _ _ (hne g (by rw [hg]; simpa using ht)), rfl, hkeep g _ hg (fun q e e2 => by cases e2)⟩,
      fun g t i hg ht => ⟨setRow_other w _ _ _ (hne g (by rw [hg]; simp)), rfl, hkeep g _ hg (fun q e e2 => by cases e2)⟩⟩
  refine ⟨.skip, undef, w.setRow (β s) arr', G, β, ω', ?_, .inr ⟨rfl, rfl⟩, hevo, fun b hb => ?_, fun _ _ => rfl, ?_⟩
  · simp only [execOp, ho, e1, Instr.storeAt, Instr.sureAddr, storeVar, Sem.run_bind, Sem.run_pure, Result.andThen_ok, run_szT hn, ne_eq, not_true_eq_false, if_false]
    have : (storeCells ⟨β s, off, none⟩ (a.eval y).cells.toList).run P w = .ok () (w.setRow (β s) arr') := hrun
    simp [this]
  · exact .inl (srcω_dom hb)
  · refine ⟨fun t => ?_, fun t s' h => ?_, fun s' b hb => ?_, fun b hb => hF.gnew b (by simpa using hb), fun b hb => ?_⟩
    · simp only [hdst, Act.put]
      rw [tget_srcSet]
      split
      · have h0 := hF.tmp t
        cases hx : tget σ.tmps t <;> rw [hx] at h0
        · exact Rep.mono hevo.ext h0
        · exact (ORepE.rep h0).mono hevo.ext
        · exact h0
        · exact PRep.mono h0 hevo.ext
        · exact h0.elim
        · trivial
        · trivial
        · obtain ⟨cap, e3, k1, k2, k3, k4⟩ := h0
          exact ⟨cap, e3, k1, k2, k3, hevo.ext.shape _ _ k4⟩
        · exact h0
        · exact h0
      · rename_i e2
        exact hF.rest_tmp hsame (fun _ _ => rfl) t e2
    · dsimp only at h ⊢
      rw [tget_srcSet] at h
      have : get σ.mem s' ≠ none := by
        split at h
        · exact hF.live t _ (TV.rf_ro h)
        · exact hF.live t _ h
      rw [get_set]
      split
      · simp
      · exact this
    · rw [get_set] at hb
      split at hb
      · rename_i e2
        subst e2
        cases hb
        refine ⟨hkeep _ _ hω (fun q e e2 => by cases e2), arr', e, setRow_heap w _ arr arr' _ _ hh, ⟨?_, fun h => ?_⟩, hG, fun i t v ht hv => ?_⟩
        · simp [arr', hvl, hlen]; omega
        · have := hsq h; simp [arr', hvl, hlen]; omega
        · rw [hget] at hv
          by_cases hi : i < off
          · rw [if_pos hi] at hv
            rw [hout i (.inl hi)] at ht
            exact (hcell i t v ht hv).mono hevo.ext (fun g hg => ⟨setRow_other w _ _ _ (hne g (by rw [hg]; simp)), rfl, hkeep g _ hg (fun q e e2 => by cases e2)⟩)
          · rw [if_neg hi] at hv
            by_cases hj : i < off + vs.length
            · rw [if_pos hj] at hv
              have := hin (w.setRow (β s') arr') G ω' hevo.ext (fun g q hq hg => ⟨setRow_other w _ _ _ (hne g (by rw [hg]; simp)), rfl, by simp only [ω', hq]; exact srcω_src hg⟩) (i - off) t v (by rw [show off + (i - off) = i by omega]; exact ht) (by simpa [vs] using hv)
              rwa [show off + (i - off) = i by omega] at this
            · rw [if_neg hj] at hv
              rw [hout i (.inr (by rw [hvl] at hj; omega))] at ht
              exact (hcell i t v ht hv).mono hevo.ext (fun g hg => ⟨setRow_other w _ _ _ (hne g (by rw [hg]; simp)), rfl, hkeep g _ hg (fun q e e2 => by cases e2)⟩)
      · rename_i e2
        exact hF.rest_blk hsame (fun _ _ => rfl) s' e2 b hb
    · rw [size_setRow]; exact hF.ωnew b (srcω_dom hb)
end ops
end Go.AR
