import Derived.Test.YtcpkejkpabgabaaDoorOps8
set_option linter.all false
/-! Slicing an array variable: its block stays as it is from here on. -/
namespace Go.AR
open Go
section ops
variable {P : Program} {w : World} {G β : Nat → Nat} {ω : Nat → Option Occ} {σ σ' : Fr} {a : Act} {o : Oper}

/-- The cells of a block that is given up for writing. -/
def Blk.still : Blk → Option (List PV)
  | .cellsE _ ts => pvs ts
  | .frozen ps => some ps
  | _ => none
theorem still_rep {bb s : Nat} {b : Blk} {ps : List PV} (hb : BRep w G ω bb s b) (h : b.still = some ps) : ∃ arr e, w.heap[bb]? = some (.cells arr e (0, 0)) ∧ ps.length ≤ arr.size ∧ G bb ≤ ps.length ∧ (∀ p ∈ ps, p.one = true) ∧
    ∀ (i : Nat) (p : PV) (x : Value), ps[i]? = some p → arr[i]? = some x → Rep w G p x := by
  cases b with
  | cellsE e0 ts =>
    obtain ⟨arr, e, h1, ⟨h2, _⟩, h3, h4⟩ := hb
    obtain ⟨hl, hget⟩ := pvs_get h
    have hrep : ∀ (i : Nat) (p : PV) (x : Value), ps[i]? = some p → arr[i]? = some x → Rep w G p x ∧ p.one = true := fun i p x hp hx => by
      obtain ⟨tv, htv, htp⟩ := hget i p hp
      exact CRep.pv (h4 i tv x htv hx) htp
    refine ⟨arr, _, h1, by omega, by omega, fun p hp => ?_, fun i p x hp hx => (hrep i p x hp hx).1⟩
    obtain ⟨i, hi⟩ := List.mem_iff_getElem?.1 hp
    have hlt : i < arr.size := by have := (List.getElem?_eq_some_iff.1 hi).1; omega
    exact (hrep i p _ hi (Array.getElem?_eq_getElem hlt)).2
  | frozen cs =>
    cases h
    obtain ⟨arr, e, h1, h2, h3, h4, h5⟩ := hb
    exact ⟨arr, e, h1, h2, by omega, h4, h5⟩
  | iter l p => cases h
  | map kvs => cases h

theorem ok_slicea {t e : TypeId} {n c s : Nat} {x : Operand} {x' : Opnd} {lo hi : Option Operand} {ts : List TypeId} {ys : List Opnd} {b : Blk} {ps : List PV} {l h : Nat} (hF : FRel w G β ω σ a.tmps) (hd : ∀ d, o.dst = some d → d < a.tmps.size)
    (ho : o.op = .slice t x lo hi none) (hu : P.underlying t = some (.array n e)) (hn : szT P e = some c) (hc0 : 0 < c) (hx : OOk x x') (ex : x'.ev σ.tmps = .lp s 0) (hc : cOpnds P ts (lo.toList ++ hi.toList) = some ys)
    (hm : get σ.mem s = some b) (hst : b.still = some ps) (hl : ps.length = n * c) (hb : bnds n lo.isSome hi.isSome (ys.map (·.ev σ.tmps)) = some (l, h)) :
    StepOk P w G ω β a o σ { tmps := (σ.put o.dst (.val (.sl c (((chunks c n ps).drop l).take (h - l))))).tmps, mem := set σ.mem s (.frozen ps) } := by
  have h0 := hx.trep hF
  rw [ex] at h0
  have e1 : a.eval x = .pointer (some ⟨β s, 0, none⟩) := h0
  obtain ⟨hω, hrep⟩ := hF.blk s _ hm
  obtain ⟨arr, ee, hh, hsz, hG, hone, hcell⟩ := still_rep hrep hst
  obtain ⟨hr, h1, h2⟩ := run_bnds (P := P) (cap := n) false hF hc (Nat.le_refl _) hb
  obtain ⟨hcl, hcr, hcf⟩ := chunks_spec c hc0 n ps hl
  let G' := upd G (β s) ps.length
  have hext : GExt w G w G' := ⟨fun b' => by
      by_cases e : b' = β s
      · subst e; simp only [G', upd_eq]; exact hG
      · simp only [G']; rw [upd_ne _ _ _ _ e]; exact Nat.le_refl _, fun _ _ _ => rfl, fun _ _ h => h⟩
  have hne : ∀ g occ, ω g = some occ → occ ≠ .blk s → g ≠ β s := fun g occ hg hq e => by rw [e, hω] at hg; cases hg; exact hq rfl
  have hsame : Same (fun _ => False) (fun s' => s' = s) w G β ω w G' β ω := by
    refine ⟨hext, fun g t hg _ => ⟨rfl, ?_, hg⟩, fun g t hg hq => ⟨rfl, ?_, hg⟩, fun g t i hg hq => ⟨rfl, ?_, hg⟩⟩
    · exact upd_ne _ _ _ _ (hne g _ hg (by simp))
    · exact upd_ne _ _ _ _ (hne g _ hg (by simp; exact hq))
    · exact upd_ne _ _ _ _ (hne g _ hg (by simp))
  have hrow : Rep w G' (.sl c (chunks c n ps)) (.slice (some ⟨β s, 0, none⟩) (chunks c n ps).length n) := by
    refine Rep.sl c (chunks c n ps) (β s) 0 n (fun j => arr.getD j undef) hcr ?_ ?_ ?_ ?_ (by rw [hcl]; exact Nat.le_refl _)
    · rw [hcf]; simp [G', upd_eq]
    · intro j hj
      rw [hcf] at hj
      rw [Nat.zero_add, cell_of_block hh]
      rw [Array.getElem?_eq_getElem (by omega)]
      simp [Array.getD_eq_getD_getElem?, Array.getElem?_eq_getElem (show j < arr.size by omega)]
    · intro j p hp
      rw [hcf] at hp
      have hj : j < arr.size := Nat.lt_of_lt_of_le (List.getElem?_eq_some_iff.1 hp).1 hsz
      have := hcell j p arr[j] hp (Array.getElem?_eq_getElem hj)
      simp only [Array.getD_eq_getD_getElem?, Array.getElem?_eq_getElem hj]
      exact this.mono hext
    · rw [hcf]; exact hone
  have hval := hrow.slice (l := l) (h := h) h1 (by rw [hcl]; exact h2)
  refine ⟨.value (.slice (some (if n = l then ⟨β s, 0, none⟩ else Addr.add ⟨β s, 0, none⟩ (l * c))) (h - l) (n - l)), _, w, G', β, ω, ?_, .inl rfl, ⟨rfl, rfl, rfl, Nat.le_refl _, hext, fun b' _ hq => ⟨rfl, upd_ne _ _ _ _ (fun e => hq (by rw [e, hω]; simp))⟩⟩, fun b' hq => .inl hq, fun _ _ => rfl, ?_⟩
  · simp only [execOp, ho, Instr.sliceAt, Sem.run_bind, run_underlying hu, Result.andThen_ok, e1, Instr.sureAddr, Sem.run_pure, Option.map_none, hr, run_szT hn]
  · have hv' : Rep w G' (.sl c (((chunks c n ps).drop l).take (h - l))) (.slice (some (if n = l then ⟨β s, 0, none⟩ else Addr.add ⟨β s, 0, none⟩ (l * c))) (h - l) (n - l)) := by
      by_cases e : n = l
      · rw [if_pos e] at hval ⊢; exact hval
      · rw [if_neg e] at hval ⊢; exact hval
    have base : FRel w G' β ω { σ with mem := set σ.mem s (.frozen ps) } a.tmps := by
      refine ⟨fun t => hF.rest_tmp hsame (fun _ _ => rfl) t id, fun t s' h => ?_, fun s' b' hb' => ?_, fun b' hb' => ?_, hF.ωnew⟩
      · simp only [get_set]
        split
        · simp
        · exact hF.live t s' h
      · simp only [get_set] at hb'
        split at hb'
        · rename_i e2
          subst e2
          cases hb'
          exact ⟨hω, arr, ee, hh, hsz, by simp [G', upd_eq], hone, fun i p x hp hx => (hcell i p x hp hx).mono hext⟩
        · rename_i e2
          exact hF.rest_blk hsame (fun _ _ => rfl) s' e2 b' hb'
      · have : β s < w.heap.size := hF.ωnew _ (by rw [hω]; simp)
        simp only [G']
        rw [upd_ne _ _ _ _ (by omega)]
        exact hF.gnew b' hb'
    cases hdd : o.dst with
    | none => exact base
    | some d => exact base.put d (hd d hdd) _ _ hv' (fun s e => by cases e)
end ops
end Go.AR
