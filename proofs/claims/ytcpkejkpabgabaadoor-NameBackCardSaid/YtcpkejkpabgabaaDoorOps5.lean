import Derived.Test.YtcpkejkpabgabaaDoorOps4
set_option linter.all false
namespace Go.AR
open Go

theorem TRep.mono {w G β ω w' G' β' ω' occ occ'} {x : TV} {v : Value} (h : TRep w G β ω occ x v) (hx : GExt w G w' G') (hβ : ∀ s, x.rf = some s → β' s = β s)
    (hk : ∀ g, ω g = some occ → w'.heap[g]? = w.heap[g]? ∧ G' g = G g ∧ ω' g = some occ') : TRep w' G' β' ω' occ' x v := by
  cases x with
  | val p => exact Rep.mono hx h
  | ownE e1 c r => exact ORepE.mono h hx hk
  | lp s off => simp only [TRep] at h ⊢; rw [hβ s rfl]; exact h
  | rp cs off => exact PRep.mono h hx
  | self => exact h
  | undef => trivial
  | exc c r => exact ORepX.mono h hx hk
  | xs s c n =>
    obtain ⟨cap, e, h1, h2, h3, h4⟩ := h
    exact ⟨cap, e, by rw [hβ s rfl]; exact h1, h2, h3, by rw [hβ s rfl]; exact hx.shape _ _ h4⟩
  | anyb => exact h
  | mp s => simp only [TRep] at h ⊢; rw [hβ s rfl]; exact h
theorem CRep.mono {w G ω w' G' ω'} {bb s i s' i' : Nat} {x : TV} {v : Value} (h : CRep w G ω bb s i x v) (hx : GExt w G w' G')
    (hk : ∀ g, ω g = some (.cell s i) → w'.heap[g]? = w.heap[g]? ∧ G' g = G g ∧ ω' g = some (.cell s' i')) : CRep w' G' ω' bb s' i' x v := by
  cases x with
  | val p => exact ⟨h.1.mono hx, h.2⟩
  | ownE e1 c r => exact ORepE.mono h hx hk
  | self => exact h
  | lp s off => exact h
  | rp cs off => exact h
  | undef => exact h
  | exc _ _ => exact h
  | xs _ _ _ => exact h
  | anyb => exact h
  | mp _ => exact h
theorem BRep.mono {w G ω w' G' ω'} {bb s s' : Nat} {b : Blk} (h : BRep w G ω bb s b) (hx : GExt w G w' G') (hh : w'.heap[bb]? = w.heap[bb]?) (hg : G' bb = G bb)
    (hk : ∀ g i, ω g = some (.cell s i) → w'.heap[g]? = w.heap[g]? ∧ G' g = G g ∧ ω' g = some (.cell s' i)) : BRep w' G' ω' bb s' b := by
  cases b with
  | cellsE e0 cs =>
    obtain ⟨arr, e, h1, h2, h3, h4⟩ := h
    exact ⟨arr, e, by rw [hh]; exact h1, h2, by rw [hg]; exact h3, fun i t x ht hxx => (h4 i t x ht hxx).mono hx (fun g hg' => hk g i hg')⟩
  | frozen cs =>
    obtain ⟨arr, e, h1, h2, h3, h4, h5⟩ := h
    exact ⟨arr, e, by rw [hh]; exact h1, h2, by rw [hg]; exact h3, h4, fun i t x ht hxx => (h5 i t x ht hxx).mono hx⟩
  | iter l pos =>
    obtain ⟨h1, h2⟩ := h
    exact ⟨by rw [hh]; exact h1, by rw [hg]; exact h2⟩
  | map kvs =>
    obtain ⟨es, clock, h1, h2, h3, h4⟩ := h
    exact ⟨es, clock, by rw [hh]; exact h1, by rw [hg]; exact h2, h3, fun i kv e ha hb => ⟨(h4 i kv e ha hb).1.mono hx, (h4 i kv e ha hb).2.mono hx⟩⟩

def upd {α : Type} (f : Nat → α) (i : Nat) (x : α) : Nat → α := fun b => if b = i then x else f b
theorem upd_eq {α : Type} (f : Nat → α) (i : Nat) (x : α) : upd f i x i = x := by simp [upd]
theorem upd_ne {α : Type} (f : Nat → α) (i b : Nat) (x : α) (h : b ≠ i) : upd f i x b = f b := by simp [upd, h]

/-- What an operation may have written: temporaries 'XT', blocks 'XB' (and their cells). All else reads as it did. -/
structure Same (XT XB : Nat → Prop) (w : World) (G : Nat → Nat) (β : Nat → Nat) (ω : Nat → Option Occ) (w' : World) (G' : Nat → Nat) (β' : Nat → Nat) (ω' : Nat → Option Occ) : Prop where
  ext : GExt w G w' G'
  tmp : ∀ g t, ω g = some (.tmp t) → ¬ XT t → w'.heap[g]? = w.heap[g]? ∧ G' g = G g ∧ ω' g = some (.tmp t)
  blk : ∀ g s, ω g = some (.blk s) → ¬ XB s → w'.heap[g]? = w.heap[g]? ∧ G' g = G g ∧ ω' g = some (.blk s)
  cell : ∀ g s i, ω g = some (.cell s i) → ¬ XB s → w'.heap[g]? = w.heap[g]? ∧ G' g = G g ∧ ω' g = some (.cell s i)
theorem FRel.rest_tmp {XT XB w G β ω w' G' β' ω' σ tm} (hF : FRel w G β ω σ tm) (hs : Same XT XB w G β ω w' G' β' ω') (hβ : ∀ s, get σ.mem s ≠ none → β' s = β s) (t : Nat) (ht : ¬ XT t) :
    TRep w' G' β' ω' (.tmp t) (tget σ.tmps t) (tm.getD t undef) :=
  (hF.tmp t).mono hs.ext (fun s e => hβ s (hF.live t s e)) (fun g hg => hs.tmp g t hg ht)
theorem FRel.rest_blk {XT XB w G β ω w' G' β' ω' σ tm} (hF : FRel w G β ω σ tm) (hs : Same XT XB w G β ω w' G' β' ω') (hβ : ∀ s, get σ.mem s ≠ none → β' s = β s) (s : Nat) (hsx : ¬ XB s) (b : Blk)
    (hb : get σ.mem s = some b) : ω' (β' s) = some (.blk s) ∧ BRep w' G' ω' (β' s) s b := by
  obtain ⟨h1, h2⟩ := hF.blk s b hb
  rw [hβ s (by rw [hb]; simp)]
  obtain ⟨k1, k2, k3⟩ := hs.blk _ s h1 hsx
  exact ⟨k3, h2.mono hs.ext k1 k2 (fun g i hg => hs.cell g s i hg hsx)⟩

section ops
variable {P : Program} {w : World} {G β : Nat → Nat} {ω : Nat → Option Occ} {σ σ' : Fr} {a : Act} {o : Oper}

/-- The right to append moves from one temporary to another one. -/
theorem ok_mv {s d : Nat} (hF : FRel w G β ω σ a.tmps) (hd : d < a.tmps.size) (hs : s < a.tmps.size) (hdst : o.dst = some d) (hne : d ≠ s) (ho : o.op = .move (.tmp s) ∨ o.op = .assign (.tmp s)) :
    StepOk P w G ω β a o σ { σ with tmps := set (set σ.tmps d (tget σ.tmps s)) s (tget σ.tmps s).ro } := by
  let ω' : Nat → Option Occ := fun g => if ω g = some (.tmp s) then some (.tmp d) else ω g
  have hsame : Same (fun t => t = s) (fun _ => False) w G β ω w G β ω' := by
    refine ⟨.refl _ _, fun g t hg ht => ⟨rfl, rfl, ?_⟩, fun g t hg _ => ⟨rfl, rfl, ?_⟩, fun g t i hg _ => ⟨rfl, rfl, ?_⟩⟩ <;> simp only [ω', hg]
    · rw [if_neg (by simpa using ht)]
    · rw [if_neg (by simp)]
    · rw [if_neg (by simp)]
  refine ⟨.value (a.eval (.tmp s)), a.eval (.tmp s), w, G, β, ω', ?_, .inl rfl, .refl _ _ _, fun b hb => ?_, fun _ _ => rfl, ?_⟩
  · rcases ho with ho | ho <;> simp [execOp, ho]
  · simp only [ω'] at hb
    split at hb
    · rename_i h; exact .inl (by rw [h]; simp)
    · exact .inl hb
  · refine ⟨fun t => ?_, fun t s' h => ?_, fun s' b hb => hF.rest_blk hsame (fun _ _ => rfl) s' id b hb, hF.gnew, fun b hb => ?_⟩
    · simp only [hdst, Act.put]
      rw [tget_set, tget_set]
      by_cases e1 : t = s
      · subst e1
        rw [if_pos rfl, getD_set_ne _ _ _ _ _ hne]
        have h0 := hF.tmp t
        exact TRep.ro h0
      · rw [if_neg e1]
        by_cases e2 : t = d
        · subst e2
          rw [if_pos rfl, getD_set_eq _ _ _ _ hd]
          exact (hF.tmp s).mono (.refl _ _) (fun _ _ => rfl) (fun g hg => ⟨rfl, rfl, by simp only [ω', hg, if_true]⟩)
        · rw [if_neg e2, getD_set_ne _ _ _ _ _ (Ne.symm e2)]
          exact hF.rest_tmp hsame (fun _ _ => rfl) t e1
    · rw [tget_set, tget_set] at h
      split at h
      · exact hF.live s _ (TV.rf_ro h)
      · split at h
        · exact hF.live s _ h
        · exact hF.live t _ h
    · simp only [ω'] at hb
      split at hb
      · rename_i h; exact hF.ωnew b (by rw [h]; simp)
      · exact hF.ωnew b hb

theorem alloc_evo {T : Nat → Prop} (ob : Obj) (n : Nat) (hG : ∀ b, w.heap.size ≤ b → G b = 0) :
    Evo T w G (w.alloc ob) (upd G w.heap.size n) := by
  refine ⟨rfl, rfl, rfl, by simp, ⟨fun b => ?_, fun b off h => ?_, fun b sh hs => (shape_of_block (heap_alloc_old w ob (shape_lt hs))).trans hs⟩, fun b hb _ => ⟨heap_alloc_old w ob hb, upd_ne _ _ _ _ (by omega)⟩⟩
  · by_cases e : b = w.heap.size
    · subst e; rw [upd_eq, hG _ (Nat.le_refl _)]; omega
    · rw [upd_ne _ _ _ _ e]; exact Nat.le_refl _
  · have hb : b < w.heap.size := by
      rcases Nat.lt_or_ge b w.heap.size with h' | h'
      · exact h'
      · have := hG b h'; omega
    exact World.cell?_of_block (w := w) (heap_alloc_old w ob hb)

/-- A new block for an owner who had none. -/
theorem alloc_same {XT XB : Nat → Prop} {ob : Obj} {n d : Nat} {occ : Occ} (hF : FRel w G β ω σ a.tmps) :
    Same XT XB w G β ω (w.alloc ob) (upd G w.heap.size n) (upd β d w.heap.size) (upd ω w.heap.size (some occ)) := by
  have hlt : ∀ g, ω g ≠ none → g < w.heap.size := hF.ωnew
  refine ⟨(alloc_evo (T := fun _ => True) ob n hF.gnew).ext, fun g t hg _ => ?_, fun g t hg _ => ?_, fun g t i hg _ => ?_⟩ <;>
    (have := hlt g (by rw [hg]; simp); exact ⟨heap_alloc_old w ob this, upd_ne _ _ _ _ (by omega), by rw [upd_ne _ _ _ _ (by omega)]; exact hg⟩)

/-- A new block of cells at its own temporary. -/
theorem ok_newblk {d : Nat} {zs : List TV} {arr : Array Value} {e : TypeId} (hF : FRel w G β ω σ a.tmps) (hd : d < a.tmps.size) (hdst : o.dst = some d) (hm : get σ.mem d = none)
    (hr : (execOp a.eval o).run P w = .ok (.value (.pointer (some ⟨w.heap.size, 0, none⟩))) (w.alloc (.cells arr e))) (hl : arr.size = zs.length)
    (hz : ∀ (i : Nat) (t : TV) (x : Value), zs[i]? = some t → arr[i]? = some x → (∃ p, t = .val p ∧ Rep w G p x ∧ p.one = true) ∨ (∃ eo c, t = .ownE eo c [] ∧ x = .slice none 0 0)) {e0 : Option TypeId} (he : e0.getD e = e) :
    StepOk P w G ω β a o σ { tmps := set σ.tmps d (.lp d 0), mem := set σ.mem d (.cellsE e0 zs) } := by
  have hsame := alloc_same (XT := fun _ => False) (XB := fun _ => False) (ob := .cells arr e) (n := 0) (d := d) (occ := .blk d) (σ := σ) (a := a) hF
  have hβ : ∀ s, get σ.mem s ≠ none → upd β d w.heap.size s = β s := fun s hs => upd_ne _ _ _ _ (fun e => by rw [e] at hs; exact hs hm)
  refine ⟨.value (.pointer (some ⟨w.heap.size, 0, none⟩)), .pointer (some ⟨w.heap.size, 0, none⟩), w.alloc (.cells arr e), upd G w.heap.size 0, upd β d w.heap.size, upd ω w.heap.size (some (.blk d)), hr, .inl rfl, alloc_evo _ 0 hF.gnew, fun b hb => ?_, hβ, ?_⟩
  · by_cases e : b = w.heap.size
    · exact .inr (by omega)
    · rw [upd_ne _ _ _ _ e] at hb; exact .inl hb
  · refine ⟨fun t => ?_, fun t s h => ?_, fun s b hb => ?_, fun b hb => ?_, fun b hb => ?_⟩
    · simp only [hdst, Act.put]
      rw [tget_set]
      by_cases e1 : t = d
      · subst e1
        rw [if_pos rfl, getD_set_eq _ _ _ _ hd]
        simp [TRep, upd_eq]
      · rw [if_neg e1, getD_set_ne _ _ _ _ _ (Ne.symm e1)]
        exact hF.rest_tmp hsame hβ t id
    · rw [tget_set] at h
      rw [get_set]
      split at h
      · cases h; simp
      · have := hF.live t s h
        split
        · simp
        · exact this
    · rw [get_set] at hb
      split at hb
      · rename_i e1
        subst e1
        cases hb
        refine ⟨by rw [upd_eq, upd_eq], ?_⟩
        rw [upd_eq]
        refine ⟨arr, e, by rw [he]; exact heap_alloc_new w _, ⟨Nat.le_of_eq hl.symm, fun _ => hl⟩, by rw [upd_eq], fun i t x ht hx => ?_⟩
        rcases hz i t x ht hx with ⟨p, rfl, hp, h1⟩ | ⟨eo, c, rfl, rfl⟩
        · exact ⟨hp.mono hsame.ext, h1⟩
        · exact ⟨e, [], World.ownsRow_nil _ _ _ _, by simp, by simp, by simp, by simp, fun g hg => by simp [Value.ownBlock] at hg⟩
      · exact hF.rest_blk hsame hβ s id b hb
    · simp only [World.size_alloc] at hb
      rw [upd_ne _ _ _ _ (by omega)]; exact hF.gnew b (by omega)
    · simp only [World.size_alloc]
      by_cases e : b = w.heap.size
      · omega
      · rw [upd_ne _ _ _ _ e] at hb
        have := hF.ωnew b hb; omega
end ops
end Go.AR
