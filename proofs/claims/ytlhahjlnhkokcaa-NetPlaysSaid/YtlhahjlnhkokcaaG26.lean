import Derived.Test.YtlhahjlnhkokcaaG25
import GoSem.Machine.Return
set_option linter.all false
/-! Code, and functions. -/
namespace Go.AR
open Go
section
variable {P : Program} {w : World} {G β : Nat → Nat} {ω : Nat → Option Occ} {σ σ' : Fr} {a : Act}

theorem get_del {α : Type} : ∀ (m : List (Nat × α)) (xs : List Nat) (s : Nat), get (del m xs) s = if xs.contains s then none else get m s
  | [], xs, s => by simp [del, get]
  | (j, b) :: m, xs, s => by
    have ih := get_del m xs s
    simp only [del] at ih ⊢
    rw [List.filter_cons]
    by_cases hj : xs.contains j = true
    · simp only [hj, Bool.not_true, Bool.false_eq_true, if_false, ih, get]
      by_cases hs : s = j
      · subst hs; rw [hj]; simp
      · rw [if_neg hs]
    · simp only [Bool.not_eq_true] at hj
      simp only [hj, Bool.not_false, if_true, get, ih]
      by_cases hs : s = j
      · subst hs; rw [hj]; simp
      · rw [if_neg hs, if_neg hs]
theorem mem_of_get {α : Type} : ∀ (m : List (Nat × α)) (s : Nat) (x : α), get m s = some x → (s, x) ∈ m
  | [], _, _, h => by simp [get] at h
  | (j, b) :: m, s, x, h => by
    simp only [get] at h
    split at h
    · rename_i e; subst e; cases h; simp
    · exact List.mem_cons_of_mem _ (mem_of_get m s x h)
theorem kill_sound {tm : Array Value} {kt kb : List Nat} (hF : FRel w G β ω σ tm) (hk : kill σ kt kb = some σ') : FRel w G β ω σ' tm ∧ ∀ s, s ∉ kb → get σ.mem s ≠ none → get σ'.mem s ≠ none := by
  unfold kill at hk
  simp only at hk
  split at hk
  · rename_i hall
    cases hk
    have hmem : ∀ s, get (del σ.mem kb) s = if kb.contains s then none else get σ.mem s := get_del _ _
    have htm : ∀ t, tget (del σ.tmps kt) t = if kt.contains t then .undef else tget σ.tmps t := fun t => by
      simp only [tget, get_del]
      split <;> rfl
    refine ⟨⟨fun t => ?_, fun t s ht => ?_, fun s b hb => ?_, hF.gnew, hF.ωnew⟩, fun s hs hl => ?_⟩
    · rw [htm]
      split
      · trivial
      · exact hF.tmp t
    · have hno : kb.contains s = false := by
        simp only [tget] at ht
        cases hx : get (del σ.tmps kt) t with
        | none => rw [hx] at ht; cases ht
        | some y =>
          rw [hx] at ht
          have ht' : y.rf = some s := ht
          have := List.all_eq_true.1 hall _ (mem_of_get _ _ _ hx)
          cases y <;> simp [TV.rf] at ht' <;> subst ht' <;> simpa using this
      rw [htm] at ht
      dsimp only
      rw [hmem, hno]
      split at ht
      · cases ht
      · exact hF.live t s ht
    · dsimp only at hb
      rw [hmem] at hb
      split at hb
      · cases hb
      · exact hF.blk s b hb
    · dsimp only
      rw [hmem, if_neg (by simpa using hs)]; exact hl
  · cases hk

theorem FRel.world {w' : World} {tm : Array Value} (hF : FRel w G β ω σ tm) (hh : w'.heap = w.heap) : FRel w' G β ω σ tm := by
  have hx : GExt w G w' G := ⟨fun _ => Nat.le_refl _, fun b off _ => by simp [World.cell?, hh], fun b sh h => (shape_of_block (by rw [hh])).trans h⟩
  have hs : Same (fun _ => False) (fun _ => False) w G β ω w' G β ω := ⟨hx, fun g t h _ => ⟨by rw [hh], rfl, h⟩, fun g t h _ => ⟨by rw [hh], rfl, h⟩, fun g t i h _ => ⟨by rw [hh], rfl, h⟩⟩
  exact ⟨fun t => hF.rest_tmp hs (fun _ _ => rfl) t id, hF.live, fun s b hb => hF.rest_blk hs (fun _ _ => rfl) s id b hb, fun b hb => hF.gnew b (by rw [← hh]; exact hb), fun b hb => by rw [hh]; exact hF.ωnew b hb⟩

def conv : AExit → Exit
  | .normal => .normal
  | .exit id => .exit id
  | .ret => .ret
/-- The blocks of the parameters stay where they are. -/
def PKeep (np : Nat) (σ : Fr) (β : Nat → Nat) (σ' : Fr) (β' : Nat → Nat) : Prop := ∀ s, s < np → get σ.mem s ≠ none → get σ'.mem s ≠ none ∧ β' s = β s
theorem PKeep.refl (np : Nat) (σ : Fr) (β : Nat → Nat) : PKeep np σ β σ β := fun _ _ h => ⟨h, rfl⟩
theorem PKeep.trans {np : Nat} {σ σ' σ'' : Fr} {β β' β'' : Nat → Nat} (h : PKeep np σ β σ' β') (k : PKeep np σ' β' σ'' β'') : PKeep np σ β σ'' β'' := fun s hs hl => by
  obtain ⟨h1, h2⟩ := h s hs hl
  obtain ⟨k1, k2⟩ := k s hs h1
  exact ⟨k1, k2.trans h2⟩

theorem steps_live {C : CallRel} : ∀ {os : List AOp} {σ σ' : Fr}, ASteps C os σ σ' → ∀ s, get σ.mem s ≠ none → get σ'.mem s ≠ none
  | [], _, _, h, s, hs => by cases h; exact hs
  | _ :: _, _, _, ⟨_, h1, h2⟩, s, hs => steps_live h2 s (step_live h1 s hs)

/-- What code ends in. -/
def Concl (np n : Nat) (w : World) (G β : Nat → Nat) (ω : Nat → Option Occ) (σ : Fr) (a : Act) (QA : AExit → Fr → Prop) (QC : Exit → Act → World → Prop) : Prop :=
  ∀ e σ' a' w' G' β' ω', QA e σ' → Reach w G ω w' G' ω' → PKeep np σ β σ' β' → FRel w' G' β' ω' σ' a'.tmps → a'.defers = a.defers → a'.tmps.size = n → QC (conv e) a' w'

def closeL (σ : Fr) : List (Nat × Nat × Nat) → Option Fr
  | [] => some σ
  | (t, d, c) :: r => match closeFr σ t d c with
    | some σ' => closeL σ' r
    | none => none
theorem awp_closes {C : CallRel} : ∀ (cl : List (Nat × Nat × Nat)) (ac : ACode) (Q : AExit → Fr → Prop) (σ : Fr), awp C (closes cl ac) Q σ → awp C ac (fun e σ' => match e with | .normal => ∃ σ'', closeL σ' cl = some σ'' ∧ Q .normal σ'' | e => Q e σ') σ := by
  intro cl
  induction cl with
  | nil =>
    intro ac Q σ h
    have : (fun (e : AExit) (σ' : Fr) => match e with | .normal => ∃ σ'', closeL σ' [] = some σ'' ∧ Q .normal σ'' | e => Q e σ') = Q := by
      funext e σ'
      cases e <;> simp [closeL]
    rw [this]; exact h
  | cons x r ih =>
    obtain ⟨t, d, c⟩ := x
    intro ac Q σ h
    have h' := ih _ _ _ h
    simp only [awp] at h'
    refine Eq.mp (congrArg (fun Q => awp C ac Q σ) ?_) h'
    funext e σ'
    cases e <;> simp [closeL]
    constructor
    · rintro ⟨s2, h1, s3, h2, h3⟩; exact ⟨s3, by rw [h1]; exact h2, h3⟩
    · rintro ⟨s3, h2, h3⟩
      split at h2
      · rename_i s2 h1; exact ⟨s2, h1, s3, h2, h3⟩
      · cases h2
theorem closeL_ok {np : Nat} {tm : Array Value} : ∀ (cl : List (Nat × Nat × Nat)) (ω : Nat → Option Occ) (σ σ' : Fr), FRel w G β ω σ tm → cl.all (fun e => decide (np ≤ e.2.1)) = true → closeL σ cl = some σ' →
    ∃ ω', (∀ b, ω' b ≠ none → ω b ≠ none) ∧ (∀ s, s < np → get σ.mem s ≠ none → get σ'.mem s ≠ none) ∧ FRel w G β ω' σ' tm
  | [], ω, σ, σ', hF, _, h => by cases h; exact ⟨ω, fun _ h => h, fun _ _ h => h, hF⟩
  | (t, d, c) :: r, ω, σ, σ', hF, hnp, h => by
    simp only [closeL] at h
    split at h
    · rename_i σ1 h1
      obtain ⟨ω1, k1, k4, k5⟩ := close_ok hF h1
      simp only [List.all_cons, Bool.and_eq_true, decide_eq_true_eq] at hnp
      obtain ⟨ω2, m1, m2, m3⟩ := closeL_ok r ω1 σ1 σ' k5 hnp.2 h
      refine ⟨ω2, fun b hb => k1 b (m1 b hb), fun s hs hl => m2 s hs ?_, m3⟩
      rw [k4 s (by omega)]; exact hl
    · cases h
theorem opens_sound {I : Inv} {np n : Nat} {C : CallRel} {QC : Exit → Act → World → Prop} : ∀ (l : List (Nat × Nat × Nat)) (ac : ACode) (QA : AExit → Fr → Prop) (β : Nat → Nat) (ω : Nat → Option Occ) (σ : Fr), awp C (opens l ac) QA σ → FRel w G β ω σ a.tmps → I.on w ω → Concl np n w G β ω σ a QA QC →
    ∃ σ0 β0 ω0, awp C ac QA σ0 ∧ FRel w G β0 ω0 σ0 a.tmps ∧ I.on w ω0 ∧ Concl np n w G β0 ω0 σ0 a QA QC
  | [], ac, QA, β, ω, σ, h, hF, hI, hK => ⟨σ, β, ω, h, hF, hI, hK⟩
  | (t, d, c) :: r, ac, QA, β, ω, σ, h, hF, hI, hK => by
    obtain ⟨σ1, h1, h2⟩ := h
    obtain ⟨β1, ω1, k1, k2, hF1⟩ := open_ok hF h1
    refine opens_sound r ac QA β1 ω1 σ1 h2 hF1 (I.down hI k1) ?_
    intro e σ' a' w' G' β' ω' hq hr hp hF' hd hs
    refine hK e σ' a' w' G' β' ω' hq ⟨⟨hr.1.os, hr.1.tape, hr.1.output, hr.1.size, hr.1.ext, fun b hb hT => hr.1.block b hb (fun h => hT (k1 b h))⟩, fun b hb => ?_⟩ (fun s hs hl => ?_) hF' hd hs
    · rcases hr.2 b hb with h | h
      · exact .inl (k1 b h)
      · exact .inr h
    · obtain ⟨j1, j2⟩ := k2 s hl
      obtain ⟨i1, i2⟩ := hp s hs j2
      exact ⟨i1, i2.trans j1⟩
theorem code_sound {I : Inv} {np n : Nat} {H : Hints} (hm : P.follows .mixedOrders = true) : ∀ (c : Code) (ac : ACode), cCode P n np H c = some ac → ∀ (QA : AExit → Fr → Prop) (QC : Exit → Act → World → Prop) (w : World) (G β : Nat → Nat) (ω : Nat → Option Occ) (σ : Fr) (a : Act),
    awp (ACallI I P) ac QA σ → FRel w G β ω σ a.tmps → I.on w ω → a.tmps.size = n → Concl np n w G β ω σ a QA QC → c.wp P QC a w := by
  intro c
  induction c with
  | skip =>
    intro ac hc QA QC w G β ω σ a h hF hI hn hK
    cases hc
    exact wp_skip (hK .normal σ a w G β ω h (.refl _ _ _) (.refl _ _ _) hF rfl hn)
  | region id ops draw =>
    intro ac hc QA QC w G β ω σ a h hF hI hn hK
    simp only [cCode] at hc
    split at hc
    · rename_i as has
      split at hc
      · rename_i hcond
        obtain ⟨⟨hok, hkb, hcl⟩, hdr⟩ := hcond
        cases hc
        obtain ⟨σ, β, ω, h, hF, hI, hK⟩ := opens_sound (I := I) _ _ _ _ _ _ h hF hI hK
        obtain ⟨σ1, σ2, h1, h2, σ3, h2c, h3⟩ := awp_closes _ _ _ _ h
        have hsz : ∀ o ∈ as, ∀ d ∈ o.wrs, d < a.tmps.size := fun o ho d hd => by
          simp only [opsOk, List.all_eq_true, decide_eq_true_eq] at hok
          rw [hn]; exact hok o ho d hd
        have fin : ∀ a0 : Act, a0 = a → ∀ w0 : World, w0.heap = w.heap → w0.os = w.os → w0.tape = w.tape → w0.output = w.output → Ends w0 G β ω a σ σ1 QC := by
          intro a0 _ w0 hh ho ht hout a' w' G' β' ω' hr hb hF' hd hs
          obtain ⟨hF2, hl2⟩ := kill_sound hF' h2
          obtain ⟨ω3, c1, c2, hF3⟩ := closeL_ok (np := np) _ _ _ _ hF2 hcl h2c
          refine hK .normal σ3 a' w' G' β' ω3 h3 ?_ (fun s hs hl => ?_) hF3 hd (by rw [hs, hn])
          · refine ⟨⟨hr.1.os.trans ho, hr.1.tape.trans ht, hr.1.output.trans hout, by rw [← hh]; exact hr.1.size, ⟨hr.1.ext.le, fun b off hlt => ?_, fun b sh hsh => ?_⟩, fun b hb hT => ?_⟩, fun b hb => ?_⟩
            · rw [hr.1.ext.cell b off hlt]; simp [World.cell?, hh]
            · exact hr.1.ext.shape b sh ((shape_of_block (by rw [hh])).trans hsh)
            · obtain ⟨k1, k2⟩ := hr.1.block b (by rw [hh]; exact hb) hT
              exact ⟨by rw [k1, hh], k2⟩
            · rw [← hh]; exact hr.2 b (c1 b hb)
          · refine ⟨c2 s hs (hl2 s (fun hmem => ?_) (steps_live h1 s hl)), hb s hl⟩
            have := List.all_eq_true.1 hkb s hmem
            simp at this
            omega
        cases draw with
        | false =>
          refine wp_region ?_
          have hlen := (cOps_get ops.toList 0 as has).1
          have := region_ordered (Q := QC) has as.length 0 (by omega) w G β ω σ σ1 a hF hI hsz (by simpa using h1) (fin a rfl w rfl rfl rfl rfl)
          rw [List.range_eq_range']
          rw [hlen] at this
          simpa using this
        | true =>
          have hdr' : drawOk ops as = true := by simpa using hdr
          refine wp_region_any hm ?_
          have hrem : remF (Array.replicate ops.size false) 0 as = as := by
            have : ∀ (l : List AOp) (k : Nat), k + l.length ≤ ops.size → remF (Array.replicate ops.size false) k l = l := by
              intro l
              induction l with
              | nil => intro k _; rfl
              | cons x l ih =>
                intro k hk
                simp at hk
                have : (Array.replicate ops.size false).getD k true = false := by simp [Array.getD_eq_getD_getElem?, show k < ops.size by omega]
                simp only [remF, this, Bool.false_eq_true, if_false]
                rw [ih (k + 1) (by omega)]
            exact this as 0 (by have := (cOps_get ops.toList 0 as has).1; simp at this; omega)
          refine region_drawn has hdr' ops.size _ _ G β ω σ σ1 a (by simp) (fun m o ho hl => ?_) (by rw [hrem]; have := (cOps_get ops.toList 0 as has).1; simp at this; omega) (hF.world rfl) (I.heap hI rfl) hsz (by rw [hrem]; exact h1) (fin a rfl _ rfl rfl rfl rfl)
          have hmlt := (Array.getElem?_eq_some_iff.1 ho).1
          simp [Array.getD_eq_getD_getElem?, hmlt] at hl
      · cases hc
    · cases hc
  | seq x y ihx ihy =>
    intro ac hc QA QC w G β ω σ a h hF hI hn hK
    simp only [cCode] at hc
    split at hc
    · rename_i ax ay hx hy
      cases hc
      refine wp_seq (ihx ax hx _ _ w G β ω σ a h hF hI hn ?_)
      intro e σ1 a1 w1 G1 β1 ω1 hq hr hp hF1 hd hs
      cases e with
      | normal =>
        refine ihy ay hy QA QC w1 G1 β1 ω1 σ1 a1 hq hF1 (I.reach hI hr) hs ?_
        intro e σ2 a2 w2 G2 β2 ω2 hq2 hr2 hp2 hF2 hd2 hs2
        exact hK e σ2 a2 w2 G2 β2 ω2 hq2 (hr.trans hr2) (hp.trans hp2) hF2 (hd2.trans hd) hs2
      | exit id => exact hK (.exit id) σ1 a1 w1 G1 β1 ω1 hq hr hp hF1 hd hs
      | ret => exact hK .ret σ1 a1 w1 G1 β1 ω1 hq hr hp hF1 hd hs
    · cases hc
  | cond cnd x y ihx ihy =>
    intro ac hc QA QC w G β ω σ a h hF hI hn hK
    simp only [cCode] at hc
    split at hc
    · rename_i c' ax ay hcnd hx hy
      cases hc
      simp only [awp] at h
      split at h
      · rename_i hb
        exact wp_cond_true (Rep.bool_inv ((cOpnd_ok hcnd).val hF hb)) (ihx ax hx QA QC w G β ω σ a h hF hI hn hK)
      · rename_i hb
        exact wp_cond_false (Rep.bool_inv ((cOpnd_ok hcnd).val hF hb)) (ihy ay hy QA QC w G β ω σ a h hF hI hn hK)
      · rename_i hb
        have h0 := (cOpnd_ok hcnd).trep hF
        rw [hb] at h0
        obtain ⟨b, hb'⟩ := h0
        cases b with
        | true => exact wp_cond_true hb' (ihx ax hx QA QC w G β ω σ a h.1 hF hI hn hK)
        | false => exact wp_cond_false hb' (ihy ay hy QA QC w G β ω σ a h.2 hF hI hn hK)
      · exact h.elim
    · cases hc
  | block id x ih =>
    intro ac hc QA QC w G β ω σ a h hF hI hn hK
    simp only [cCode] at hc
    split at hc
    · rename_i ax hx
      split at hc
      · cases hc
        refine wp_block (ih ax hx _ _ w G β ω σ a h hF hI hn ?_)
        intro e σ1 a1 w1 G1 β1 ω1 hq hr hp hF1 hd hs
        cases e with
        | normal => exact hK .normal σ1 a1 w1 G1 β1 ω1 hq hr hp hF1 hd hs
        | exit i =>
          simp only [conv, Exit.inBlock]
          split
          · rename_i e
            simp only [e, if_true] at hq
            exact hK .normal σ1 a1 w1 G1 β1 ω1 hq hr hp hF1 hd hs
          · rename_i e
            simp only [e, if_false] at hq
            exact hK (.exit i) σ1 a1 w1 G1 β1 ω1 hq hr hp hF1 hd hs
        | ret => exact hK .ret σ1 a1 w1 G1 β1 ω1 hq hr hp hF1 hd hs
      · split at hc
        · rename_i hkb
          cases hc
          have after : ∀ (σ1 : Fr) (a1 : Act) (w1 : World) (G1 β1 : Nat → Nat) (ω1 : Nat → Option Occ), awp (ACallI I P) (.reg [] (hintOf H (1000000 + id)).kt (hintOf H (1000000 + id)).kb) QA σ1 → Reach w G ω w1 G1 ω1 → PKeep np σ β σ1 β1 → FRel w1 G1 β1 ω1 σ1 a1.tmps → a1.defers = a.defers → a1.tmps.size = n → QC .normal a1 w1 := by
            intro σ1 a1 w1 G1 β1 ω1 hq hr hp hF1 hd hs
            obtain ⟨s1, s2, h1, h2, h3⟩ := hq
            cases h1
            obtain ⟨hF2, hl2⟩ := kill_sound hF1 h2
            refine hK .normal s2 a1 w1 G1 β1 ω1 h3 hr (fun s hs hl => ?_) hF2 hd hs
            obtain ⟨k1, k2⟩ := hp s hs hl
            refine ⟨hl2 s (fun hmem => ?_) k1, k2⟩
            have := List.all_eq_true.1 hkb s hmem
            simp at this
            omega
          refine wp_block (ih ax hx _ _ w G β ω σ a h hF hI hn ?_)
          intro e σ1 a1 w1 G1 β1 ω1 hq hr hp hF1 hd hs
          cases e with
          | normal => exact after σ1 a1 w1 G1 β1 ω1 hq hr hp hF1 hd hs
          | exit i =>
            simp only [conv, Exit.inBlock]
            split
            · rename_i e
              simp only [e, if_true] at hq
              exact after σ1 a1 w1 G1 β1 ω1 hq hr hp hF1 hd hs
            · rename_i e
              simp only [e, if_false] at hq
              exact hK (.exit i) σ1 a1 w1 G1 β1 ω1 hq hr hp hF1 hd hs
          | ret => exact hK .ret σ1 a1 w1 G1 β1 ω1 hq hr hp hF1 hd hs
        · cases hc
    · cases hc
  | loop x ih =>
    intro ac hc QA QC w G β ω σ a h hF hI hn hK
    simp only [cCode] at hc
    split at hc
    · rename_i ax hx
      cases hc
      obtain ⟨k, hk⟩ := h
      have key : ∀ (k : Nat) (w1 : World) (G1 β1 : Nat → Nat) (ω1 : Nat → Option Occ) (σ1 : Fr) (a1 : Act), iterA (awp (ACallI I P) ax) QA k σ1 → FRel w1 G1 β1 ω1 σ1 a1.tmps → I.on w1 ω1 → a1.tmps.size = n → Concl np n w1 G1 β1 ω1 σ1 a1 QA QC →
          ∀ (b : Frame) (kk : List Item) (cs : List Frame), ∃ e a' w', QC e a' w' ∧ Arrives P (lone (b.at a1 (.code x :: .inLoop x :: kk)) cs w1) b kk cs e a' w' := by
        intro k
        induction k with
        | zero => intro w1 G1 β1 ω1 σ1 a1 h _ _ _ _; exact h.elim
        | succ k ihk =>
          intro w1 G1 β1 ω1 σ1 a1 h hF1 hI1 hn1 hK1 b kk cs
          have hbody := ih ax hx _ (Exit.then (fun a' w' => ∀ (b : Frame) (kk : List Item) (cs : List Frame), ∃ e a'' w'', QC e a'' w'' ∧ Arrives P (lone (b.at a' (.code x :: .inLoop x :: kk)) cs w') b kk cs e a'' w'') QC) w1 G1 β1 ω1 σ1 a1 h hF1 hI1 hn1 (by
            intro e σ2 a2 w2 G2 β2 ω2 hq hr hp hF2 hd hs
            cases e with
            | normal =>
              refine ihk w2 G2 β2 ω2 σ2 a2 hq hF2 (I.reach hI1 hr) hs ?_
              intro e σ3 a3 w3 G3 β3 ω3 hq3 hr3 hp3 hF3 hd3 hs3
              exact hK1 e σ3 a3 w3 G3 β3 ω3 hq3 (hr.trans hr3) (hp.trans hp3) hF3 (hd3.trans hd) hs3
            | exit id => exact hK1 (.exit id) σ2 a2 w2 G2 β2 ω2 hq hr hp hF2 hd hs
            | ret => exact hK1 .ret σ2 a2 w2 G2 β2 ω2 hq hr hp hF2 hd hs)
          obtain ⟨e, a₁, w₁, hq, harr⟩ := hbody b (.inLoop x :: kk) cs
          cases e with
          | normal =>
            obtain ⟨e₂, a₂, w₂, hq₂, harr₂⟩ := hq b kk cs
            exact ⟨e₂, a₂, w₂, hq₂, .of_steps (Steps.trans harr (.one step_inLoop)) harr₂⟩
          | exit id => exact ⟨_, a₁, w₁, hq, .pass (x := .inLoop x) rfl (fun _ _ => .inl (by simp)) harr⟩
          | goto l => exact ⟨_, a₁, w₁, hq, .pass (x := .inLoop x) rfl (fun _ _ => .inl (by simp)) harr⟩
          | ret => exact ⟨_, a₁, w₁, hq, .pass (x := .inLoop x) rfl (fun _ _ => .inl (by simp)) harr⟩
          | panic ch => exact ⟨_, a₁, w₁, hq, .pass (x := .inLoop x) rfl (fun _ _ => .inl (by simp)) harr⟩
          | outgrown => exact ⟨_, a₁, w₁, hq, .pass (x := .inLoop x) rfl (fun _ _ => .inl (by simp)) harr⟩
      intro b kk cs
      obtain ⟨e, a', w', hq, harr⟩ := key k w G β ω σ a hk hF hI hn hK b kk cs
      exact ⟨e, a', w', hq, .of_steps (.one step_loop) harr⟩
    · cases hc
  | exit id =>
    intro ac hc QA QC w G β ω σ a h hF hI hn hK
    cases hc
    exact wp_exit (hK (.exit id) σ a w G β ω h (.refl _ _ _) (.refl _ _ _) hF rfl hn)
  | ret =>
    intro ac hc QA QC w G β ω σ a h hF hI hn hK
    cases hc
    exact wp_ret (hK .ret σ a w G β ω h (.refl _ _ _) (.refl _ _ _) hF rfl hn)
  | rangeFunc f p asg b _ _ => intro ac hc; simp [cCode] at hc
  | scope b _ => intro ac hc; simp [cCode] at hc
  | label l => intro ac hc; simp [cCode] at hc
  | goto l => intro ac hc; simp [cCode] at hc
  | refuse y => intro ac hc; simp [cCode] at hc
end
end Go.AR

/-! A function gives what its code over the abstract machine gives. -/
namespace Go.AR
open Go
section
variable {P : Program} {w : World} {G β : Nat → Nat} {ω : Nat → Option Occ} {σ σ' : Fr} {a : Act}

theorem initA_tmps : ∀ (as : List Arg) (i t : Nat), tget (initA as i).tmps t = if i ≤ t then (match as[t - i]? with | some (.v p) => .val p | some (.r _) => .lp t 0 | some (.x c r) => .exc c r | none => .undef) else .undef
  | [], i, t => by simp [initA, tget, get]
  | .v p :: as, i, t => by
    have ih := initA_tmps as (i + 1) t
    simp only [tget, initA, get] at ih ⊢
    by_cases h : t = i
    · subst h; simp
    · rw [if_neg h, ih]
      by_cases h2 : i ≤ t
      · rw [if_pos h2, if_pos (by omega), show t - i = (t - (i + 1)) + 1 by omega]; simp
      · rw [if_neg h2, if_neg (by omega)]
  | .r b :: as, i, t => by
    have ih := initA_tmps as (i + 1) t
    simp only [tget, initA, get] at ih ⊢
    by_cases h : t = i
    · subst h; simp
    · rw [if_neg h, ih]
      by_cases h2 : i ≤ t
      · rw [if_pos h2, if_pos (by omega), show t - i = (t - (i + 1)) + 1 by omega]; simp
      · rw [if_neg h2, if_neg (by omega)]
  | .x c r :: as, i, t => by
    have ih := initA_tmps as (i + 1) t
    simp only [tget, initA, get] at ih ⊢
    by_cases h : t = i
    · subst h; simp
    · rw [if_neg h, ih]
      by_cases h2 : i ≤ t
      · rw [if_pos h2, if_pos (by omega), show t - i = (t - (i + 1)) + 1 by omega]; simp
      · rw [if_neg h2, if_neg (by omega)]
theorem initA_mem : ∀ (as : List Arg) (i s : Nat), get (initA as i).mem s = if i ≤ s then (match as[s - i]? with | some (.r b) => some b | _ => none) else none
  | [], i, s => by simp [initA, get]
  | .v p :: as, i, s => by
    have ih := initA_mem as (i + 1) s
    simp only [initA]
    rw [ih]
    by_cases h : s = i
    · subst h; rw [if_neg (by omega)]; simp
    · by_cases h2 : i ≤ s
      · rw [if_pos h2, if_pos (by omega), show s - i = (s - (i + 1)) + 1 by omega]; simp
      · rw [if_neg h2, if_neg (by omega)]
  | .r b :: as, i, s => by
    have ih := initA_mem as (i + 1) s
    simp only [initA, get]
    by_cases h : s = i
    · subst h; simp
    · rw [if_neg h, ih]
      by_cases h2 : i ≤ s
      · rw [if_pos h2, if_pos (by omega), show s - i = (s - (i + 1)) + 1 by omega]; simp
      · rw [if_neg h2, if_neg (by omega)]
  | .x c r :: as, i, s => by
    have ih := initA_mem as (i + 1) s
    simp only [initA]
    rw [ih]
    by_cases h : s = i
    · subst h; rw [if_neg (by omega)]; simp
    · by_cases h2 : i ≤ s
      · rw [if_pos h2, if_pos (by omega), show s - i = (s - (i + 1)) + 1 by omega]; simp
      · rw [if_neg h2, if_neg (by omega)]
theorem args_get : ∀ (as : List Arg) (i : Nat) (va : List Value), ArgsRep w G β ω i as va → va.length = as.length ∧ ∀ (j : Nat) (x : Arg) (v : Value), as[j]? = some x → va[j]? = some v →
    (∀ p, x = .v p → Rep w G p v) ∧ (∀ b, x = .r b → v = .pointer (some ⟨β (i + j), 0, none⟩) ∧ ω (β (i + j)) = some (.blk (i + j)) ∧ BRep w G ω (β (i + j)) (i + j) b) ∧ ∀ c r, x = .x c r → ORepX w G ω (.tmp (i + j)) c r v
  | [], i, [], _ => by simp
  | [], i, _ :: _, h => h.elim
  | .v p :: as, i, [], h => h.elim
  | .r b :: as, i, [], h => h.elim
  | .x c r :: as, i, [], h => h.elim
  | .v p :: as, i, v :: va, h => by
    obtain ⟨h1, h2⟩ := h
    obtain ⟨k1, k2⟩ := args_get as (i + 1) va h2
    refine ⟨by simp [k1], fun j x u hx hu => ?_⟩
    cases j with
    | zero => simp at hx hu; subst hx; subst hu; exact ⟨(fun q e => by cases e; exact h1), (fun b e => by cases e), (fun c r e => by cases e)⟩
    | succ j =>
      have := k2 j x u (by simpa using hx) (by simpa using hu)
      rw [show i + (j + 1) = i + 1 + j by omega]; exact this
  | .r b :: as, i, v :: va, h => by
    obtain ⟨h1, h2⟩ := h
    obtain ⟨k1, k2⟩ := args_get as (i + 1) va h2
    refine ⟨by simp [k1], fun j x u hx hu => ?_⟩
    cases j with
    | zero => simp at hx hu; subst hx; subst hu; exact ⟨(fun q e => by cases e), (fun c e => by cases e; exact h1), (fun c r e => by cases e)⟩
    | succ j =>
      have := k2 j x u (by simpa using hx) (by simpa using hu)
      rw [show i + (j + 1) = i + 1 + j by omega]; exact this
  | .x c r :: as, i, v :: va, h => by
    obtain ⟨h1, h2⟩ := h
    obtain ⟨k1, k2⟩ := args_get as (i + 1) va h2
    refine ⟨by simp [k1], fun j x u hx hu => ?_⟩
    cases j with
    | zero => simp at hx hu; subst hx; subst hu; exact ⟨(fun q e => by cases e), (fun c e => by cases e), (fun c r e => by cases e; exact h1)⟩
    | succ j =>
      have := k2 j x u (by simpa using hx) (by simpa using hu)
      rw [show i + (j + 1) = i + 1 + j by omega]; exact this

theorem init_rel {as : List Arg} {va : List Value} (n : Nat) (hg : ∀ b, w.heap.size ≤ b → G b = 0) (hω : ∀ b, ω b ≠ none → b < w.heap.size) (h : ArgsRep w G β ω 0 as va) :
    FRel w G β ω (initA as 0) (va.toArray ++ Array.replicate n undef) := by
  obtain ⟨hl, hget⟩ := args_get as 0 va h
  refine ⟨fun t => ?_, fun t s ht => ?_, fun s b hb => ?_, hg, hω⟩
  · rw [initA_tmps]
    simp only [Nat.zero_le, if_true, Nat.sub_zero]
    cases hx : as[t]? with
    | none => trivial
    | some x =>
      have hlt : t < va.length := by rw [hl]; exact (List.getElem?_eq_some_iff.1 hx).1
      have hv : (va.toArray ++ Array.replicate n undef).getD t undef = va[t] := by
        simp [Array.getD_eq_getD_getElem?, Array.getElem?_append, hlt]
      rw [hv]
      obtain ⟨h1, h2, h3⟩ := hget t x va[t] hx (List.getElem?_eq_getElem hlt)
      cases x with
      | v p => exact h1 p rfl
      | r b => have := (h2 b rfl).1; simpa [TRep] using this
      | x c r => have := h3 c r rfl; simpa [TRep] using this
  · rw [initA_tmps] at ht
    simp only [Nat.zero_le, if_true, Nat.sub_zero] at ht
    rw [initA_mem]
    simp only [Nat.zero_le, if_true, Nat.sub_zero]
    cases hx : as[t]? with
    | none => rw [hx] at ht; cases ht
    | some x =>
      rw [hx] at ht
      cases x with
      | v p => cases ht
      | x c r => cases ht
      | r b => cases ht; rw [hx]; simp
  · rw [initA_mem] at hb
    simp only [Nat.zero_le, if_true, Nat.sub_zero] at hb
    cases hx : as[s]? with
    | none => rw [hx] at hb; cases hb
    | some x =>
      rw [hx] at hb
      cases x with
      | v p => cases hb
      | x c r => cases hb
      | r c =>
        cases hb
        have hlt : s < va.length := by rw [hl]; exact (List.getElem?_eq_some_iff.1 hx).1
        have := ((hget s _ va[s] hx (List.getElem?_eq_getElem hlt)).2.1 b rfl).2
        simpa using this

/-- One result. -/
def resSem (tmps : Array Value) : ResultVar → Sem Value
  | .tmp t => pure (tmps.getD t undef)
  | .cell a t => do loadVar t (← asAddr (tmps.getD a undef))
def ARes.occ : ARes → Occ
  | .tmp t => .tmp t
  | .cell _ _ _ => .tmp 0
theorem res_run {tm : Array Value} {r : ResultVar} {ar : ARes} {tv : TV} (hF : FRel w G β ω σ tm) (hc : cRes P r = some ar) (hr : resA σ ar = some tv) : ∃ v, (resSem tm r).run P w = .ok v w ∧ TRep w G β ω ar.occ tv v := by
  cases r with
  | tmp t =>
    cases hc
    simp [resA] at hr; subst hr
    exact ⟨_, rfl, hF.tmp t⟩
  | cell t ty =>
    simp only [cRes] at hc
    split at hc
    · rename_i g n hg hn
      cases hc
      simp only [resA] at hr
      have ht := hF.tmp t
      split at hr
      · rename_i s off hlp
        rw [hlp] at ht
        have e1 : tm.getD t undef = .pointer (some ⟨β s, off, none⟩) := ht
        split at hr
        · rename_i cs hcs
          obtain ⟨hω, arr, e, hh, ⟨hsz, _⟩, hG, hcell⟩ := hF.blk s _ hcs
          have hrun : ∀ v, (loadVar ty ⟨β s, off, none⟩).run P w = .ok v w → (resSem tm (.cell t ty)).run P w = .ok v w := fun v hv => by
            simp only [resSem, e1, asAddr, Sem.run_bind, Sem.run_pure, Result.andThen_ok]; exact hv
          cases g with
          | true =>
            simp only [if_true] at hr
            split at hr
            · rename_i ps hps
              split at hr
              · rename_i hpl
                cases hr
                obtain ⟨hlp', hget⟩ := pvs_get hps
                obtain ⟨vs, hl, hrep⟩ := load_rows (P := P) (w := w) (G := G) (b := β s) (off := off) (ps := ps) (fun j p hj => by
                  obtain ⟨tv, htv, htp⟩ := hget j p hj
                  have hjn : j < n := by rw [← hpl]; exact (List.getElem?_eq_some_iff.1 hj).1
                  rw [List.getElem?_take, if_pos hjn, List.getElem?_drop] at htv
                  have hlt : off + j < arr.size := Nat.lt_of_lt_of_le (List.getElem?_eq_some_iff.1 htv).1 hsz
                  have := CRep.pv (hcell (off + j) tv _ htv (Array.getElem?_eq_getElem hlt)) htp
                  exact ⟨_, by rw [cell_of_block hh, Array.getElem?_eq_getElem hlt], this⟩)
                refine ⟨.agg vs, hrun _ ?_, hrep⟩
                rw [hpl] at hl
                simp [loadVar, run_isAggT hg, run_szT hn, hl]
              · cases hr
            · cases hr
          | false =>
            simp only [Bool.false_eq_true, if_false] at hr
            split at hr
            · rename_i tv htv
              cases hr
              have hlt : off < arr.size := Nat.lt_of_lt_of_le (List.getElem?_eq_some_iff.1 htv).1 hsz
              have hcl : w.cell? ⟨β s, off, none⟩ = some arr[off] := by rw [cell_of_block hh, Array.getElem?_eq_getElem hlt]
              refine ⟨arr[off], hrun _ ?_, (hcell off tv _ htv (Array.getElem?_eq_getElem hlt)).ro _⟩
              simp [loadVar, run_isAggT hg, hcl]
            · cases hr
        · cases hr
      · cases hr
    · cases hc
theorem ress_run {tm : Array Value} (hF : FRel w G β ω σ tm) : ∀ (rs : List ResultVar) (ars : List ARes) (ps : List PV), cRess P rs = some ars → ressA σ ars = some ps →
    ∃ vs : List Value, (rs.mapM (resSem tm)).run P w = .ok vs w ∧ vs.length = ps.length ∧ rs.length = ps.length ∧ ∀ (i : Nat) (p : PV) (v : Value), ps[i]? = some p → vs[i]? = some v → Rep w G p v
  | [], ars, ps, hc, hr => by
    simp [cRess] at hc; subst hc
    simp [ressA] at hr; subst hr
    exact ⟨[], by simp, rfl, rfl, by simp⟩
  | r :: rs, ars, ps, hc, hr => by
    simp only [cRess] at hc
    split at hc
    · rename_i ar ars' h1 h2
      cases hc
      simp only [ressA] at hr
      split at hr
      · rename_i tv ps' h3 h4
        split at hr
        · rename_i p hp
          cases hr
          obtain ⟨v, hv, hvr⟩ := res_run hF h1 h3
          obtain ⟨vs, k1, k2, k3, k4⟩ := ress_run hF rs ars' ps' h2 h4
          refine ⟨v :: vs, by simp only [List.mapM_cons, Sem.run_bind, hv, Result.andThen_ok, k1, Sem.run_pure], by simp [k2], by simp [k3], fun i q u hq hu => ?_⟩
          cases i with
          | zero => simp at hq hu; subst hq; subst hu; exact hvr.pv hp
          | succ i => exact k4 i q u (by simpa using hq) (by simpa using hu)
        · cases hr
      · cases hr
    · cases hc
theorem run_results {fn : Func} {tm : Array Value} {vs : List Value} (h : (fn.results.toList.mapM (resSem tm)).run P w = .ok vs w) : (results fn tm).run P w = .ok (if h : vs.toArray.size = 1 then vs.toArray[0] else .tuple vs.toArray) w := by
  have : (fn.results.mapM (resSem tm)).run P w = .ok vs.toArray w := by
    rw [Array.mapM_eq_mapM_toList]
    simp only [Sem.run_map, h]
    try rfl
  have h2 : results fn tm = (do let vs ← fn.results.mapM (resSem tm); pure (if h : vs.size = 1 then vs[0] else .tuple vs)) := by
    unfold results
    congr 1
  rw [h2]
  simp only [Sem.run_bind, this, Result.andThen_ok, Sem.run_pure]

/-- Who owns what, when a function has ended: 's0' the block that it hands back, 't0' the temporary of a row that it hands back. -/
def finω (n : Nat) (s0 t0 : Option Nat) (ω : Nat → Option Occ) : Nat → Option Occ := fun b => match ω b with
  | some (.blk s) => if s < n then some (.blk s) else if s0 = some s then some (.blk n) else none
  | some (.cell s i) => if s < n then some (.cell s i) else if s0 = some s then some (.cell n i) else none
  | some (.tmp t) => if t0 = some t then some (.tmp n) else none
  | none => none
theorem finω_dom {n : Nat} {s0 t0 : Option Nat} {b : Nat} (h : finω n s0 t0 ω b ≠ none) : ω b ≠ none := fun e => h (by simp [finω, e])

theorem outs_rep {as : List Arg} {β' : Nat → Nat} {s0 t0 : Option Nat} {n : Nat} {tm : Array Value} (hF : FRel w G β' ω σ tm) (hβ : ∀ s, s < n → get (initA as 0).mem s ≠ none → β' s = β s) (hn : as.length = n) :
    ∀ (suf pre : List Arg) (outs : List Blk), as = pre ++ suf → outsA σ suf pre.length = some outs → OutsRep w G β (finω n s0 t0 ω) pre.length suf outs
  | [], pre, outs, h, ho => by simp [outsA] at ho; subst ho; trivial
  | .v p :: suf, pre, outs, h, ho => by
    simp only [outsA] at ho
    have := outs_rep (s0 := s0) (t0 := t0) hF hβ hn suf (pre ++ [.v p]) outs (by simp [h]) (by simpa using ho)
    simpa [OutsRep] using this
  | .x c r :: suf, pre, outs, h, ho => by
    simp only [outsA] at ho
    have := outs_rep (s0 := s0) (t0 := t0) hF hβ hn suf (pre ++ [.x c r]) outs (by simp [h]) (by simpa using ho)
    simpa [OutsRep] using this
  | .r b :: suf, pre, outs, h, ho => by
    simp only [outsA] at ho
    split at ho
    · rename_i b' bs hb hbs
      cases ho
      have hlt : pre.length < n := by rw [← hn, h]; simp
      have hlive : get (initA as 0).mem pre.length ≠ none := by rw [initA_mem]; simp [h]
      obtain ⟨h1, h2⟩ := hF.blk pre.length b' hb
      rw [hβ _ hlt hlive] at h1 h2
      refine ⟨⟨by simp [finω, h1, hlt], h2.mono (.refl _ _) rfl rfl (fun g i hg => ⟨rfl, rfl, by simp [finω, hg, hlt]⟩)⟩, ?_⟩
      have := outs_rep (s0 := s0) (t0 := t0) hF hβ hn suf (pre ++ [.r b]) bs (by simp [h]) (by simpa using hbs)
      simpa using this
    · cases ho

theorem acall_ofI {I : Inv} {f : Nat} {fn : Func} {H : Hints} {af : AFun} {as : List Arg} {rv : RV} {outs : List Blk} (hm : P.follows .mixedOrders = true) (hf : P.funcs[f]? = some fn) (hc : cFun P H fn = some af) (hg : af.gives (ACallI I P) as rv outs) : ACallI I P f as rv outs := by
  unfold cFun at hc
  split at hc
  · rename_i c hb
    split at hc
    · rename_i b rs hcode hres
      split at hc
      · rename_i hcond
        obtain ⟨hpn, hfree, hname⟩ := hcond
        cases hc
        obtain ⟨hlen, hawp⟩ := hg
        simp only at hlen hawp
        refine ⟨fun va w => ?_, fun w G β ω va hgn hωn hargs hI => ?_⟩
        · simp [callFunc, hf, hname, hb]
        · have hval : va.length = as.length := (args_get as 0 va hargs).1
          refine calls_of_wp hf hb ?_
          have hF0 := init_rel (fn.ntmps - va.toArray.size) hgn hωn hargs
          refine code_sound hm c b hcode _ _ w G β ω (initA as 0) _ hawp hF0 hI (by simp [hval, hlen]; omega) ?_
          intro e σ' a' w' G' β' ω' hq hr hp hF hd hs
          obtain ⟨hne, hret, hout⟩ := hq
          -- the end
          have fin : ∀ (s0 t0 : Option Nat) (v : Value), (results fn a'.tmps).run P w' = .ok v w' → RVRep w' G' (finω as.length s0 t0 ω') as.length rv v →
              bodyPost P fn (fun e w' => ∃ v G' ω', e = .returned v ∧ Evo (fun b => ω b ≠ none) w G w' G' ∧ (∀ b, w'.heap.size ≤ b → G' b = 0) ∧ (∀ b, ω' b ≠ none → b < w'.heap.size) ∧
                (∀ b, ω' b ≠ none → ω b ≠ none ∨ w.heap.size ≤ b) ∧ OutsRep w' G' β ω' 0 as outs ∧ RVRep w' G' ω' as.length rv v) (conv e) a' w' := by
            intro s0 t0 v hv hrv
            have hR : ∃ v' G'' ω'', Ending.returned v = .returned v' ∧ Evo (fun b => ω b ≠ none) w G w' G'' ∧ (∀ b, w'.heap.size ≤ b → G'' b = 0) ∧ (∀ b, ω'' b ≠ none → b < w'.heap.size) ∧
                (∀ b, ω'' b ≠ none → ω b ≠ none ∨ w.heap.size ≤ b) ∧ OutsRep w' G'' β ω'' 0 as outs ∧ RVRep w' G'' ω'' as.length rv v' :=
              ⟨v, G', finω as.length s0 t0 ω', rfl, hr.1, hF.gnew, fun b hb => hF.ωnew b (finω_dom hb), fun b hb => hr.2 b (finω_dom hb),
                outs_rep hF (fun s hs hl => (hp s (by omega) hl).2) rfl as [] outs rfl hout, hrv⟩
            cases e with
            | normal => exact ⟨hd, v, hv, hR⟩
            | ret => exact ⟨hd, v, hv, hR⟩
            | exit id => exact hne.elim
          have hsingle : ∀ (r : ResultVar) (v : Value), fn.results.toList = [r] → (resSem a'.tmps r).run P w' = .ok v w' → (results fn a'.tmps).run P w' = .ok v w' := fun r v hr hv => by
            have := run_results (P := P) (w := w') (fn := fn) (tm := a'.tmps) (vs := [v]) (by rw [hr]; simp only [List.mapM_cons, List.mapM_nil, Sem.run_bind, hv, Result.andThen_ok, Sem.run_pure])
            simpa using this
          unfold retA at hret
          simp only at hret
          split at hret
          · -- one result
            rename_i ar
            have hr1 : ∃ r, fn.results.toList = [r] ∧ cRes P r = some ar := by
              rcases hl : fn.results.toList with _ | ⟨r, _ | ⟨r2, l⟩⟩ <;> rw [hl] at hres <;> simp only [cRess] at hres
              · cases hres
              · split at hres
                · rename_i x xs hx hxs; cases hxs; cases hres; exact ⟨r, rfl, hx⟩
                · cases hres
              · split at hres
                · rename_i x xs hx hxs
                  split at hxs
                  · cases hxs; cases hres
                  · cases hxs
                · cases hres
            obtain ⟨r, hrl, hrc⟩ := hr1
            split at hret
            · rename_i p hp'
              cases hret
              obtain ⟨v, hv, hvr⟩ := res_run hF hrc hp'
              exact fin none none v (hsingle r v hrl hv) hvr
            · rename_i cc rows hp'
              cases hret
              obtain ⟨v, hv, hvr⟩ := res_run hF hrc hp'
              cases ar with
              | tmp t =>
                exact fin none (some t) v (hsingle r v hrl hv) (ORepE.mono (ORepE.any hvr) (.refl _ _) (fun g hg => ⟨rfl, rfl, by simp only [ARes.occ] at hg; simp [finω, hg]⟩))
              | cell t g n =>
                exfalso
                simp only [resA] at hp'
                split at hp'
                · split at hp'
                  · split at hp'
                    · split at hp'
                      · split at hp'
                        · cases hp'
                        · cases hp'
                      · cases hp'
                    · split at hp'
                      · rename_i tv _
                        cases tv <;> simp [TV.ro] at hp'
                      · cases hp'
                  · cases hp'
                · cases hp'
            · rename_i cc rows hp'
              cases hret
              obtain ⟨v, hv, hvr⟩ := res_run hF hrc hp'
              cases ar with
              | tmp t =>
                exact fin none (some t) v (hsingle r v hrl hv) (ORepX.mono hvr (.refl _ _) (fun g hg => ⟨rfl, rfl, by simp only [ARes.occ] at hg; simp [finω, hg]⟩))
              | cell t g n =>
                exfalso
                simp only [resA] at hp'
                split at hp'
                · split at hp'
                  · split at hp'
                    · split at hp'
                      · split at hp'
                        · cases hp'
                        · cases hp'
                      · cases hp'
                    · split at hp'
                      · rename_i tv _
                        cases tv <;> simp [TV.ro] at hp'
                      · cases hp'
                  · cases hp'
                · cases hp'
            · rename_i s hp'
              split at hret
              · rename_i hns
                split at hret
                · rename_i blk hblk
                  cases hret
                  obtain ⟨v, hv, hvr⟩ := res_run hF hrc hp'
                  obtain ⟨h1, h2⟩ := hF.blk s blk hblk
                  have hnlt : ¬ s < as.length := by omega
                  exact fin (some s) none v (hsingle r v hrl hv) ⟨β' s, hvr, by simp [finω, h1, hnlt], h2.mono (.refl _ _) rfl rfl (fun g i hg => ⟨rfl, rfl, by simp [finω, hg, hnlt]⟩)⟩
                · cases hret
              · cases hret
            · rename_i s hp'
              split at hret
              · rename_i hns
                split at hret
                · rename_i blk hblk
                  cases hret
                  obtain ⟨v, hv, hvr⟩ := res_run hF hrc hp'
                  obtain ⟨h1, h2⟩ := hF.blk s blk hblk
                  have hnlt : ¬ s < as.length := by omega
                  exact fin (some s) none v (hsingle r v hrl hv) ⟨β' s, hvr, by simp [finω, h1, hnlt], h2.mono (.refl _ _) rfl rfl (fun g i hg => ⟨rfl, rfl, by simp [finω, hg, hnlt]⟩)⟩
                · cases hret
              · cases hret
            · cases hret
          · -- none, or several
            rename_i hno
            split at hret
            · rename_i ps hps
              cases hret
              obtain ⟨vs, k1, k2, k3, k4⟩ := ress_run hF _ _ _ hres hps
              have hne1 : ps.length ≠ 1 := fun h1 => by
                have hrsl : ∀ (l : List ResultVar) (ars : List ARes), cRess P l = some ars → ars.length = l.length := by
                  intro l
                  induction l with
                  | nil => intro ars h; simp [cRess] at h; subst h; rfl
                  | cons x l ih =>
                    intro ars h
                    simp only [cRess] at h
                    split at h
                    · rename_i y ys _ hys; cases h; simp [ih ys hys]
                    · cases h
                have := hrsl _ _ hres
                rw [k3, h1] at this
                obtain ⟨x, hx⟩ : ∃ x, rs = [x] := by
                  rcases rs with _ | ⟨x, _ | ⟨y, l⟩⟩
                  · simp at this
                  · exact ⟨x, rfl⟩
                  · simp at this
                exact hno x hx
              have hrun := run_results (P := P) (w := w') (fn := fn) (tm := a'.tmps) k1
              have hvs : ¬ vs.toArray.size = 1 := by simpa [k2] using hne1
              rw [dif_neg hvs] at hrun
              exact fin none none _ hrun (.tup ps vs.toArray (by simp [k2]) (fun i p v hp hv => k4 i p v hp (by simpa using hv)))
            · cases hret
      · cases hc
    · cases hc
  · cases hc
theorem acall_of {f : Nat} {fn : Func} {H : Hints} {af : AFun} {as : List Arg} {rv : RV} {outs : List Blk} (hm : P.follows .mixedOrders = true) (hf : P.funcs[f]? = some fn) (hc : cFun P H fn = some af) (hg : af.gives (ACall P) as rv outs) : ACall P f as rv outs := by
  rw [ACall_eq] at hg ⊢
  exact acall_ofI hm hf hc hg
end
end Go.AR
