import Derived.Test.YtcpkejkpabgabaaDoorRegion2
import GoSem.Machine.Return
set_option linter.all false
/-! Code, and functions. -/
namespace Go.AR
open Go
section
variable {P : Program} {w : World} {G β : Nat → Nat} {ω : Nat → Option Occ} {σ σ' : Fr} {a : Act}

theorem get_del {α : Type} : ∀ (m : List (Nat × α)) (xs : List Nat) (s : Nat), get (del m xs) s = if xs.contains s then none else get m s
  | [], xs, s => by simp [del, get]
  | (j, b) :: m, xs, s => by
    have ih := get_del m xs s
    simp only [del] at ih ⊢
    rw [List.filter_cons]
    by_cases hj : xs.contains j = true
    · simp only [hj, Bool.not_true, Bool.false_eq_true, if_false, ih, get]
      by_cases hs : s = j
      · subst hs; rw [hj]; simp
      · rw [if_neg hs]
    · simp only [Bool.not_eq_true] at hj
      simp only [hj, Bool.not_false, if_true, get, ih]
      by_cases hs : s = j
      · subst hs; rw [hj]; simp
      · rw [if_neg hs, if_neg hs]
theorem mem_of_get {α : Type} : ∀ (m : List (Nat × α)) (s : Nat) (x : α), get m s = some x → (s, x) ∈ m
  | [], _, _, h => by simp [get] at h
  | (j, b) :: m, s, x, h => by
    simp only [get] at h
    split at h
    · rename_i e; subst e; cases h; simp
    · exact List.mem_cons_of_mem _ (mem_of_get m s x h)
theorem kill_sound {tm : Array Value} {kt kb : List Nat} (hF : FRel w G β ω σ tm) (hk : kill σ kt kb = some σ') : FRel w G β ω σ' tm ∧ ∀ s, s ∉ kb → get σ.mem s ≠ none → get σ'.mem s ≠ none := by
  unfold kill at hk
  simp only at hk
  split at hk
  · rename_i hall
    cases hk
    have hmem : ∀ s, get (del σ.mem kb) s = if kb.contains s then none else get σ.mem s := get_del _ _
    have htm : ∀ t, tget (del σ.tmps kt) t = if kt.contains t then .undef else tget σ.tmps t := fun t => by
      simp only [tget, get_del]
      split <;> rfl
    refine ⟨⟨fun t => ?_, fun t s ht => ?_, fun s b hb => ?_, hF.gnew, hF.ωnew⟩, fun s hs hl => ?_⟩
    · rw [htm]
      split
      · trivial
      · exact hF.tmp t
    · have hno : kb.contains s = false := by
        simp only [tget] at ht
        cases hx : get (del σ.tmps kt) t with
        | none => rw [hx] at ht; cases ht
        | some y =>
          rw [hx] at ht
          have ht' : y.rf = some s := ht
          have := List.all_eq_true.1 hall _ (mem_of_get _ _ _ hx)
          cases y <;> simp [TV.rf] at ht' <;> subst ht' <;> simpa using this
      rw [htm] at ht
      dsimp only
      rw [hmem, hno]
      split at ht
      · cases ht
      · exact hF.live t s ht
    · dsimp only at hb
      rw [hmem] at hb
      split at hb
      · cases hb
      · exact hF.blk s b hb
    · dsimp only
      rw [hmem, if_neg (by simpa using hs)]; exact hl
  · cases hk

theorem FRel.world {w' : World} {tm : Array Value} (hF : FRel w G β ω σ tm) (hh : w'.heap = w.heap) : FRel w' G β ω σ tm := by
  have hx : GExt w G w' G := ⟨fun _ => Nat.le_refl _, fun b off _ => by simp [World.cell?, hh], fun b sh h => (shape_of_block (by rw [hh])).trans h⟩
  have hs : Same (fun _ => False) (fun _ => False) w G β ω w' G β ω := ⟨hx, fun g t h _ => ⟨by rw [hh], rfl, h⟩, fun g t h _ => ⟨by rw [hh], rfl, h⟩, fun g t i h _ => ⟨by rw [hh], rfl, h⟩⟩
  exact ⟨fun t => hF.rest_tmp hs (fun _ _ => rfl) t id, hF.live, fun s b hb => hF.rest_blk hs (fun _ _ => rfl) s id b hb, fun b hb => hF.gnew b (by rw [← hh]; exact hb), fun b hb => by rw [hh]; exact hF.ωnew b hb⟩

def conv : AExit → Exit
  | .normal => .normal
  | .exit id => .exit id
  | .ret => .ret
/-- The blocks of the parameters stay where they are. -/
def PKeep (np : Nat) (σ : Fr) (β : Nat → Nat) (σ' : Fr) (β' : Nat → Nat) : Prop := ∀ s, s < np → get σ.mem s ≠ none → get σ'.mem s ≠ none ∧ β' s = β s
theorem PKeep.refl (np : Nat) (σ : Fr) (β : Nat → Nat) : PKeep np σ β σ β := fun _ _ h => ⟨h, rfl⟩
theorem PKeep.trans {np : Nat} {σ σ' σ'' : Fr} {β β' β'' : Nat → Nat} (h : PKeep np σ β σ' β') (k : PKeep np σ' β' σ'' β'') : PKeep np σ β σ'' β'' := fun s hs hl => by
  obtain ⟨h1, h2⟩ := h s hs hl
  obtain ⟨k1, k2⟩ := k s hs h1
  exact ⟨k1, k2.trans h2⟩

theorem steps_live {C : CallRel} : ∀ {os : List AOp} {σ σ' : Fr}, ASteps C os σ σ' → ∀ s, get σ.mem s ≠ none → get σ'.mem s ≠ none
  | [], _, _, h, s, hs => by cases h; exact hs
  | _ :: _, _, _, ⟨_, h1, h2⟩, s, hs => steps_live h2 s (step_live h1 s hs)

/-- What code ends in. -/
def Concl (np n : Nat) (w : World) (G β : Nat → Nat) (ω : Nat → Option Occ) (σ : Fr) (a : Act) (QA : AExit → Fr → Prop) (QC : Exit → Act → World → Prop) : Prop :=
  ∀ e σ' a' w' G' β' ω', QA e σ' → Reach w G ω w' G' ω' → PKeep np σ β σ' β' → FRel w' G' β' ω' σ' a'.tmps → a'.defers = a.defers → a'.tmps.size = n → QC (conv e) a' w'

def closeL (σ : Fr) : List (Nat × Nat × Nat) → Option Fr
  | [] => some σ
  | (t, d, c) :: r => match closeFr σ t d c with
    | some σ' => closeL σ' r
    | none => none
theorem awp_closes {C : CallRel} : ∀ (cl : List (Nat × Nat × Nat)) (ac : ACode) (Q : AExit → Fr → Prop) (σ : Fr), awp C (closes cl ac) Q σ → awp C ac (fun e σ' => match e with | .normal => ∃ σ'', closeL σ' cl = some σ'' ∧ Q .normal σ'' | e => Q e σ') σ := by
  intro cl
  induction cl with
  | nil =>
    intro ac Q σ h
    have : (fun (e : AExit) (σ' : Fr) => match e with | .normal => ∃ σ'', closeL σ' [] = some σ'' ∧ Q .normal σ'' | e => Q e σ') = Q := by
      funext e σ'
      cases e <;> simp [closeL]
    rw [this]; exact h
  | cons x r ih =>
    obtain ⟨t, d, c⟩ := x
    intro ac Q σ h
    have h' := ih _ _ _ h
    simp only [awp] at h'
    refine Eq.mp (congrArg (fun Q => awp C ac Q σ) ?_) h'
    funext e σ'
    cases e <;> simp [closeL]
    constructor
    · rintro ⟨s2, h1, s3, h2, h3⟩; exact ⟨s3, by rw [h1]; exact h2, h3⟩
    · rintro ⟨s3, h2, h3⟩
      split at h2
      · rename_i s2 h1; exact ⟨s2, h1, s3, h2, h3⟩
      · cases h2
theorem closeL_ok {np : Nat} {tm : Array Value} : ∀ (cl : List (Nat × Nat × Nat)) (ω : Nat → Option Occ) (σ σ' : Fr), FRel w G β ω σ tm → cl.all (fun e => decide (np ≤ e.2.1)) = true → closeL σ cl = some σ' →
    ∃ ω', (∀ b, ω' b ≠ none → ω b ≠ none) ∧ (∀ s, s < np → get σ.mem s ≠ none → get σ'.mem s ≠ none) ∧ FRel w G β ω' σ' tm
  | [], ω, σ, σ', hF, _, h => by cases h; exact ⟨ω, fun _ h => h, fun _ _ h => h, hF⟩
  | (t, d, c) :: r, ω, σ, σ', hF, hnp, h => by
    simp only [closeL] at h
    split at h
    · rename_i σ1 h1
      obtain ⟨ω1, k1, ⟨b1, k2⟩, k3, k4, k5⟩ := close_ok hF h1
      simp only [List.all_cons, Bool.and_eq_true, decide_eq_true_eq] at hnp
      obtain ⟨ω2, m1, m2, m3⟩ := closeL_ok r ω1 σ1 σ' k5 hnp.2 h
      refine ⟨ω2, fun b hb => ?_, fun s hs hl => m2 s hs ?_, m3⟩
      · have := m1 b hb
        by_cases e : b = β d
        · subst e; rw [(hF.blk d _ k2).1]; simp
        · rw [k1 b e] at this; exact this
      · rw [k4, if_neg (by omega)]; exact hl
    · cases h
theorem opens_sound {I : Inv} {np n : Nat} {C : CallRel} {QC : Exit → Act → World → Prop} : ∀ (l : List (Nat × Nat × Nat)) (ac : ACode) (QA : AExit → Fr → Prop) (β : Nat → Nat) (ω : Nat → Option Occ) (σ : Fr), awp C (opens l ac) QA σ → FRel w G β ω σ a.tmps → I.on w ω → Concl np n w G β ω σ a QA QC →
    ∃ σ0 β0 ω0, awp C ac QA σ0 ∧ FRel w G β0 ω0 σ0 a.tmps ∧ I.on w ω0 ∧ Concl np n w G β0 ω0 σ0 a QA QC
  | [], ac, QA, β, ω, σ, h, hF, hI, hK => ⟨σ, β, ω, h, hF, hI, hK⟩
  | (t, d, c) :: r, ac, QA, β, ω, σ, h, hF, hI, hK => by
    obtain ⟨σ1, h1, h2⟩ := h
    obtain ⟨β1, ω1, k1, k2, hF1⟩ := open_ok hF h1
    refine opens_sound r ac QA β1 ω1 σ1 h2 hF1 (I.down hI k1) ?_
    intro e σ' a' w' G' β' ω' hq hr hp hF' hd hs
    refine hK e σ' a' w' G' β' ω' hq ⟨⟨hr.1.os, hr.1.tape, hr.1.output, hr.1.size, hr.1.ext, fun b hb hT => hr.1.block b hb (fun h => hT (k1 b h))⟩, fun b hb => ?_⟩ (fun s hs hl => ?_) hF' hd hs
    · rcases hr.2 b hb with h | h
      · exact .inl (k1 b h)
      · exact .inr h
    · obtain ⟨j1, j2⟩ := k2 s hl
      obtain ⟨i1, i2⟩ := hp s hs j2
      exact ⟨i1, i2.trans j1⟩
theorem code_sound {I : Inv} {np n : Nat} {H : Hints} (hm : P.follows .mixedOrders = true) : ∀ (c : Code) (ac : ACode), cCode P n np H c = some ac → ∀ (QA : AExit → Fr → Prop) (QC : Exit → Act → World → Prop) (w : World) (G β : Nat → Nat) (ω : Nat → Option Occ) (σ : Fr) (a : Act),
    awp (ACallI I P) ac QA σ → FRel w G β ω σ a.tmps → I.on w ω → a.tmps.size = n → Concl np n w G β ω σ a QA QC → c.wp P QC a w := by
  intro c
  induction c with
  | skip =>
    intro ac hc QA QC w G β ω σ a h hF hI hn hK
    cases hc
    exact wp_skip (hK .normal σ a w G β ω h (.refl _ _ _) (.refl _ _ _) hF rfl hn)
  | region id ops draw =>
    intro ac hc QA QC w G β ω σ a h hF hI hn hK
    simp only [cCode] at hc
    split at hc
    · rename_i as has
      split at hc
      · rename_i hcond
        obtain ⟨⟨hok, hkb, hcl⟩, hdr⟩ := hcond
        cases hc
        obtain ⟨σ, β, ω, h, hF, hI, hK⟩ := opens_sound (I := I) _ _ _ _ _ _ h hF hI hK
        obtain ⟨σ1, σ2, h1, h2, σ3, h2c, h3⟩ := awp_closes _ _ _ _ h
        have hsz : ∀ o ∈ as, ∀ d ∈ o.wrs, d < a.tmps.size := fun o ho d hd => by
          simp only [opsOk, List.all_eq_true, decide_eq_true_eq] at hok
          rw [hn]; exact hok o ho d hd
        have fin : ∀ a0 : Act, a0 = a → ∀ w0 : World, w0.heap = w.heap → w0.os = w.os → w0.tape = w.tape → w0.output = w.output → Ends w0 G β ω a σ σ1 QC := by
          intro a0 _ w0 hh ho ht hout a' w' G' β' ω' hr hb hF' hd hs
          obtain ⟨hF2, hl2⟩ := kill_sound hF' h2
          obtain ⟨ω3, c1, c2, hF3⟩ := closeL_ok (np := np) _ _ _ _ hF2 hcl h2c
          refine hK .normal σ3 a' w' G' β' ω3 h3 ?_ (fun s hs hl => ?_) hF3 hd (by rw [hs, hn])
          · refine ⟨⟨hr.1.os.trans ho, hr.1.tape.trans ht, hr.1.output.trans hout, by rw [← hh]; exact hr.1.size, ⟨hr.1.ext.le, fun b off hlt => ?_, fun b sh hsh => ?_⟩, fun b hb hT => ?_⟩, fun b hb => ?_⟩
            · rw [hr.1.ext.cell b off hlt]; simp [World.cell?, hh]
            · exact hr.1.ext.shape b sh ((shape_of_block (by rw [hh])).trans hsh)
            · obtain ⟨k1, k2⟩ := hr.1.block b (by rw [hh]; exact hb) hT
              exact ⟨by rw [k1, hh], k2⟩
            · rw [← hh]; exact hr.2 b (c1 b hb)
          · refine ⟨c2 s hs (hl2 s (fun hmem => ?_) (steps_live h1 s hl)), hb s hl⟩
            have := List.all_eq_true.1 hkb s hmem
            simp at this
            omega
        cases draw with
        | false =>
          refine wp_region ?_
          have hlen := (cOps_get ops.toList 0 as has).1
          have := region_ordered (Q := QC) has as.length 0 (by omega) w G β ω σ σ1 a hF hI hsz (by simpa using h1) (fin a rfl w rfl rfl rfl rfl)
          rw [List.range_eq_range']
          rw [hlen] at this
          simpa using this
        | true =>
          have hdr' : drawOk ops as = true := by simpa using hdr
          refine wp_region_any hm ?_
          have hrem : remF (Array.replicate ops.size false) 0 as = as := by
            have : ∀ (l : List AOp) (k : Nat), k + l.length ≤ ops.size → remF (Array.replicate ops.size false) k l = l := by
              intro l
              induction l with
              | nil => intro k _; rfl
              | cons x l ih =>
                intro k hk
                simp at hk
                have : (Array.replicate ops.size false).getD k true = false := by simp [Array.getD_eq_getD_getElem?, show k < ops.size by omega]
                simp only [remF, this, Bool.false_eq_true, if_false]
                rw [ih (k + 1) (by omega)]
            exact this as 0 (by have := (cOps_get ops.toList 0 as has).1; simp at this; omega)
          refine region_drawn has hdr' ops.size _ _ G β ω σ σ1 a (by simp) (fun m o ho hl => ?_) (by rw [hrem]; have := (cOps_get ops.toList 0 as has).1; simp at this; omega) (hF.world rfl) (I.heap hI rfl) hsz (by rw [hrem]; exact h1) (fin a rfl _ rfl rfl rfl rfl)
          have hmlt := (Array.getElem?_eq_some_iff.1 ho).1
          simp [Array.getD_eq_getD_getElem?, hmlt] at hl
      · cases hc
    · cases hc
  | seq x y ihx ihy =>
    intro ac hc QA QC w G β ω σ a h hF hI hn hK
    simp only [cCode] at hc
    split at hc
    · rename_i ax ay hx hy
      cases hc
      refine wp_seq (ihx ax hx _ _ w G β ω σ a h hF hI hn ?_)
      intro e σ1 a1 w1 G1 β1 ω1 hq hr hp hF1 hd hs
      cases e with
      | normal =>
        refine ihy ay hy QA QC w1 G1 β1 ω1 σ1 a1 hq hF1 (I.reach hI hr) hs ?_
        intro e σ2 a2 w2 G2 β2 ω2 hq2 hr2 hp2 hF2 hd2 hs2
        exact hK e σ2 a2 w2 G2 β2 ω2 hq2 (hr.trans hr2) (hp.trans hp2) hF2 (hd2.trans hd) hs2
      | exit id => exact hK (.exit id) σ1 a1 w1 G1 β1 ω1 hq hr hp hF1 hd hs
      | ret => exact hK .ret σ1 a1 w1 G1 β1 ω1 hq hr hp hF1 hd hs
    · cases hc
  | cond cnd x y ihx ihy =>
    intro ac hc QA QC w G β ω σ a h hF hI hn hK
    simp only [cCode] at hc
    split at hc
    · rename_i c' ax ay hcnd hx hy
      cases hc
      simp only [awp] at h
      split at h
      · rename_i hb
        exact wp_cond_true (Rep.bool_inv ((cOpnd_ok hcnd).val hF hb)) (ihx ax hx QA QC w G β ω σ a h hF hI hn hK)
      · rename_i hb
        exact wp_cond_false (Rep.bool_inv ((cOpnd_ok hcnd).val hF hb)) (ihy ay hy QA QC w G β ω σ a h hF hI hn hK)
      · rename_i hb
        have h0 := (cOpnd_ok hcnd).trep hF
        rw [hb] at h0
        obtain ⟨b, hb'⟩ := h0
        cases b with
        | true => exact wp_cond_true hb' (ihx ax hx QA QC w G β ω σ a h.1 hF hI hn hK)
        | false => exact wp_cond_false hb' (ihy ay hy QA QC w G β ω σ a h.2 hF hI hn hK)
      · exact h.elim
    · cases hc
  | block id x ih =>
    intro ac hc QA QC w G β ω σ a h hF hI hn hK
    simp only [cCode] at hc
    split at hc
    · rename_i ax hx
      split at hc
      · cases hc
        refine wp_block (ih ax hx _ _ w G β ω σ a h hF hI hn ?_)
        intro e σ1 a1 w1 G1 β1 ω1 hq hr hp hF1 hd hs
        cases e with
        | normal => exact hK .normal σ1 a1 w1 G1 β1 ω1 hq hr hp hF1 hd hs
        | exit i =>
          simp only [conv, Exit.inBlock]
          split
          · rename_i e
            simp only [e, if_true] at hq
            exact hK .normal σ1 a1 w1 G1 β1 ω1 hq hr hp hF1 hd hs
          · rename_i e
            simp only [e, if_false] at hq
            exact hK (.exit i) σ1 a1 w1 G1 β1 ω1 hq hr hp hF1 hd hs
        | ret => exact hK .ret σ1 a1 w1 G1 β1 ω1 hq hr hp hF1 hd hs
      · split at hc
        · rename_i hkb
          cases hc
          have after : ∀ (σ1 : Fr) (a1 : Act) (w1 : World) (G1 β1 : Nat → Nat) (ω1 : Nat → Option Occ), awp (ACallI I P) (.reg [] (hintOf H (1000000 + id)).kt (hintOf H (1000000 + id)).kb) QA σ1 → Reach w G ω w1 G1 ω1 → PKeep np σ β σ1 β1 → FRel w1 G1 β1 ω1 σ1 a1.tmps → a1.defers = a.defers → a1.tmps.size = n → QC .normal a1 w1 := by
            intro σ1 a1 w1 G1 β1 ω1 hq hr hp hF1 hd hs
            obtain ⟨s1, s2, h1, h2, h3⟩ := hq
            cases h1
            obtain ⟨hF2, hl2⟩ := kill_sound hF1 h2
            refine hK .normal s2 a1 w1 G1 β1 ω1 h3 hr (fun s hs hl => ?_) hF2 hd hs
            obtain ⟨k1, k2⟩ := hp s hs hl
            refine ⟨hl2 s (fun hmem => ?_) k1, k2⟩
            have := List.all_eq_true.1 hkb s hmem
            simp at this
            omega
          refine wp_block (ih ax hx _ _ w G β ω σ a h hF hI hn ?_)
          intro e σ1 a1 w1 G1 β1 ω1 hq hr hp hF1 hd hs
          cases e with
          | normal => exact after σ1 a1 w1 G1 β1 ω1 hq hr hp hF1 hd hs
          | exit i =>
            simp only [conv, Exit.inBlock]
            split
            · rename_i e
              simp only [e, if_true] at hq
              exact after σ1 a1 w1 G1 β1 ω1 hq hr hp hF1 hd hs
            · rename_i e
              simp only [e, if_false] at hq
              exact hK (.exit i) σ1 a1 w1 G1 β1 ω1 hq hr hp hF1 hd hs
          | ret => exact hK .ret σ1 a1 w1 G1 β1 ω1 hq hr hp hF1 hd hs
        · cases hc
    · cases hc
  | loop x ih =>
    intro ac hc QA QC w G β ω σ a h hF hI hn hK
    simp only [cCode] at hc
    split at hc
    · rename_i ax hx
      cases hc
      obtain ⟨k, hk⟩ := h
      have key : ∀ (k : Nat) (w1 : World) (G1 β1 : Nat → Nat) (ω1 : Nat → Option Occ) (σ1 : Fr) (a1 : Act), iterA (awp (ACallI I P) ax) QA k σ1 → FRel w1 G1 β1 ω1 σ1 a1.tmps → I.on w1 ω1 → a1.tmps.size = n → Concl np n w1 G1 β1 ω1 σ1 a1 QA QC →
          ∀ (b : Frame) (kk : List Item) (cs : List Frame), ∃ e a' w', QC e a' w' ∧ Arrives P (lone (b.at a1 (.code x :: .inLoop x :: kk)) cs w1) b kk cs e a' w' := by
        intro k
        induction k with
        | zero => intro w1 G1 β1 ω1 σ1 a1 h _ _ _ _; exact h.elim
        | succ k ihk =>
          intro w1 G1 β1 ω1 σ1 a1 h hF1 hI1 hn1 hK1 b kk cs
          have hbody := ih ax hx _ (Exit.then (fun a' w' => ∀ (b : Frame) (kk : List Item) (cs : List Frame), ∃ e a'' w'', QC e a'' w'' ∧ Arrives P (lone (b.at a' (.code x :: .inLoop x :: kk)) cs w') b kk cs e a'' w'') QC) w1 G1 β1 ω1 σ1 a1 h hF1 hI1 hn1 (by
            intro e σ2 a2 w2 G2 β2 ω2 hq hr hp hF2 hd hs
            cases e with
            | normal =>
              refine ihk w2 G2 β2 ω2 σ2 a2 hq hF2 (I.reach hI1 hr) hs ?_
              intro e σ3 a3 w3 G3 β3 ω3 hq3 hr3 hp3 hF3 hd3 hs3
              exact hK1 e σ3 a3 w3 G3 β3 ω3 hq3 (hr.trans hr3) (hp.trans hp3) hF3 (hd3.trans hd) hs3
            | exit id => exact hK1 (.exit id) σ2 a2 w2 G2 β2 ω2 hq hr hp hF2 hd hs
            | ret => exact hK1 .ret σ2 a2 w2 G2 β2 ω2 hq hr hp hF2 hd hs)
          obtain ⟨e, a₁, w₁, hq, harr⟩ := hbody b (.inLoop x :: kk) cs
          cases e with
          | normal =>
            obtain ⟨e₂, a₂, w₂, hq₂, harr₂⟩ := hq b kk cs
            exact ⟨e₂, a₂, w₂, hq₂, .of_steps (Steps.trans harr (.one step_inLoop)) harr₂⟩
          | exit id => exact ⟨_, a₁, w₁, hq, .pass (x := .inLoop x) rfl (fun _ _ => .inl (by simp)) harr⟩
          | goto l => exact ⟨_, a₁, w₁, hq, .pass (x := .inLoop x) rfl (fun _ _ => .inl (by simp)) harr⟩
          | ret => exact ⟨_, a₁, w₁, hq, .pass (x := .inLoop x) rfl (fun _ _ => .inl (by simp)) harr⟩
          | panic ch => exact ⟨_, a₁, w₁, hq, .pass (x := .inLoop x) rfl (fun _ _ => .inl (by simp)) harr⟩
          | outgrown => exact ⟨_, a₁, w₁, hq, .pass (x := .inLoop x) rfl (fun _ _ => .inl (by simp)) harr⟩
      intro b kk cs
      obtain ⟨e, a', w', hq, harr⟩ := key k w G β ω σ a hk hF hI hn hK b kk cs
      exact ⟨e, a', w', hq, .of_steps (.one step_loop) harr⟩
    · cases hc
  | exit id =>
    intro ac hc QA QC w G β ω σ a h hF hI hn hK
    cases hc
    exact wp_exit (hK (.exit id) σ a w G β ω h (.refl _ _ _) (.refl _ _ _) hF rfl hn)
  | ret =>
    intro ac hc QA QC w G β ω σ a h hF hI hn hK
    cases hc
    exact wp_ret (hK .ret σ a w G β ω h (.refl _ _ _) (.refl _ _ _) hF rfl hn)
  | rangeFunc f p asg b _ _ => intro ac hc; simp [cCode] at hc
  | scope b _ => intro ac hc; simp [cCode] at hc
  | label l => intro ac hc; simp [cCode] at hc
  | goto l => intro ac hc; simp [cCode] at hc
  | refuse y => intro ac hc; simp [cCode] at hc
end
end Go.AR
