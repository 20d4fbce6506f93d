import Derived.Test.YtlhahjlnhkokcaaG22
set_option linter.all false
/-! Calls: a function that gives what the abstract machine says; and an operation that calls it. -/
namespace Go.AR
open Go

def ArgsRep (w : World) (G β : Nat → Nat) (ω : Nat → Option Occ) : Nat → List Arg → List Value → Prop
  | _, [], [] => True
  | i, .v p :: as, v :: vs => Rep w G p v ∧ ArgsRep w G β ω (i + 1) as vs
  | i, .x c rows :: as, v :: vs => ORepX w G ω (.tmp i) c rows v ∧ ArgsRep w G β ω (i + 1) as vs
  | i, .r b :: as, v :: vs => (v = .pointer (some ⟨β i, 0, none⟩) ∧ ω (β i) = some (.blk i) ∧ BRep w G ω (β i) i b) ∧ ArgsRep w G β ω (i + 1) as vs
  | _, _, _ => False
def OutsRep (w : World) (G β : Nat → Nat) (ω : Nat → Option Occ) : Nat → List Arg → List Blk → Prop
  | _, [], [] => True
  | i, .v _ :: as, bs => OutsRep w G β ω (i + 1) as bs
  | i, .x _ _ :: as, bs => OutsRep w G β ω (i + 1) as bs
  | i, .r _ :: as, b :: bs => (ω (β i) = some (.blk i) ∧ BRep w G ω (β i) i b) ∧ OutsRep w G β ω (i + 1) as bs
  | _, _, _ => False
def RVRep (w : World) (G : Nat → Nat) (ω : Nat → Option Occ) (n : Nat) : RV → Value → Prop
  | .val p, v => Rep w G p v
  | .own c r, v => ORep w G ω (.tmp n) c r v
  | .exc c r, v => ORepX w G ω (.tmp n) c r v
  | .new b, v => ∃ bb, v = .pointer (some ⟨bb, 0, none⟩) ∧ ω bb = some (.blk n) ∧ BRep w G ω bb n b
  | .newm b, v => ∃ bb, v = .map (some bb) ∧ ω bb = some (.blk n) ∧ BRep w G ω bb n b

/-- Function f, called with these, gives this. -/
def ACall (P : Program) : CallRel := fun f as rv outs =>
  (∀ (va : Array Value) (w : World), (callFunc f va).run P w = .ok (.enter f va) w) ∧
  ∀ (w : World) (G β : Nat → Nat) (ω : Nat → Option Occ) (va : List Value), (∀ b, w.heap.size ≤ b → G b = 0) → (∀ b, ω b ≠ none → b < w.heap.size) → ArgsRep w G β ω 0 as va →
    Calls P f va.toArray w fun e w' => ∃ v G' ω', e = .returned v ∧ Evo (fun b => ω b ≠ none) w G w' G' ∧ (∀ b, w'.heap.size ≤ b → G' b = 0) ∧ (∀ b, ω' b ≠ none → b < w'.heap.size) ∧
      (∀ b, ω' b ≠ none → ω b ≠ none ∨ w.heap.size ≤ b) ∧ OutsRep w' G' β ω' 0 as outs ∧ RVRep w' G' ω' as.length rv v

/-- What of the memory is known all along: of blocks that no frame owns. -/
structure Inv where
  on : World → (Nat → Option Occ) → Prop
  keep : ∀ {w : World} {G : Nat → Nat} {ω : Nat → Option Occ} {w' : World} {G' : Nat → Nat} {ω' : Nat → Option Occ}, on w ω → Evo (fun b => ω b ≠ none) w G w' G' → (∀ b, ω' b ≠ none → ω b ≠ none ∨ w.heap.size ≤ b) → on w' ω'
  heap : ∀ {w : World} {ω : Nat → Option Occ} {w' : World}, on w ω → w'.heap = w.heap → on w' ω
/-- Nothing is known. -/
def Inv.no : Inv := ⟨fun _ _ => True, fun _ _ _ => trivial, fun _ _ => trivial⟩
theorem Inv.down (I : Inv) {w : World} {ω ω' : Nat → Option Occ} (h : I.on w ω) (hd : ∀ b, ω' b ≠ none → ω b ≠ none) : I.on w ω' := I.keep h (.refl _ w (fun _ => 0)) (fun b hb => .inl (hd b hb))
/-- Function f, called with these, gives this, wherever that is known. -/
def ACallI (I : Inv) (P : Program) : CallRel := fun f as rv outs =>
  (∀ (va : Array Value) (w : World), (callFunc f va).run P w = .ok (.enter f va) w) ∧
  ∀ (w : World) (G β : Nat → Nat) (ω : Nat → Option Occ) (va : List Value), (∀ b, w.heap.size ≤ b → G b = 0) → (∀ b, ω b ≠ none → b < w.heap.size) → ArgsRep w G β ω 0 as va → I.on w ω →
    Calls P f va.toArray w fun e w' => ∃ v G' ω', e = .returned v ∧ Evo (fun b => ω b ≠ none) w G w' G' ∧ (∀ b, w'.heap.size ≤ b → G' b = 0) ∧ (∀ b, ω' b ≠ none → b < w'.heap.size) ∧
      (∀ b, ω' b ≠ none → ω b ≠ none ∨ w.heap.size ≤ b) ∧ OutsRep w' G' β ω' 0 as outs ∧ RVRep w' G' ω' as.length rv v
theorem ACall.inv {I : Inv} {P : Program} {f : FuncId} {as : List Arg} {rv : RV} {outs : List Blk} (h : ACall P f as rv outs) : ACallI I P f as rv outs := ⟨h.1, fun w G β ω va h1 h2 h3 _ => h.2 w G β ω va h1 h2 h3⟩
theorem ACallI.plain {P : Program} {f : FuncId} {as : List Arg} {rv : RV} {outs : List Blk} (h : ACallI .no P f as rv outs) : ACall P f as rv outs := ⟨h.1, fun w G β ω va h1 h2 h3 => h.2 w G β ω va h1 h2 h3 trivial⟩

theorem ACall_eq (P : Program) : ACall P = ACallI .no P := by
  funext f as rv outs
  exact propext ⟨ACall.inv, ACallI.plain⟩

/-- One operation, whatever comes behind it. -/
def OpWp (P : Program) (w : World) (G : Nat → Nat) (ω : Nat → Option Occ) (β : Nat → Nat) (a : Act) (o : Oper) (σ σ' : Fr) : Prop :=
  ∀ (K : Act → World → Prop) (Q : Exit → Act → World → Prop),
    (∀ v w' G' β' ω', Evo (fun b => ω b ≠ none) w G w' G' → (∀ b, ω' b ≠ none → ω b ≠ none ∨ w.heap.size ≤ b) → (∀ s, get σ.mem s ≠ none → β' s = β s) → FRel w' G' β' ω' σ' (a.put o.dst v).tmps → K (a.put o.dst v) w') → o.wp P a w K Q

section
variable {P : Program} {w : World} {G β : Nat → Nat} {ω : Nat → Option Occ} {σ σ' : Fr} {a : Act} {o : Oper} {h : Hint} {gs : Option (Nat × Bool)} {ao : AOp}

theorem StepOk.opWp (hs : StepOk P w G ω β a o σ σ') : OpWp P w G ω β a o σ σ' := by
  intro K Q hK
  obtain ⟨nx, v, w', G', β', ω', hr, hnx, he, hd, hb, hF⟩ := hs
  unfold Oper.wp
  rw [hr]
  rcases hnx with rfl | ⟨rfl, rfl⟩
  · exact hK v w' G' β' ω' he hd hb hF
  · exact hK undef w' G' β' ω' he hd hb hF

/-- The caller's blocks, as the callee knows them. -/
def pidx : List TV → Nat → Nat → Option Nat
  | [], _, _ => none
  | v :: vs, i, s => match v with
    | .lp s' _ => if s' = s then some i else pidx vs (i + 1) s
    | _ => pidx vs (i + 1) s
def slotOf (V : List TV) (i : Nat) : Option Nat := match V[i]? with
  | some (.lp s _) => some s
  | _ => none
def downω (V : List TV) (R : Nat → Option Nat) (ω : Nat → Option Occ) : Nat → Option Occ := fun b => match ω b with
  | some (.blk s) => (pidx V 0 s).map .blk
  | some (.cell s i) => (pidx V 0 s).map fun k => .cell k i
  | some (.tmp t) => (R t).map .tmp
  | none => none
def downβ (V : List TV) (β : Nat → Nat) : Nat → Nat := fun i => match slotOf V i with
  | some s => β s
  | none => 0
def upω (V : List TV) (d : Nat) (ωd ω ω' : Nat → Option Occ) : Nat → Option Occ := fun b => match ω' b with
  | some (.blk i) => if i < V.length then (slotOf V i).map .blk else some (.blk d)
  | some (.cell i j) => if i < V.length then (slotOf V i).map fun s => .cell s j else some (.cell d j)
  | some (.tmp _) => some (.tmp d)
  | none => if ωd b = none then ω b else none

theorem pidx_slot : ∀ (V : List TV) (k s i : Nat), pidx V k s = some i → k ≤ i ∧ slotOf V (i - k) = some s
  | [], k, s, i, h => by simp [pidx] at h
  | v :: V, k, s, i, h => by
    have rec' : pidx V (k + 1) s = some i → k ≤ i ∧ slotOf (v :: V) (i - k) = some s := fun h => by
      obtain ⟨h1, h2⟩ := pidx_slot V (k + 1) s i h
      refine ⟨by omega, ?_⟩
      unfold slotOf at h2 ⊢
      rw [show i - k = (i - (k + 1)) + 1 by omega]
      simpa using h2
    cases v with
    | lp s' off =>
      simp only [pidx] at h
      split at h
      · rename_i e
        cases h
        exact ⟨Nat.le_refl _, by simp [slotOf, e]⟩
      · exact rec' h
    | _ => exact rec' h

/-- The slots that are handed over, in their order. -/
def slots : List TV → List Nat
  | [] => []
  | .lp s _ :: V => s :: slots V
  | _ :: V => slots V
theorem mkArgs_slots : ∀ {mem : List (Nat × Blk)} {V : List TV} {ss : List Nat} {as : List Arg}, mkArgsX mem V ss = some as → slots V = ss ∧ as.length = V.length := by
  intro mem V
  induction V with
  | nil =>
    intro ss as h
    cases ss <;> simp [mkArgsX] at h
    subst h; exact ⟨rfl, rfl⟩
  | cons v V ih =>
    intro ss as h
    cases v with
    | lp s off =>
      cases off with
      | zero =>
        cases ss with
        | nil => simp [mkArgsX] at h
        | cons s' ss =>
          simp only [mkArgsX] at h
          split at h
          · rename_i e; subst e
            split at h
            · rename_i b as' hb has
              cases h
              obtain ⟨h1, h2⟩ := ih has
              exact ⟨by simp [slots, h1], by simp [h2]⟩
            · cases h
          · cases h
      | succ n => cases ss <;> simp [mkArgsX] at h
    | val p =>
      simp only [mkArgsX] at h
      split at h
      · rename_i as' has
        cases h
        obtain ⟨h1, h2⟩ := ih has
        exact ⟨by simp [slots, h1], by simp [h2]⟩
      · cases h
    | ownE e1 c r =>
      simp only [mkArgsX] at h
      split at h
      · rename_i as' has
        cases h
        obtain ⟨h1, h2⟩ := ih has
        exact ⟨by simp [slots, h1], by simp [h2]⟩
      · cases h
    | exc c r =>
      simp only [mkArgsX] at h
      split at h
      · rename_i as' has
        cases h
        obtain ⟨h1, h2⟩ := ih has
        exact ⟨by simp [slots, h1], by simp [h2]⟩
      · cases h
    | xs _ _ _ => cases ss <;> simp [mkArgsX] at h
    | anyb => cases ss <;> simp [mkArgsX] at h
    | mp _ => cases ss <;> simp [mkArgsX] at h
    | tag _ _ => cases ss <;> simp [mkArgsX] at h
    | rp _ _ => cases ss <;> simp [mkArgsX] at h
    | self => cases ss <;> simp [mkArgsX] at h
    | undef => cases ss <;> simp [mkArgsX] at h
theorem pidx_at : ∀ (V : List TV) (k i s : Nat), (slots V).Nodup → slotOf V i = some s → pidx V k s = some (k + i)
  | [], k, i, s, _, h => by simp [slotOf] at h
  | v :: V, k, i, s, hn, h => by
    cases i with
    | zero =>
      cases v with
      | lp s' off => simp [slotOf] at h; subst h; simp [pidx]
      | _ => simp [slotOf] at h
    | succ i =>
      have h' : slotOf V i = some s := by simpa [slotOf] using h
      cases v with
      | lp s' off =>
        simp only [slots, List.nodup_cons] at hn
        have hmem : ∀ (V : List TV) (i : Nat), slotOf V i = some s → s ∈ slots V := by
          intro V
          induction V with
          | nil => intro i h; simp [slotOf] at h
          | cons v V ih =>
            intro i h
            cases i with
            | zero => cases v <;> simp [slotOf] at h; subst h; simp [slots]
            | succ i =>
              have := ih i (by simpa [slotOf] using h)
              cases v <;> simp [slots, this]
        have hne : s' ≠ s := fun e => hn.1 (e ▸ hmem V i h')
        simp only [pidx, if_neg hne]
        rw [pidx_at V (k + 1) i s hn.2 h']
        congr 1; omega
      | val p => simp only [slots] at hn; simp only [pidx]; rw [pidx_at V (k + 1) i s hn h']; congr 1; omega
      | ownE e1 c r => simp only [slots] at hn; simp only [pidx]; rw [pidx_at V (k + 1) i s hn h']; congr 1; omega
      | rp c r => simp only [slots] at hn; simp only [pidx]; rw [pidx_at V (k + 1) i s hn h']; congr 1; omega
      | self => simp only [slots] at hn; simp only [pidx]; rw [pidx_at V (k + 1) i s hn h']; congr 1; omega
      | undef => simp only [slots] at hn; simp only [pidx]; rw [pidx_at V (k + 1) i s hn h']; congr 1; omega
      | exc c r => simp only [slots] at hn; simp only [pidx]; rw [pidx_at V (k + 1) i s hn h']; congr 1; omega
      | xs _ _ _ => simp only [slots] at hn; simp only [pidx]; rw [pidx_at V (k + 1) i s hn h']; congr 1; omega
      | anyb => simp only [slots] at hn; simp only [pidx]; rw [pidx_at V (k + 1) i s hn h']; congr 1; omega
      | mp _ => simp only [slots] at hn; simp only [pidx]; rw [pidx_at V (k + 1) i s hn h']; congr 1; omega
      | tag _ _ => simp only [slots] at hn; simp only [pidx]; rw [pidx_at V (k + 1) i s hn h']; congr 1; omega

theorem downω_blk {V : List TV} {R : Nat → Option Nat} (hn : (slots V).Nodup) {i s b : Nat} (hi : slotOf V i = some s) (hb : ω b = some (.blk s)) : downω V R ω b = some (.blk i) := by
  simp [downω, hb, pidx_at V 0 i s hn hi]
theorem downω_cell {V : List TV} {R : Nat → Option Nat} (hn : (slots V).Nodup) {i s b j : Nat} (hi : slotOf V i = some s) (hb : ω b = some (.cell s j)) : downω V R ω b = some (.cell i j) := by
  simp [downω, hb, pidx_at V 0 i s hn hi]

theorem argsRep_of {R : Nat → Option Nat} (hF : FRel w G β ω σ a.tmps) (V : List TV) (hn : (slots V).Nodup) :
    ∀ (vs pre : List TV) (ss : List Nat) (as : List Arg) (va : List Value), V = pre ++ vs → mkArgsX σ.mem vs ss = some as → va.length = vs.length →
      (∀ (i : Nat) (x : TV) (v : Value), vs[i]? = some x → va[i]? = some v → ∃ occ, TRep w G β ω occ x v ∧ ((∃ c r, x = .exc c r) → ∃ t, occ = .tmp t ∧ R t = some (pre.length + i))) → ArgsRep w G (downβ V β) (downω V R ω) pre.length as va := by
  intro vs
  induction vs with
  | nil =>
    intro pre ss as va hV hm hl _
    cases ss <;> simp [mkArgsX] at hm
    subst hm
    cases va <;> simp at hl
    trivial
  | cons x vs ih =>
    intro pre ss as va hV hm hl hr
    cases va with
    | nil => simp at hl
    | cons v va =>
      obtain ⟨occ, hx, hxo⟩ := hr 0 x v rfl rfl
      have hV' : V = (pre ++ [x]) ++ vs := by simp [hV]
      have next : ∀ {ss' as'}, mkArgsX σ.mem vs ss' = some as' → ArgsRep w G (downβ V β) (downω V R ω) (pre.length + 1) as' va := fun hm' => by
        have := ih (pre ++ [x]) _ _ va hV' hm' (by simpa using hl) (fun i y u hy hu => by
          have := hr (i + 1) y u (by simpa using hy) (by simpa using hu)
          rw [show (pre ++ [x]).length + i = pre.length + (i + 1) by simp; omega]
          exact this)
        simpa using this
      cases x with
      | lp s off =>
        cases off with
        | succ n => cases ss <;> simp [mkArgsX] at hm
        | zero =>
          cases ss with
          | nil => simp [mkArgsX] at hm
          | cons s' ss =>
            simp only [mkArgsX] at hm
            split at hm
            · rename_i e; subst e
              split at hm
              · rename_i b as' hb has
                cases hm
                have hso : slotOf V pre.length = some s := by simp [slotOf, hV]
                have hβ : downβ V β pre.length = β s := by simp [downβ, hso]
                obtain ⟨h1, h2⟩ := hF.blk s b hb
                refine ⟨⟨by rw [hβ]; exact hx, by rw [hβ]; exact downω_blk hn hso h1, ?_⟩, next has⟩
                rw [hβ]
                exact h2.mono (.refl _ _) rfl rfl (fun g j hg => ⟨rfl, rfl, downω_cell hn hso hg⟩)
              · cases hm
            · cases hm
      | val p =>
        simp only [mkArgsX] at hm
        split at hm
        · rename_i as' has
          cases hm
          exact ⟨hx, next has⟩
        · cases hm
      | ownE e1 c r =>
        simp only [mkArgsX] at hm
        split at hm
        · rename_i as' has
          cases hm
          exact ⟨ORepE.rep hx, next has⟩
        · cases hm
      | exc c r =>
        simp only [mkArgsX] at hm
        split at hm
        · rename_i as' has
          cases hm
          obtain ⟨t, rfl, hRt⟩ := hxo ⟨c, r, rfl⟩
          exact ⟨ORepX.mono hx (.refl _ _) (fun g hg => ⟨rfl, rfl, by simp [downω, hg, hRt]⟩), next has⟩
        · cases hm
      | xs _ _ _ => cases ss <;> simp [mkArgsX] at hm
      | anyb => cases ss <;> simp [mkArgsX] at hm
      | mp _ => cases ss <;> simp [mkArgsX] at hm
      | tag _ _ => cases ss <;> simp [mkArgsX] at hm
      | rp _ _ => cases ss <;> simp [mkArgsX] at hm
      | self => cases ss <;> simp [mkArgsX] at hm
      | undef => cases ss <;> simp [mkArgsX] at hm

theorem get_setAll_ne {α : Type} : ∀ (m : List (Nat × α)) (is : List Nat) (bs : List α) (s : Nat), s ∉ is → get (setAll m is bs) s = get m s
  | m, [], _, _, _ => rfl
  | m, i :: is, [], _, _ => rfl
  | m, i :: is, b :: bs, s, h => by
    simp only [setAll]
    rw [get_setAll_ne _ is bs s (fun hh => h (by simp [hh])), get_set, if_neg (fun e => h (by simp [e]))]

theorem outs_back {R : Nat → Option Nat} {w' : World} {G' : Nat → Nat} {ω' : Nat → Option Occ} {V : List TV} {d : Nat} (hω : ∀ g i s, slotOf V i = some s → i < V.length → (ω' g = some (.blk i) → upω V d (downω V R ω) ω ω' g = some (.blk s)) ∧ ∀ j, ω' g = some (.cell i j) → upω V d (downω V R ω) ω ω' g = some (.cell s j)) :
    ∀ (vs pre : List TV) (ss : List Nat) (as : List Arg) (outs : List Blk) (m : List (Nat × Blk)), V = pre ++ vs → ss.Nodup → mkArgsX σ.mem vs ss = some as → OutsRep w' G' (downβ V β) ω' pre.length as outs →
      outs.length = ss.length ∧ ∀ s ∈ ss, ∀ b, get (setAll m ss outs) s = some b → upω V d (downω V R ω) ω ω' (β s) = some (.blk s) ∧ BRep w' G' (upω V d (downω V R ω) ω ω') (β s) s b := by
  intro vs
  induction vs with
  | nil =>
    intro pre ss as outs m hV hn hm ho
    cases ss <;> simp [mkArgsX] at hm
    subst hm
    cases outs <;> simp [OutsRep] at ho
    simp
  | cons x vs ih =>
    intro pre ss as outs m hV hn hm ho
    have hV' : V = (pre ++ [x]) ++ vs := by simp [hV]
    cases x with
    | lp s off =>
      cases off with
      | succ n => cases ss <;> simp [mkArgsX] at hm
      | zero =>
        cases ss with
        | nil => simp [mkArgsX] at hm
        | cons s' ss =>
          simp only [mkArgsX] at hm
          split at hm
          · rename_i e; subst e
            split at hm
            · rename_i b as' hb has
              cases hm
              cases outs with
              | nil => simp [OutsRep] at ho
              | cons b' outs =>
                simp only [OutsRep] at ho
                obtain ⟨⟨h1, h2⟩, ho⟩ := ho
                simp only [List.nodup_cons] at hn
                obtain ⟨k1, k2⟩ := ih (pre ++ [.lp s 0]) ss as' outs (set m s b') hV' hn.2 has (by simpa using ho)
                have hso : slotOf V pre.length = some s := by simp [slotOf, hV]
                have hlt : pre.length < V.length := by simp [hV]
                have hβ : downβ V β pre.length = β s := by simp [downβ, hso]
                refine ⟨by simp [k1], fun q hq c hc => ?_⟩
                rcases List.mem_cons.1 hq with rfl | hq
                · simp only [setAll] at hc
                  rw [get_setAll_ne _ _ _ _ hn.1, get_set, if_pos rfl] at hc
                  cases hc
                  rw [hβ] at h1 h2
                  exact ⟨(hω _ _ _ hso hlt).1 h1, h2.mono (.refl _ _) rfl rfl (fun g j hg => ⟨rfl, rfl, (hω g _ _ hso hlt).2 j hg⟩)⟩
                · exact k2 q hq c hc
            · cases hm
          · cases hm
    | val p =>
      simp only [mkArgsX] at hm
      split at hm
      · rename_i as' has
        cases hm
        exact ih (pre ++ [.val p]) ss as' outs m hV' hn has (by simpa [OutsRep] using ho)
      · cases hm
    | ownE e1 c r =>
      simp only [mkArgsX] at hm
      split at hm
      · rename_i as' has
        cases hm
        exact ih (pre ++ [.ownE e1 c r]) ss as' outs m hV' hn has (by simpa [OutsRep] using ho)
      · cases hm
    | exc c r =>
      simp only [mkArgsX] at hm
      split at hm
      · rename_i as' has
        cases hm
        exact ih (pre ++ [.exc c r]) ss as' outs m hV' hn has (by simpa [OutsRep] using ho)
      · cases hm
    | xs _ _ _ => cases ss <;> simp [mkArgsX] at hm
    | anyb => cases ss <;> simp [mkArgsX] at hm
    | mp _ => cases ss <;> simp [mkArgsX] at hm
    | tag _ _ => cases ss <;> simp [mkArgsX] at hm
    | rp _ _ => cases ss <;> simp [mkArgsX] at hm
    | self => cases ss <;> simp [mkArgsX] at hm
    | undef => cases ss <;> simp [mkArgsX] at hm

theorem setAll_live {α : Type} : ∀ (m : List (Nat × α)) (is : List Nat) (bs : List α) (s : Nat), get m s ≠ none → get (setAll m is bs) s ≠ none
  | m, [], _, _, h => h
  | m, i :: is, [], _, h => h
  | m, i :: is, b :: bs, s, h => by
    simp only [setAll]
    refine setAll_live _ is bs s ?_
    rw [get_set]
    split
    · simp
    · exact h

theorem tget_undefs : ∀ (wb : List Nat) (m : List (Nat × TV)) (t : Nat), tget (setAll m wb (wb.map fun _ => .undef)) t = if t ∈ wb then .undef else tget m t
  | [], m, t => by simp [setAll]
  | i :: wb, m, t => by
    simp only [List.map_cons, setAll]
    rw [tget_undefs wb _ t, tget_set]
    by_cases h1 : t ∈ wb
    · simp [h1]
    · by_cases h2 : t = i <;> simp [h1, h2]
/-- All that there is stays, for a while. -/
def frozenG (w : World) (G : Nat → Nat) (N : Nat) : Nat → Nat := fun b => if b < w.heap.size then G b + N else 0
theorem frozen_ext {w : World} {G : Nat → Nat} (N : Nat) (hg : ∀ b, w.heap.size ≤ b → G b = 0) : GExt w G w (frozenG w G N) := by
  refine ⟨fun b => ?_, fun _ _ _ => rfl, fun _ _ h => h⟩
  unfold frozenG
  by_cases h : b < w.heap.size
  · rw [if_pos h]; omega
  · rw [if_neg h, hg b (by omega)]; omega
theorem ORepX.lent {w : World} {G : Nat → Nat} {ω : Nat → Option Occ} {occ : Occ} {c N : Nat} {rows : List (List PV)} {v : Value} (h : ORepX w G ω occ c rows v) (hN : rows.flatten.length ≤ N) (hg : ∀ b, w.heap.size ≤ b → G b = 0) (hω : ∀ b, ω b ≠ none → b < w.heap.size) : Rep w (frozenG w G N) (.sl c rows) v := by
  obtain ⟨e, xs, ho, hc, hl, hr, h1, hb⟩ := h
  rcases ho.2 with ⟨rfl, h0⟩ | ⟨g, cap, cur, rfl, _, hh, hcap, _, _, htake⟩
  · have : rows = [] := List.eq_nil_of_length_eq_zero h0
    subst this
    exact .sl0 c none 0
  · have hlt : g < w.heap.size := hω g (by rw [(hb g rfl).1]; simp)
    refine .sl c rows g 0 cap (fun j => xs.getD j undef) hc (by unfold frozenG; rw [if_pos hlt]; omega) (fun j hj => ?_) (fun j p hp => ?_) h1 hcap
    · have := ho.cells (g := g) rfl j (xs.getD j undef) (by rw [List.getD_eq_getElem?_getD]; simp [List.getElem?_eq_getElem (show j < xs.length by omega)])
      have ha : (⟨g, 0, none⟩ : Addr).add j = ⟨g, j, none⟩ := by unfold Addr.add; split <;> simp_all
      rw [ha] at this
      simpa using this
    · have hj : j < rows.flatten.length := (List.getElem?_eq_some_iff.1 hp).1
      refine (hr j p _ hp ?_).mono (frozen_ext N hg)
      rw [List.getD_eq_getElem?_getD]; simp [List.getElem?_eq_getElem (show j < xs.length by omega)]
def lentMax : List TV → Nat
  | [] => 0
  | .exc _ r :: vs => r.flatten.length + lentMax vs
  | .xs _ c n :: vs => n * c + lentMax vs
  | _ :: vs => lentMax vs
theorem XRep.lent {N s c n : Nat} {cs : List TV} {ps : List PV} {v : Value} (hF : FRel w G β ω σ a.tmps) (hx : XRep w (β s) c n v) (hm : get σ.mem s = some (.cells cs)) (hps : pvs cs = some ps) (hl : ps.length = n * c) (h1 : ∀ p ∈ ps, p.one = true) (hN : n * c ≤ N) : Rep w (frozenG w G N) (.sl c (chunks c n ps)) v := by
  obtain ⟨cap, e, rfl, hcap, hcm, hshape⟩ := hx
  obtain ⟨hω, arr, e', hh, ⟨hsz, _⟩, hG, hcell⟩ := hF.blk s _ hm
  obtain ⟨hl2, hget⟩ := pvs_get hps
  obtain ⟨k1, k2, k3⟩ := chunks_spec0 c n ps hl
  have hlt : β s < w.heap.size := hF.ωnew _ (by rw [hω]; simp)
  have := Rep.sl (w := w) (G := frozenG w G N) c (chunks c n ps) (β s) 0 cap (fun j => arr.getD j undef) k2 (by unfold frozenG; rw [if_pos hlt, k3]; omega) (fun j hj => ?_) (fun j p hp => ?_) (by rw [k3]; exact h1) (by rw [k1]; exact hcap)
  · rw [k1] at this; exact this
  · rw [k3] at hj
    have hja : j < arr.size := by omega
    rw [Nat.zero_add, cell_of_block hh]
    simp [Array.getD_eq_getD_getElem?, hja]
  · rw [k3] at hp
    obtain ⟨tv, htv, htp⟩ := hget j p hp
    have hj : j < ps.length := (List.getElem?_eq_some_iff.1 hp).1
    have hja : j < arr.size := by omega
    refine (CRep.pv (hcell j tv (arr.getD j undef) htv (by simp [Array.getD_eq_getD_getElem?, hja])) htp).1.mono (frozen_ext N hF.gnew)
theorem argsB_rep {N : Nat} {mr : List Nat} (hF : FRel w G β ω σ a.tmps) : ∀ (vs : List TV) (as : List Arg) (va : List Value) (k : Nat), lentMax vs ≤ N → mkArgsB σ.mem mr vs = some as → va.length = vs.length →
      (∀ (i : Nat) (x : TV) (v : Value), vs[i]? = some x → va[i]? = some v → ∃ occ, TRep w G β ω occ x v) → ArgsRep w (frozenG w G N) (fun _ => 0) (fun _ => none) k as va ∧ ∀ w' G' β' ω' k', OutsRep w' G' β' ω' k' as [] := by
  intro vs
  induction vs with
  | nil =>
    intro as va k _ hm hl _
    simp only [mkArgsB, Option.some.injEq] at hm
    subst hm
    cases va with
    | nil => exact ⟨trivial, fun _ _ _ _ _ => trivial⟩
    | cons v va => simp at hl
  | cons x vs ih =>
    intro as va k hN hm hl hr
    cases va with
    | nil => simp at hl
    | cons v va =>
      obtain ⟨occ, hx⟩ := hr 0 x v rfl rfl
      have next : ∀ {as'}, lentMax vs ≤ N → mkArgsB σ.mem mr vs = some as' → ArgsRep w (frozenG w G N) (fun _ => 0) (fun _ => none) (k + 1) as' va ∧ ∀ w' G' β' ω' k', OutsRep w' G' β' ω' k' as' [] := fun hN' hm' =>
        ih _ va (k + 1) hN' hm' (by simpa using hl) (fun i y u hy hu => hr (i + 1) y u (by simpa using hy) (by simpa using hu))
      cases x with
      | xs s c n =>
        simp only [mkArgsB] at hm
        split at hm
        · rename_i cs hcs
          split at hm
          · rename_i ps hps
            split at hm
            · rename_i hc
              split at hm
              · rename_i as' has
                cases hm
                simp only [lentMax] at hN
                obtain ⟨n1, n2⟩ := next (by omega) has
                exact ⟨⟨XRep.lent hF hx hcs hps hc.2.1 hc.2.2 (by omega), n1⟩, fun w' G' β' ω' k' => n2 w' G' β' ω' (k' + 1)⟩
              · cases hm
            · cases hm
          · cases hm
        · cases hm
      | val p =>
        simp only [mkArgsB] at hm
        split at hm
        · rename_i as' has
          cases hm
          obtain ⟨n1, n2⟩ := next hN has
          exact ⟨⟨Rep.mono (frozen_ext N hF.gnew) hx, n1⟩, fun w' G' β' ω' k' => n2 w' G' β' ω' (k' + 1)⟩
        · cases hm
      | ownE e1 c r =>
        simp only [mkArgsB] at hm
        split at hm
        · rename_i as' has
          cases hm
          obtain ⟨n1, n2⟩ := next hN has
          exact ⟨⟨Rep.mono (frozen_ext N hF.gnew) (ORepE.rep hx), n1⟩, fun w' G' β' ω' k' => n2 w' G' β' ω' (k' + 1)⟩
        · cases hm
      | exc c r =>
        simp only [mkArgsB] at hm
        split at hm
        · rename_i as' has
          cases hm
          simp only [lentMax] at hN
          obtain ⟨n1, n2⟩ := next (by omega) has
          exact ⟨⟨ORepX.lent hx (by omega) hF.gnew hF.ωnew, n1⟩, fun w' G' β' ω' k' => n2 w' G' β' ω' (k' + 1)⟩
        · cases hm
      | _ => simp [mkArgsB] at hm
theorem Rep.bare {w w' : World} {G G' : Nat → Nat} {p : PV} {v : Value} (hp : p.bare = true) (h : Rep w G p v) : Rep w' G' p v := by
  cases h with
  | int k n => exact .int k n
  | bool b => exact .bool b
  | tup ps vs hl hx =>
    refine .tup ps vs hl (fun i q u hq hu => ?_)
    have := hx i q u hq hu
    have hb := List.all_eq_true.1 hp q (List.mem_of_getElem? hq)
    cases this with
    | int k n => exact .int k n
    | bool b => exact .bool b
    | _ => simp at hb
  | _ => simp [PV.bare] at hp
theorem callb_sound {I : Inv} {f : Nat} {V : List TV} {as : List Arg} {p : PV} {va : List Value} (hF : FRel w G β ω σ a.tmps) (hI : I.on w ω) (hd : ∀ d, o.dst = some d → d < a.tmps.size)
    (hr : (execOp a.eval o).run P w = (callFunc f va.toArray).run P w) (hl : va.length = V.length) (hV : ∀ (i : Nat) (x : TV) (v : Value), V[i]? = some x → va[i]? = some v → ∃ occ, TRep w G β ω occ x v)
    {mr : List Nat} (hm : mkArgsB σ.mem mr V = some as) (hcall : ACallI I P f as (.val p) []) (hp : p.bare = true) : OpWp P w G ω β a o σ (σ.put o.dst (.val p)) := by
  intro K Q hK
  obtain ⟨hent, hcalls⟩ := hcall
  obtain ⟨hargs, _⟩ := argsB_rep hF V as va 0 (Nat.le_refl _) hm hl hV
  have hext := frozen_ext (w := w) (lentMax V) hF.gnew
  unfold Oper.wp
  rw [hr, hent]
  refine Calls.mono (hcalls w (frozenG w G (lentMax V)) (fun _ => 0) (fun _ => none) va (fun b hb => by unfold frozenG; rw [if_neg (by omega)]) (fun b hb => absurd rfl hb) hargs (I.down hI (fun b hb => absurd rfl hb))) (fun e w' hpost => ?_)
  obtain ⟨v, G', ω', rfl, hevo, hgn, hωn, hdom, _, hrv⟩ := hpost
  show K (a.put o.dst v) w'
  have hblk : ∀ b, b < w.heap.size → w'.heap[b]? = w.heap[b]? := fun b hb => (hevo.block b hb (fun h => h rfl)).1
  let G2 : Nat → Nat := fun b => if b < w.heap.size then G b else G' b
  have hG2 : ∀ b, b < w.heap.size → G2 b = G b := fun b hb => if_pos hb
  have e2 : GExt w G w' G2 := by
    refine ⟨fun b => ?_, fun b off ho => ?_, hevo.ext.shape⟩
    · by_cases h : b < w.heap.size
      · rw [hG2 b h]; exact Nat.le_refl _
      · rw [hF.gnew b (by omega)]; exact Nat.zero_le _
    · have hb : b < w.heap.size := by
        rcases Nat.lt_or_ge b w.heap.size with h | h
        · exact h
        · rw [hF.gnew b h] at ho; omega
      exact World.cell?_of_block (a := ⟨b, off, none⟩) (hblk b hb)
  have hevo2 : Evo (fun b => ω b ≠ none) w G w' G2 := ⟨hevo.os, hevo.tape, hevo.output, hevo.size, e2, fun b hb _ => ⟨hblk b hb, hG2 b hb⟩⟩
  have hkeep : ∀ g oc, ω g = some oc → w'.heap[g]? = w.heap[g]? ∧ G2 g = G g ∧ ω g = some oc := fun g oc hg => by
    have hb := hF.ωnew g (by rw [hg]; simp)
    exact ⟨hblk g hb, hG2 g hb, hg⟩
  have hsame : Same (fun _ => False) (fun _ => False) w G β ω w' G2 β ω := ⟨e2, fun g t hg _ => hkeep g _ hg, fun g s hg _ => hkeep g _ hg, fun g s i hg _ => hkeep g _ hg⟩
  have hmid : FRel w' G2 β ω σ a.tmps := by
    refine ⟨fun t => hF.rest_tmp hsame (fun _ _ => rfl) t (fun h => h), hF.live, fun s b hb => hF.rest_blk hsame (fun _ _ => rfl) s (fun h => h) b hb, fun b hb => ?_, fun b hb => Nat.lt_of_lt_of_le (hF.ωnew b hb) hevo.size⟩
    by_cases h : b < w.heap.size
    · have := hevo.size; omega
    · show (if b < w.heap.size then G b else G' b) = 0
      rw [if_neg h]; exact hgn b hb
  have hrv' : Rep w' G2 p v := Rep.bare hp hrv
  exact hK v w' G2 β ω hevo2 (fun b hb => .inl hb) (fun _ _ => rfl) (hmid.putO o.dst hd (.val p) v (fun _ => hrv') (fun s e => by cases e))
theorem call_sound {I : Inv} {R : Nat → Option Nat} {wb : List Nat} {f : Nat} {V : List TV} {ss : List Nat} {as : List Arg} {rv : RV} {outs : List Blk} {va : List Value} (hF : FRel w G β ω σ a.tmps) (hI : I.on w ω) (hd : ∀ d, o.dst = some d → d < a.tmps.size)
    (hr : (execOp a.eval o).run P w = (callFunc f va.toArray).run P w) (hl : va.length = V.length) (hV : ∀ (i : Nat) (x : TV) (v : Value), V[i]? = some x → va[i]? = some v → ∃ occ, TRep w G β ω occ x v ∧ ((∃ c r, x = .exc c r) → ∃ t, occ = .tmp t ∧ R t = some i)) (hR : ∀ t, R t ≠ none → t ∈ wb)
    (hm : mkArgsX σ.mem V ss = some as) (hn : ss.Nodup) (hcall : ACallI I P f as rv outs) (hnew : ∀ b, rv = .new b ∨ rv = .newm b → ∃ d, o.dst = some d ∧ get σ.mem d = none) :
    OpWp P w G ω β a o σ (putRV { tmps := setAll σ.tmps wb (wb.map fun _ => .undef), mem := setAll σ.mem ss outs } o.dst rv) := by
  intro K Q hK
  obtain ⟨hent, hcalls⟩ := hcall
  obtain ⟨hsl, hasl⟩ := mkArgs_slots hm
  have hnd : (slots V).Nodup := by rw [hsl]; exact hn
  have hargs := argsRep_of (R := R) hF V hnd V [] ss as va rfl hm hl (fun i x v h1 h2 => by simpa using hV i x v h1 h2)
  have hωd : ∀ b, downω V R ω b ≠ none → ω b ≠ none := fun b hb h => hb (by simp [downω, h])
  unfold Oper.wp
  rw [hr, hent]
  refine Calls.mono (hcalls w G (downβ V β) (downω V R ω) va hF.gnew (fun b hb => hF.ωnew b (hωd b hb)) (by simpa using hargs) (I.down hI hωd)) (fun e w' hpost => ?_)
  obtain ⟨v, G', ω', rfl, hevo, hgn, hωn, hdom, hout, hrv⟩ := hpost
  show K (a.put o.dst v) w'
  have dz : ∃ dz, ∀ d, o.dst = some d → d = dz := ⟨o.dst.getD 0, fun d hd => by simp [hd]⟩
  obtain ⟨d0, hd0⟩ := dz
  -- who owns what behind the call
  let ωn := upω V d0 (downω V R ω) ω ω'
  have hun : ∀ g, downω V R ω g = none → g < w.heap.size → w'.heap[g]? = w.heap[g]? ∧ G' g = G g ∧ ω' g = none := fun g hg hlt => by
    obtain ⟨h1, h2⟩ := hevo.block g hlt (by simpa using hg)
    refine ⟨h1, h2, ?_⟩
    cases hq : ω' g with
    | none => rfl
    | some oc =>
      rcases hdom g (by rw [hq]; simp) with h | h
      · exact absurd hg h
      · omega
  have hkeep : ∀ g oc, ω g = some oc → downω V R ω g = none → w'.heap[g]? = w.heap[g]? ∧ G' g = G g ∧ ωn g = some oc := fun g oc hg hdn => by
    obtain ⟨h1, h2, h3⟩ := hun g hdn (hF.ωnew g (by rw [hg]; simp))
    exact ⟨h1, h2, by simp only [ωn, upω, h3, hdn, if_true]; exact hg⟩
  have hpn : ∀ s, s ∉ ss → pidx V 0 s = none := fun s hs => by
    cases hp : pidx V 0 s with
    | none => rfl
    | some i =>
      obtain ⟨_, h2⟩ := pidx_slot V 0 s i hp
      have hmem : ∀ (V : List TV) (i : Nat), slotOf V i = some s → s ∈ slots V := by
        intro V
        induction V with
        | nil => intro i h; simp [slotOf] at h
        | cons v V ih =>
          intro i h
          cases i with
          | zero => cases v <;> simp [slotOf] at h; subst h; simp [slots]
          | succ i =>
            have := ih i (by simpa [slotOf] using h)
            cases v <;> simp [slots, this]
      exact absurd (hsl ▸ hmem V _ h2) hs
  have hsame : Same (fun t => t ∈ wb) (fun s => s ∈ ss) w G β ω w' G' β ωn := by
    refine ⟨hevo.ext, fun g t hg ht => hkeep g _ hg (by
      have : R t = none := by
        cases hq : R t with
        | none => rfl
        | some i => exact absurd (hR t (by rw [hq]; simp)) ht
      simp [downω, hg, this]), fun g s hg hs => hkeep g _ hg (by simp [downω, hg, hpn s hs]), fun g s i hg hs => hkeep g _ hg (by simp [downω, hg, hpn s hs])⟩
  have hback := outs_back (R := R) (σ := σ) (β := β) (ω := ω) (w' := w') (G' := G') (ω' := ω') (V := V) (d := d0) (fun g i s hs hi => ⟨fun h => by simp [upω, h, hi, hs], fun j h => by simp [upω, h, hi, hs]⟩) V [] ss as outs σ.mem rfl hn hm hout
  have hdomn : ∀ b, ωn b ≠ none → ω b ≠ none ∨ w.heap.size ≤ b := fun b hb => by
    cases hq : ω' b with
    | none =>
      simp only [ωn, upω, hq] at hb
      split at hb
      · exact .inl hb
      · exact absurd rfl hb
    | some oc =>
      rcases hdom b (by rw [hq]; simp) with h | h
      · exact .inl (hωd b h)
      · exact .inr h
  have hωnn : ∀ b, ωn b ≠ none → b < w'.heap.size := fun b hb => by
    cases hq : ω' b with
    | none =>
      simp only [ωn, upω, hq] at hb
      split at hb
      · exact Nat.lt_of_lt_of_le (hF.ωnew b hb) hevo.size
      · exact absurd rfl hb
    | some oc => exact hωn b (by rw [hq]; simp)
  have hevo' : Evo (fun b => ω b ≠ none) w G w' G' := ⟨hevo.os, hevo.tape, hevo.output, hevo.size, hevo.ext, fun b hb ht => hevo.block b hb (fun h => ht (hωd b h))⟩
  -- the frame without the call's own answer
  have hset : ∀ t, tget (setAll σ.tmps wb (wb.map fun _ => .undef)) t = if t ∈ wb then .undef else tget σ.tmps t := fun t => tget_undefs wb σ.tmps t
  have hmid : FRel w' G' β ωn { tmps := setAll σ.tmps wb (wb.map fun _ => .undef), mem := setAll σ.mem ss outs } a.tmps := by
    refine ⟨fun t => ?_, fun t s ht => ?_, fun s b hb => ?_, hgn, hωnn⟩
    · dsimp only; rw [hset]
      split
      · trivial
      · rename_i hnt; exact hF.rest_tmp hsame (fun _ _ => rfl) t hnt
    · dsimp only at ht; rw [hset] at ht
      split at ht
      · cases ht
      · exact setAll_live _ _ _ _ (hF.live t s ht)
    by_cases hs : s ∈ ss
    · exact hback.2 s hs b hb
    · dsimp only at hb
      rw [get_setAll_ne _ _ _ _ hs] at hb
      exact hF.rest_blk hsame (fun _ _ => rfl) s hs b hb
  cases rv with
  | val p =>
    refine hK v w' G' β ωn hevo' hdomn (fun _ _ => rfl) ?_
    have hrv' : Rep w' G' p v := hrv
    exact hmid.putO o.dst hd (.val p) v (fun _ => hrv') (fun s e => by cases e)
  | own c r =>
    refine hK v w' G' β ωn hevo' hdomn (fun _ _ => rfl) ?_
    have hrv' : ORep w' G' ω' (.tmp as.length) c r v := hrv
    cases hdd : o.dst with
    | none => exact hmid
    | some d =>
      obtain rfl := hd0 d hdd
      refine hmid.put d (hd d hdd) (.own c r) v ?_ (fun s e => by cases e)
      exact hrv'.mono (.refl _ _) (fun g hg => ⟨rfl, rfl, by simp [ωn, upω, hg]⟩)
  | exc c r =>
    refine hK v w' G' β ωn hevo' hdomn (fun _ _ => rfl) ?_
    have hrv' : ORepX w' G' ω' (.tmp as.length) c r v := hrv
    cases hdd : o.dst with
    | none => exact hmid
    | some d =>
      obtain rfl := hd0 d hdd
      refine hmid.put d (hd d hdd) (.exc c r) v ?_ (fun s e => by cases e)
      exact hrv'.mono (.refl _ _) (fun g hg => ⟨rfl, rfl, by simp [ωn, upω, hg]⟩)
  | new b =>
    obtain ⟨d, hdd, hmd⟩ := hnew b (.inl rfl)
    obtain rfl := hd0 d hdd
    obtain ⟨bb, hv, hωb, hbr⟩ := hrv
    have hdss : d ∉ ss := fun hs => by
      -- what is handed over is live
      have hmem : ∀ (vs : List TV) (ss : List Nat) (as : List Arg), mkArgsX σ.mem vs ss = some as → ∀ s ∈ ss, get σ.mem s ≠ none := by
        intro vs
        induction vs with
        | nil => intro ss as h; cases ss <;> simp [mkArgsX] at h ⊢
        | cons x vs ih =>
          intro ss as h s hs
          cases x with
          | lp s' off =>
            cases off with
            | succ n => cases ss <;> simp [mkArgsX] at h
            | zero =>
              cases ss with
              | nil => simp [mkArgsX] at h
              | cons s2 ss =>
                simp only [mkArgsX] at h
                split at h
                · rename_i e; subst e
                  split at h
                  · rename_i b as' hb has
                    rcases List.mem_cons.1 hs with rfl | hs
                    · rw [hb]; simp
                    · exact ih ss as' has s hs
                  · cases h
                · cases h
          | val p => simp only [mkArgsX] at h; split at h; · rename_i as' has; exact ih ss as' has s hs
                     · cases h
          | ownE e1 c r =>
            simp only [mkArgsX] at h
            split at h
            · rename_i as' has; exact ih ss as' has s hs
            · cases h
          | exc c r =>
            simp only [mkArgsX] at h
            split at h
            · rename_i as' has; exact ih ss as' has s hs
            · cases h
          | xs _ _ _ => cases ss <;> simp [mkArgsX] at h
          | anyb => cases ss <;> simp [mkArgsX] at h
          | mp _ => cases ss <;> simp [mkArgsX] at h
          | tag _ _ => cases ss <;> simp [mkArgsX] at h
          | rp _ _ => cases ss <;> simp [mkArgsX] at h
          | self => cases ss <;> simp [mkArgsX] at h
          | undef => cases ss <;> simp [mkArgsX] at h
      exact hmem V ss as hm d hs hmd
    refine hK v w' G' (upd β d bb) ωn hevo' hdomn (fun s hs => upd_ne _ _ _ _ (fun e => by rw [e] at hs; exact hs hmd)) ?_
    have hmd' : get (setAll σ.mem ss outs) d = none := by rw [get_setAll_ne _ _ _ _ hdss]; exact hmd
    have hup : ∀ g, (ω' g = some (.blk as.length) → ωn g = some (.blk d)) ∧ ∀ j, ω' g = some (.cell as.length j) → ωn g = some (.cell d j) := fun g => by
      have : ¬ as.length < V.length := by omega
      exact ⟨fun h => by simp [ωn, upω, h, this], fun j h => by simp [ωn, upω, h, this]⟩
    have hβ : ∀ s, get (setAll σ.mem ss outs) s ≠ none → upd β d bb s = β s := fun s hs => upd_ne _ _ _ _ (fun e => by rw [e] at hs; exact hs hmd')
    simp only [putRV, hdd]
    refine ⟨fun t => ?_, fun t s ht => ?_, fun s c hc => ?_, hgn, hωnn⟩
    · simp only [Act.put]
      rw [tget_set]
      by_cases e : t = d
      · subst e
        rw [if_pos rfl, getD_set_eq _ _ _ _ (hd t hdd)]
        simp only [TRep, upd_eq]
        exact hv
      · rw [if_neg e, getD_set_ne _ _ _ _ _ (Ne.symm e)]
        exact (hmid.tmp t).mono (.refl _ _) (fun s h => hβ s (hmid.live t s h)) (fun g hg => ⟨rfl, rfl, hg⟩)
    · rw [tget_set] at ht
      rw [get_set]
      split at ht
      · cases ht; simp
      · have := hmid.live t s ht
        split
        · simp
        · exact this
    · rw [get_set] at hc
      split at hc
      · rename_i e
        subst e
        cases hc
        rw [upd_eq]
        exact ⟨(hup bb).1 hωb, hbr.mono (.refl _ _) rfl rfl (fun g j hg => ⟨rfl, rfl, (hup g).2 j hg⟩)⟩
      · have hs : get (setAll σ.mem ss outs) s ≠ none := by rw [hc]; simp
        rw [hβ s hs]
        exact hmid.blk s c hc
  | newm b =>
    obtain ⟨d, hdd, hmd⟩ := hnew b (.inr rfl)
    obtain rfl := hd0 d hdd
    obtain ⟨bb, hv, hωb, hbr⟩ := hrv
    have hdss : d ∉ ss := fun hs => by
      -- what is handed over is live
      have hmem : ∀ (vs : List TV) (ss : List Nat) (as : List Arg), mkArgsX σ.mem vs ss = some as → ∀ s ∈ ss, get σ.mem s ≠ none := by
        intro vs
        induction vs with
        | nil => intro ss as h; cases ss <;> simp [mkArgsX] at h ⊢
        | cons x vs ih =>
          intro ss as h s hs
          cases x with
          | lp s' off =>
            cases off with
            | succ n => cases ss <;> simp [mkArgsX] at h
            | zero =>
              cases ss with
              | nil => simp [mkArgsX] at h
              | cons s2 ss =>
                simp only [mkArgsX] at h
                split at h
                · rename_i e; subst e
                  split at h
                  · rename_i b as' hb has
                    rcases List.mem_cons.1 hs with rfl | hs
                    · rw [hb]; simp
                    · exact ih ss as' has s hs
                  · cases h
                · cases h
          | val p => simp only [mkArgsX] at h; split at h; · rename_i as' has; exact ih ss as' has s hs
                     · cases h
          | ownE e1 c r =>
            simp only [mkArgsX] at h
            split at h
            · rename_i as' has; exact ih ss as' has s hs
            · cases h
          | exc c r =>
            simp only [mkArgsX] at h
            split at h
            · rename_i as' has; exact ih ss as' has s hs
            · cases h
          | xs _ _ _ => cases ss <;> simp [mkArgsX] at h
          | anyb => cases ss <;> simp [mkArgsX] at h
          | mp _ => cases ss <;> simp [mkArgsX] at h
          | tag _ _ => cases ss <;> simp [mkArgsX] at h
          | rp _ _ => cases ss <;> simp [mkArgsX] at h
          | self => cases ss <;> simp [mkArgsX] at h
          | undef => cases ss <;> simp [mkArgsX] at h
      exact hmem V ss as hm d hs hmd
    refine hK v w' G' (upd β d bb) ωn hevo' hdomn (fun s hs => upd_ne _ _ _ _ (fun e => by rw [e] at hs; exact hs hmd)) ?_
    have hmd' : get (setAll σ.mem ss outs) d = none := by rw [get_setAll_ne _ _ _ _ hdss]; exact hmd
    have hup : ∀ g, (ω' g = some (.blk as.length) → ωn g = some (.blk d)) ∧ ∀ j, ω' g = some (.cell as.length j) → ωn g = some (.cell d j) := fun g => by
      have : ¬ as.length < V.length := by omega
      exact ⟨fun h => by simp [ωn, upω, h, this], fun j h => by simp [ωn, upω, h, this]⟩
    have hβ : ∀ s, get (setAll σ.mem ss outs) s ≠ none → upd β d bb s = β s := fun s hs => upd_ne _ _ _ _ (fun e => by rw [e] at hs; exact hs hmd')
    simp only [putRV, hdd]
    refine ⟨fun t => ?_, fun t s ht => ?_, fun s c hc => ?_, hgn, hωnn⟩
    · simp only [Act.put]
      rw [tget_set]
      by_cases e : t = d
      · subst e
        rw [if_pos rfl, getD_set_eq _ _ _ _ (hd t hdd)]
        simp only [TRep, upd_eq]
        exact hv
      · rw [if_neg e, getD_set_ne _ _ _ _ _ (Ne.symm e)]
        exact (hmid.tmp t).mono (.refl _ _) (fun s h => hβ s (hmid.live t s h)) (fun g hg => ⟨rfl, rfl, hg⟩)
    · rw [tget_set] at ht
      rw [get_set]
      split at ht
      · cases ht; simp
      · have := hmid.live t s ht
        split
        · simp
        · exact this
    · rw [get_set] at hc
      split at hc
      · rename_i e
        subst e
        cases hc
        rw [upd_eq]
        exact ⟨(hup bb).1 hωb, hbr.mono (.refl _ _) rfl rfl (fun g j hg => ⟨rfl, rfl, (hup g).2 j hg⟩)⟩
      · have hs : get (setAll σ.mem ss outs) s ≠ none := by rw [hc]; simp
        rw [hβ s hs]
        exact hmid.blk s c hc
theorem mkArgs_X {mem : List (Nat × Blk)} : ∀ {V : List TV} {ss : List Nat} {as : List Arg}, mkArgs mem V ss = some as → mkArgsX mem V ss = some as ∧ ∀ c r, .exc c r ∉ V := by
  intro V
  induction V with
  | nil => intro ss as h; cases ss <;> simp [mkArgs] at h; subst h; simp [mkArgsX]
  | cons v V ih =>
    intro ss as h
    cases v with
    | lp s off =>
      cases off with
      | succ n => cases ss <;> simp [mkArgs] at h
      | zero =>
        cases ss with
        | nil => simp [mkArgs] at h
        | cons s' ss =>
          simp only [mkArgs] at h
          split at h
          · rename_i e; subst e
            split at h
            · rename_i b as' hb has
              cases h
              obtain ⟨h1, h2⟩ := ih has
              refine ⟨by simp [mkArgsX, hb, h1], fun c r => by simp [h2]⟩
            · cases h
          · cases h
    | val p =>
      simp only [mkArgs] at h
      split at h
      · rename_i as' has
        cases h
        obtain ⟨h1, h2⟩ := ih has
        refine ⟨by simp [mkArgsX, h1], fun c r => by simp [h2]⟩
      · cases h
    | ownE e1 c r =>
      simp only [mkArgs] at h
      split at h
      · rename_i as' has
        cases h
        obtain ⟨h1, h2⟩ := ih has
        refine ⟨by simp [mkArgsX, h1], fun c r => by simp [h2]⟩
      · cases h
    | _ => cases ss <;> simp [mkArgs] at h
end
end Go.AR
