import Derived.Test.YtlhahjlnhkokcaaG01
set_option linter.all false
/-! Walking through code of the abstract machine, by 'simp only'. What comes behind stands as a closed word: no rewriting goes in there. -/
namespace Go.AR
open Go

section
variable {C : CallRel} {f : FuncId} {as : List Arg} {rv : RV} {outs : List Blk} {d : Option Nat} {wb mr mw : List Nat} {rd : List Opnd} {k : Kind} {os : List AOp} {K : Fr → Prop} {m : List (Nat × TV)} {b : List (Nat × Blk)} {σ : Fr} {nref : Nat} {new : Bool} {Q : AExit → Fr → Prop}

def Kind.isCall : Kind → Bool
  | .call _ _ => true
  | .callx _ _ => true
  | .callb => true
  | _ => false

/-- Some call gives what the rest wants. -/
def callWp (C : CallRel) (f : FuncId) (as : List Arg) (K : RV → List Blk → Prop) : Prop := ∃ rv outs, C f as rv outs ∧ K rv outs
theorem callWp_of {K : RV → List Blk → Prop} (h : C f as rv outs) (k : K rv outs) : callWp C f as K := ⟨rv, outs, h, k⟩

def wpOps (C : CallRel) (os : List AOp) (K : Fr → Prop) (σ : Fr) : Prop := ∃ σ', ASteps C os σ σ' ∧ K σ'
def wpOp (C : CallRel) (d : Option Nat) (wb : List Nat) (rd : List Opnd) (mr mw : List Nat) (k : Kind) (os : List AOp) (K : Fr → Prop) (σ : Fr) : Prop := wpOps C (⟨d, wb, rd, mr, mw, k, none⟩ :: os) K σ
def guardWp (C : CallRel) (g : TV) (want : Bool) (d : Option Nat) (wb : List Nat) (rd : List Opnd) (mr mw : List Nat) (k : Kind) (os : List AOp) (K : Fr → Prop) (σ : Fr) : Prop := match g with
  | .val (.bool b) => if b = want then wpOp C d wb rd mr mw k os K σ else wpOps C os K (σ.put d (.val (.tup [])))
  | .val (.tup _) => wpOps C os K (σ.put d (.val (.tup [])))
  | _ => False
def resWp (C : CallRel) (r : Option (TV × List TV × List Blk)) (d : Option Nat) (wb mw : List Nat) (os : List AOp) (K : Fr → Prop) (m : List (Nat × TV)) (b : List (Nat × Blk)) : Prop := match r with
  | some (v, ws, bs) => wpOps C os K ⟨setAll (Fr.put ⟨m, b⟩ d v).tmps wb ws, setAll b mw bs⟩
  | none => False
def KCall (C : CallRel) (d : Option Nat) (mw : List Nat) (nref : Nat) (new : Bool) (os : List AOp) (K : Fr → Prop) (m : List (Nat × TV)) (b : List (Nat × Blk)) (rv : RV) (outs : List Blk) : Prop :=
  outs.length = nref ∧ (match rv with
      | .new _ => new = true ∧ (∃ d', d = some d' ∧ mw.drop nref = [d'] ∧ get b d' = none)
      | .newm _ => new = true ∧ (∃ d', d = some d' ∧ mw.drop nref = [d'] ∧ get b d' = none)
      | _ => True) ∧ wpOps C os K (putRV ⟨m, setAll b (mw.take nref) outs⟩ d rv)
def callMk (C : CallRel) (f : FuncId) (as : Option (List Arg)) (d : Option Nat) (mw : List Nat) (nref : Nat) (new : Bool) (os : List AOp) (K : Fr → Prop) (m : List (Nat × TV)) (b : List (Nat × Blk)) : Prop := match as with
  | some as => callWp C f as (KCall C d mw nref new os K m b)
  | none => False
def callArgs (C : CallRel) (vs : List TV) (d : Option Nat) (mw : List Nat) (nref : Nat) (new : Bool) (os : List AOp) (K : Fr → Prop) (m : List (Nat × TV)) (b : List (Nat × Blk)) : Prop := match vs with
  | .val (.fn f) :: vs => callMk C f (mkArgs b vs (mw.take nref)) d mw nref new os K m b
  | _ => False

def KCallX (C : CallRel) (d : Option Nat) (wb mw : List Nat) (nref : Nat) (new : Bool) (os : List AOp) (K : Fr → Prop) (m : List (Nat × TV)) (b : List (Nat × Blk)) (rv : RV) (outs : List Blk) : Prop :=
  outs.length = nref ∧ (match rv with
      | .new _ => new = true ∧ (∃ d', d = some d' ∧ mw.drop nref = [d'] ∧ get b d' = none)
      | .newm _ => new = true ∧ (∃ d', d = some d' ∧ mw.drop nref = [d'] ∧ get b d' = none)
      | _ => True) ∧ wpOps C os K (putRV ⟨setAll m wb (wb.map fun _ => .undef), setAll b (mw.take nref) outs⟩ d rv)
def callMkX (C : CallRel) (f : FuncId) (as : Option (List Arg)) (d : Option Nat) (wb mw : List Nat) (nref : Nat) (new : Bool) (os : List AOp) (K : Fr → Prop) (m : List (Nat × TV)) (b : List (Nat × Blk)) : Prop := match as with
  | some as => callWp C f as (KCallX C d wb mw nref new os K m b)
  | none => False
def callArgsX (C : CallRel) (vs : List TV) (d : Option Nat) (wb mw : List Nat) (nref : Nat) (new : Bool) (os : List AOp) (K : Fr → Prop) (m : List (Nat × TV)) (b : List (Nat × Blk)) : Prop := match vs with
  | .val (.fn f) :: vs => callMkX C f (mkArgsX b vs (mw.take nref)) d wb mw nref new os K m b
  | _ => False
def KCallB (C : CallRel) (d : Option Nat) (os : List AOp) (K : Fr → Prop) (m : List (Nat × TV)) (b : List (Nat × Blk)) (rv : RV) (outs : List Blk) : Prop := outs = [] ∧ match rv with
  | .val p => p.bare = true ∧ wpOps C os K (Fr.put ⟨m, b⟩ d (.val p))
  | _ => False
def callMkB (C : CallRel) (f : FuncId) (as : Option (List Arg)) (d : Option Nat) (os : List AOp) (K : Fr → Prop) (m : List (Nat × TV)) (b : List (Nat × Blk)) : Prop := match as with
  | some as => callWp C f as (KCallB C d os K m b)
  | none => False
def callArgsB (C : CallRel) (vs : List TV) (d : Option Nat) (mr : List Nat) (os : List AOp) (K : Fr → Prop) (m : List (Nat × TV)) (b : List (Nat × Blk)) : Prop := match vs with
  | .val (.fn f) :: vs => callMkB C f (mkArgsB b mr vs) d os K m b
  | _ => False
/-- What is given away is written back to. -/
def givT (wb : List Nat) (n : Nat) : TV → Bool
  | .exc _ _ => wb.contains n
  | _ => true
def giv (wb : List Nat) (m : List (Nat × TV)) : List Opnd → Bool
  | [] => true
  | .t n :: xs => givT wb n (tget m n) && giv wb m xs
  | .c _ :: xs => giv wb m xs
def givWp (ok : Bool) (p : Prop) : Prop := ok = true ∧ p
theorem givWp_t {p : Prop} : givWp true p ↔ p := by simp [givWp]
theorem giv_nil {wb : List Nat} : giv wb m [] = true := rfl
theorem giv_t {wb : List Nat} {n : Nat} {xs : List Opnd} : giv wb m (.t n :: xs) = (givT wb n (tget m n) && giv wb m xs) := rfl
theorem giv_c {wb : List Nat} {p : PV} {xs : List Opnd} : giv wb m (.c p :: xs) = giv wb m xs := rfl
theorem giv_spec {wb : List Nat} : ∀ (xs : List Opnd), giv wb m xs = true ↔ ∀ n, .t n ∈ xs → (∃ c r, tget m n = .exc c r) → n ∈ wb
  | [] => by simp [giv]
  | .c p :: xs => by
    rw [giv_c, giv_spec xs]; simp
  | .t n :: xs => by
    rw [giv_t, Bool.and_eq_true, giv_spec xs]
    constructor
    · rintro ⟨h1, h2⟩ k hk hx
      rcases List.mem_cons.1 hk with e | hk
      · cases e
        obtain ⟨c, r, hx⟩ := hx
        rw [hx] at h1
        simpa [givT] using h1
      · exact h2 k hk hx
    · intro h
      refine ⟨?_, fun k hk hx => h k (by simp [hk]) hx⟩
      cases hx : tget m n with
      | exc c r => simpa [givT] using h n (by simp) ⟨c, r, hx⟩
      | _ => rfl
theorem wpOps_nil : wpOps C [] K σ ↔ K σ := ⟨fun ⟨_, h, k⟩ => by cases h; exact k, fun k => ⟨σ, rfl, k⟩⟩
theorem wpOps_plain : wpOps C (⟨d, wb, rd, mr, mw, k, none⟩ :: os) K σ ↔ wpOp C d wb rd mr mw k os K σ := Iff.rfl
theorem wpOps_guard {g : Nat} {want : Bool} : wpOps C (⟨d, wb, rd, mr, mw, k, some (g, want)⟩ :: os) K ⟨m, b⟩ ↔ guardWp C (tget m g) want d wb rd mr mw k os K ⟨m, b⟩ := by
  have hW : ∀ {o : AOp} {σ : Fr} {Kk : Fr → Prop}, wpOps C (o :: os) Kk σ ↔ ∃ σ', AStep C o σ σ' ∧ wpOps C os Kk σ' := fun {o σ Kk} => by
    unfold wpOps
    exact ⟨fun ⟨s, ⟨s1, h1, h2⟩, h3⟩ => ⟨s1, h1, s, h2, h3⟩, fun ⟨s1, h1, s, h2, h3⟩ => ⟨s, ⟨s1, h1, h2⟩, h3⟩⟩
  unfold guardWp wpOp
  rw [hW]
  simp only [AStep, wantedA]
  cases hg : tget m g with
  | val p =>
    cases p with
    | bool c =>
      simp only
      cases c <;> cases want
      · simp only [beq_self_eq_true, if_true]; rw [hW]; simp only [AStep, wantedA]
        try (constructor <;> exact id)
      · simp only [show (false == true) = false from rfl, Bool.false_eq_true, if_false]
        exact ⟨fun ⟨_, e, h⟩ => by subst e; exact h, fun h => ⟨_, rfl, h⟩⟩
      · simp only [show (true == false) = false from rfl, Bool.true_eq_false, if_false]
        exact ⟨fun ⟨_, e, h⟩ => by subst e; exact h, fun h => ⟨_, rfl, h⟩⟩
      · simp only [beq_self_eq_true, if_true]; rw [hW]; simp only [AStep, wantedA]
        try (constructor <;> exact id)
    | tup vs =>
      simp only
      exact ⟨fun ⟨_, e, h⟩ => by subst e; exact h, fun h => ⟨_, rfl, h⟩⟩
    | _ => simp
  | _ => simp
theorem guard_tt : guardWp C (.val (.bool true)) true d wb rd mr mw k os K σ ↔ wpOp C d wb rd mr mw k os K σ := by simp [guardWp]
theorem guard_ff : guardWp C (.val (.bool false)) false d wb rd mr mw k os K σ ↔ wpOp C d wb rd mr mw k os K σ := by simp [guardWp]
theorem guard_tf : guardWp C (.val (.bool true)) false d wb rd mr mw k os K σ ↔ wpOps C os K (σ.put d (.val (.tup []))) := by simp [guardWp]
theorem guard_ft : guardWp C (.val (.bool false)) true d wb rd mr mw k os K σ ↔ wpOps C os K (σ.put d (.val (.tup []))) := by simp [guardWp]
theorem guard_tup {want : Bool} {vs : List PV} : guardWp C (.val (.tup vs)) want d wb rd mr mw k os K σ ↔ wpOps C os K (σ.put d (.val (.tup []))) := by simp [guardWp]
theorem wpOp_sem (h : k.isCall = false) : wpOp C d wb rd mr mw k os K ⟨m, b⟩ ↔ resWp C (sem k d mr mw (rd.map (·.ev m)) (mr.map (get b)) (mw.map (get b))) d wb mw os K m b := by
  unfold wpOp wpOps ASteps resWp
  have : ∀ σ', AStep C ⟨d, wb, rd, mr, mw, k, none⟩ ⟨m, b⟩ σ' ↔ semOp ⟨d, wb, rd, mr, mw, k, none⟩ ⟨m, b⟩ = some σ' := fun σ' => by
    simp only [AStep, wantedA]
    cases k <;> simp [Kind.isCall] at h <;> simp
  simp only [this, semOp]
  cases sem k d mr mw (rd.map (·.ev m)) (mr.map (get b)) (mw.map (get b)) with
  | none => simp
  | some r =>
    obtain ⟨v, ws, bs⟩ := r
    have e : (Fr.put ⟨m, b⟩ d v).mem = b := by cases d <;> rfl
    simp only
    constructor
    · rintro ⟨σ', ⟨s1, h1, h2⟩, h3⟩
      cases h1
      exact ⟨σ', h2, h3⟩
    · rintro ⟨σ', h2, h3⟩
      exact ⟨σ', ⟨_, rfl, h2⟩, h3⟩
theorem wpOp_call : wpOp C d wb rd mr mw (.call nref new) os K ⟨m, b⟩ ↔ callArgs C (rd.map (·.ev m)) d mw nref new os K m b := by
  unfold wpOp wpOps ASteps
  simp only [AStep, wantedA, CallStep]
  constructor
  · rintro ⟨σ', ⟨s1, ⟨f, vs, as, rv, outs, h1, h2, h3, h4, h5, h6⟩, h7⟩, h8⟩
    subst h6
    rw [h1]
    simp only [callArgs, h2, callMk]
    exact ⟨rv, outs, h3, h4, h5, σ', h7, h8⟩
  · intro h
    unfold callArgs at h
    split at h
    · rename_i f vs hvs
      unfold callMk at h
      split at h
      · rename_i as has
        obtain ⟨rv, outs, h3, h4, h5, σ', h7, h8⟩ := h
        exact ⟨σ', ⟨_, ⟨f, vs, as, rv, outs, hvs, has, h3, h4, h5, rfl⟩, h7⟩, h8⟩
      · exact h.elim
    · exact h.elim
theorem wpOp_callx : wpOp C d wb rd mr mw (.callx nref new) os K ⟨m, b⟩ ↔ givWp (giv wb m rd) (callArgsX C (rd.map (·.ev m)) d wb mw nref new os K m b) := by
  unfold wpOp wpOps ASteps
  simp only [AStep, wantedA, CallStepX, givenOk, givWp, giv_spec]
  constructor
  · rintro ⟨σ', ⟨s1, ⟨f, vs, as, rv, outs, h1, h2, h3, h4, hg, h5, h6⟩, h7⟩, h8⟩
    subst h6
    refine ⟨hg, ?_⟩
    rw [h1]
    simp only [callArgsX, h2, callMkX]
    exact ⟨rv, outs, h3, h4, h5, σ', h7, h8⟩
  · rintro ⟨hg, h⟩
    unfold callArgsX at h
    split at h
    · rename_i f vs hvs
      unfold callMkX at h
      split at h
      · rename_i as has
        obtain ⟨rv, outs, h3, h4, h5, σ', h7, h8⟩ := h
        exact ⟨σ', ⟨_, ⟨f, vs, as, rv, outs, hvs, has, h3, h4, hg, h5, rfl⟩, h7⟩, h8⟩
      · exact h.elim
    · exact h.elim
theorem wpOp_callb : wpOp C d wb rd mr mw .callb os K ⟨m, b⟩ ↔ callArgsB C (rd.map (·.ev m)) d mr os K m b := by
  unfold wpOp wpOps ASteps
  simp only [AStep, wantedA, CallStepB]
  constructor
  · rintro ⟨σ', ⟨s1, ⟨f, vs, as, p, h1, h2, h3, h4, h6⟩, h7⟩, h8⟩
    subst h6
    rw [h1]
    simp only [callArgsB, h2, callMkB]
    exact ⟨.val p, [], h3, rfl, h4, σ', h7, h8⟩
  · intro h
    unfold callArgsB at h
    split at h
    · rename_i f vs hvs
      unfold callMkB at h
      split at h
      · rename_i as has
        obtain ⟨rv, outs, h3, rfl, h5⟩ := h
        split at h5
        · obtain ⟨h4, σ', h7, h8⟩ := h5
          exact ⟨σ', ⟨_, ⟨f, vs, as, _, hvs, has, h3, h4, rfl⟩, h7⟩, h8⟩
        · exact h5.elim
      · exact h.elim
    · exact h.elim
theorem callArgsB_fn {vs : List TV} : callArgsB C (.val (.fn f) :: vs) d mr os K m b ↔ callMkB C f (mkArgsB b mr vs) d os K m b := Iff.rfl
theorem callMkB_some : callMkB C f (some as) d os K m b ↔ callWp C f as (KCallB C d os K m b) := Iff.rfl
theorem KCallB_val {p : PV} : KCallB C d os K m b (.val p) [] ↔ p.bare = true ∧ wpOps C os K (Fr.put ⟨m, b⟩ d (.val p)) := by simp [KCallB]
theorem mkB_nil : mkArgsB b mr [] = some [] := rfl
def consB (x : Arg) : Option (List Arg) → Option (List Arg)
  | some as => some (x :: as)
  | none => none
theorem consB_some {x : Arg} {l : List Arg} : consB x (some l) = some (x :: l) := rfl
theorem mkB_val {p : PV} {vs : List TV} : mkArgsB b mr (.val p :: vs) = consB (.v p) (mkArgsB b mr vs) := by simp only [mkArgsB]; cases mkArgsB b mr vs <;> rfl
theorem mkB_own {e : Option TypeId} {c : Nat} {r : List (List PV)} {vs : List TV} : mkArgsB b mr (.ownE e c r :: vs) = consB (.v (.sl c r)) (mkArgsB b mr vs) := by simp only [mkArgsB]; cases mkArgsB b mr vs <;> rfl
theorem mkB_exc {c : Nat} {r : List (List PV)} {vs : List TV} : mkArgsB b mr (.exc c r :: vs) = consB (.v (.sl c r)) (mkArgsB b mr vs) := by simp only [mkArgsB]; cases mkArgsB b mr vs <;> rfl
theorem bare_int {k : IntKind} {n : Int} : PV.bare (.int k n) = true := rfl
theorem bare_bool {q : Bool} : PV.bare (.bool q) = true := rfl
theorem bare_ib {k : IntKind} {n : Int} {q : Bool} : PV.bare (.tup [.int k n, .bool q]) = true := rfl
theorem res_some {v : TV} {ws : List TV} {bs : List Blk} : resWp C (some (v, ws, bs)) d wb mw os K m b ↔ wpOps C os K ⟨setAll (Fr.put ⟨m, b⟩ d v).tmps wb ws, setAll b mw bs⟩ := Iff.rfl
theorem callArgs_fn {vs : List TV} : callArgs C (.val (.fn f) :: vs) d mw nref new os K m b ↔ callMk C f (mkArgs b vs (mw.take nref)) d mw nref new os K m b := Iff.rfl
theorem callMk_some : callMk C f (some as) d mw nref new os K m b ↔ callWp C f as (KCall C d mw nref new os K m b) := Iff.rfl
theorem KCall_val {p : PV} : KCall C d mw nref new os K m b (.val p) outs ↔ outs.length = nref ∧ wpOps C os K (Fr.put ⟨m, setAll b (mw.take nref) outs⟩ d (.val p)) := by simp [KCall, putRV]
theorem KCall_own {c : Nat} {r : List (List PV)} : KCall C d mw nref new os K m b (.own c r) outs ↔ outs.length = nref ∧ wpOps C os K (Fr.put ⟨m, setAll b (mw.take nref) outs⟩ d (.own c r)) := by simp [KCall, putRV]
theorem KCall_new {x : Blk} {d' : Nat} : KCall C (some d') mw nref new os K m b (.new x) outs ↔ outs.length = nref ∧ new = true ∧ mw.drop nref = [d'] ∧ get b d' = none ∧ wpOps C os K ⟨set m d' (.lp d' 0), set (setAll b (mw.take nref) outs) d' x⟩ := by
  simp [KCall, putRV, and_assoc]
theorem KCall_newm {x : Blk} {d' : Nat} : KCall C (some d') mw nref new os K m b (.newm x) outs ↔ outs.length = nref ∧ new = true ∧ mw.drop nref = [d'] ∧ get b d' = none ∧ wpOps C os K ⟨set m d' (.mp d'), set (setAll b (mw.take nref) outs) d' x⟩ := by
  simp [KCall, putRV, and_assoc]
theorem KCall_exc {c : Nat} {r : List (List PV)} : KCall C d mw nref new os K m b (.exc c r) outs ↔ outs.length = nref ∧ wpOps C os K (Fr.put ⟨m, setAll b (mw.take nref) outs⟩ d (.exc c r)) := by simp [KCall, putRV]
theorem callArgsX_fn {vs : List TV} : callArgsX C (.val (.fn f) :: vs) d wb mw nref new os K m b ↔ callMkX C f (mkArgsX b vs (mw.take nref)) d wb mw nref new os K m b := Iff.rfl
theorem callMkX_some : callMkX C f (some as) d wb mw nref new os K m b ↔ callWp C f as (KCallX C d wb mw nref new os K m b) := Iff.rfl
theorem KCallX_val {p : PV} : KCallX C d wb mw nref new os K m b (.val p) outs ↔ outs.length = nref ∧ wpOps C os K (Fr.put ⟨setAll m wb (wb.map fun _ => .undef), setAll b (mw.take nref) outs⟩ d (.val p)) := by simp [KCallX, putRV]
theorem KCallX_own {c : Nat} {r : List (List PV)} : KCallX C d wb mw nref new os K m b (.own c r) outs ↔ outs.length = nref ∧ wpOps C os K (Fr.put ⟨setAll m wb (wb.map fun _ => .undef), setAll b (mw.take nref) outs⟩ d (.own c r)) := by simp [KCallX, putRV]
theorem KCallX_exc {c : Nat} {r : List (List PV)} : KCallX C d wb mw nref new os K m b (.exc c r) outs ↔ outs.length = nref ∧ wpOps C os K (Fr.put ⟨setAll m wb (wb.map fun _ => .undef), setAll b (mw.take nref) outs⟩ d (.exc c r)) := by simp [KCallX, putRV]
theorem put_some {i : Nat} {v : TV} : Fr.put ⟨m, b⟩ (some i) v = ⟨set m i v, b⟩ := rfl
theorem put_none {v : TV} : Fr.put ⟨m, b⟩ none v = ⟨m, b⟩ := rfl

/-! ### Code -/
def Kreg (kt kb : List Nat) (Q : AExit → Fr → Prop) (σ : Fr) : Prop := match kill σ kt kb with
  | some σ' => Q .normal σ'
  | none => False
def Qseq (C : CallRel) (c : ACode) (Q : AExit → Fr → Prop) : AExit → Fr → Prop := fun e σ' => match e with | .normal => awp C c Q σ' | e => Q e σ'
def Qblock (id : Nat) (Q : AExit → Fr → Prop) : AExit → Fr → Prop := fun e σ' => match e with | .exit i => if i = id then Q .normal σ' else Q (.exit i) σ' | e => Q e σ'
def condWp (C : CallRel) (t : TV) (x y : ACode) (Q : AExit → Fr → Prop) (σ : Fr) : Prop := match t with
    | .val (.bool true) => awp C x Q σ
    | .val (.bool false) => awp C y Q σ
    | .anyb => awp C x Q σ ∧ awp C y Q σ
    | _ => False
theorem awp_skip : awp C .skip Q σ ↔ Q .normal σ := Iff.rfl
theorem awp_reg {ops : List AOp} {kt kb : List Nat} : awp C (.reg ops kt kb) Q σ ↔ wpOps C ops (Kreg kt kb Q) σ := by
  unfold awp wpOps Kreg
  constructor
  · rintro ⟨s1, s2, h1, h2, h3⟩
    exact ⟨s1, h1, by rw [h2]; exact h3⟩
  · rintro ⟨s1, h1, h2⟩
    split at h2
    · rename_i s2 h3
      exact ⟨s1, s2, h1, h3, h2⟩
    · exact h2.elim
theorem awp_seq {x y : ACode} : awp C (.seq x y) Q σ ↔ awp C x (Qseq C y Q) σ := Iff.rfl
theorem awp_cond {c : Opnd} {x y : ACode} : awp C (.cond c x y) Q ⟨m, b⟩ ↔ condWp C (c.ev m) x y Q ⟨m, b⟩ := Iff.rfl
theorem awp_block {id : Nat} {x : ACode} : awp C (.block id x) Q σ ↔ awp C x (Qblock id Q) σ := Iff.rfl
theorem awp_exit {id : Nat} : awp C (.exit id) Q σ ↔ Q (.exit id) σ := Iff.rfl
theorem awp_ret : awp C .ret Q σ ↔ Q .ret σ := Iff.rfl
theorem cond_t {x y : ACode} : condWp C (.val (.bool true)) x y Q σ ↔ awp C x Q σ := Iff.rfl
theorem cond_f {x y : ACode} : condWp C (.val (.bool false)) x y Q σ ↔ awp C y Q σ := Iff.rfl
theorem cond_any {x y : ACode} : condWp C .anyb x y Q σ ↔ awp C x Q σ ∧ awp C y Q σ := Iff.rfl
def closeW (v : TV) (x : Option Blk) (t d c : Nat) (Q : AExit → Fr → Prop) (m : List (Nat × TV)) (b : List (Nat × Blk)) : Prop := match v, x with
  | .xs s c' n, some (.cellsE none cs) => match pvs cs with
    | some ps => (s = d ∧ c' = c ∧ ps.length = n * c ∧ (∀ p ∈ ps, p.one = true) ∧ (del m [t]).all (fun e => e.2.rf != some d) = true) ∧ Q .normal ⟨set m t (.exc c (chunks c n ps)), del b [d]⟩
    | none => False
  | .exc c' [], none => c' = c ∧ Q .normal ⟨m, b⟩
  | _, _ => False
theorem awp_close {t d c : Nat} : awp C (.close t d c) Q ⟨m, b⟩ ↔ closeW (tget m t) (get b d) t d c Q m b := by
  unfold awp closeFr closeFr0 closeW
  cases tget m t with
  | xs s c' n =>
    cases get b d with
    | none => simp
    | some x =>
      cases x with
      | cellsE e cs =>
        cases e with
        | none =>
          simp only
          cases pvs cs with
          | none => simp
          | some ps =>
            simp only
            constructor
            · rintro ⟨s', h1, h2⟩
              split at h1
              · rename_i hc; cases h1; exact ⟨hc, h2⟩
              · cases h1
            · rintro ⟨h1, h2⟩
              exact ⟨_, by rw [if_pos h1], h2⟩
        | some e => simp
      | _ => simp
  | exc c' r =>
    cases r with
    | cons x r => simp
    | nil =>
      cases get b d with
      | some x => simp
      | none =>
        simp only
        constructor
        · rintro ⟨s', h1, h2⟩
          split at h1
          · rename_i hc; cases h1; exact ⟨hc, h2⟩
          · cases h1
        · rintro ⟨h1, h2⟩
          exact ⟨_, by rw [if_pos h1], h2⟩
  | _ => simp
def openW (v : TV) (x : Option Blk) (t d c : Nat) (Q : AExit → Fr → Prop) (m : List (Nat × TV)) (b : List (Nat × Blk)) : Prop := match v, x with
  | .exc c' r, none => (c' = c ∧ r ≠ []) ∧ Q .normal ⟨set m t (.xs d c r.length), set b d (.cells (r.flatten.map .val))⟩
  | _, _ => False
theorem awp_opn {t d c : Nat} : awp C (.opn t d c) Q ⟨m, b⟩ ↔ openW (tget m t) (get b d) t d c Q m b := by
  unfold awp openFr openW
  cases tget m t with
  | exc c' r =>
    cases get b d with
    | some x => simp
    | none =>
      simp only
      constructor
      · rintro ⟨s', h1, h2⟩
        split at h1
        · rename_i hc; cases h1; exact ⟨hc, h2⟩
        · cases h1
      · rintro ⟨h1, h2⟩
        exact ⟨_, by rw [if_pos h1], h2⟩
  | _ => simp
theorem openW_exc {t d c : Nat} {r : List (List PV)} (h : r ≠ []) : openW (.exc c r) none t d c Q m b ↔ Q .normal ⟨set m t (.xs d c r.length), set b d (.cells (r.flatten.map .val))⟩ := by simp [openW, h]
theorem Qseq_n {c : ACode} : Qseq C c Q .normal σ ↔ awp C c Q σ := Iff.rfl
theorem Qseq_e {c : ACode} {i : Nat} : Qseq C c Q (.exit i) σ ↔ Q (.exit i) σ := Iff.rfl
theorem Qseq_r {c : ACode} : Qseq C c Q .ret σ ↔ Q .ret σ := Iff.rfl
theorem Qblock_n {id : Nat} : Qblock id Q .normal σ ↔ Q .normal σ := Iff.rfl
theorem Qblock_r {id : Nat} : Qblock id Q .ret σ ↔ Q .ret σ := Iff.rfl
theorem Qblock_e {id i : Nat} : Qblock id Q (.exit i) σ ↔ if i = id then Q .normal σ else Q (.exit i) σ := Iff.rfl
def has : List Nat → Nat → Bool
  | [], _ => false
  | x :: xs, i => bif x == i then true else has xs i
theorem has_eq (i : Nat) : ∀ xs : List Nat, has xs i = xs.contains i
  | [] => rfl
  | x :: xs => by
    simp only [has, List.contains_cons, has_eq i xs]
    by_cases h : x = i
    · subst h; simp
    · have h' : ¬ i = x := fun e => h e.symm
      rw [show (x == i) = false by simpa using h, show (i == x) = false by simpa using h']; simp
theorem has_hit {i : Nat} {xs : List Nat} : has (i :: xs) i = true := by simp [has]
theorem has_miss {i j : Nat} {xs : List Nat} (h : (j == i) = false) : has (j :: xs) i = has xs i := by simp [has, h]
theorem has_nil {i : Nat} : has [] i = false := rfl
/-- What is told of the state's temporaries, and blocks, in one go: each alone. -/
def delB (xs : List Nat) : List (Nat × TV) → List (Nat × TV)
  | [] => []
  | e :: m => bif has xs e.1 then delB xs m else e :: delB xs m
def clear (kb : List Nat) : List (Nat × TV) → Bool
  | [] => true
  | (_, .lp s _) :: m => !has kb s && clear kb m
  | (_, .xs s _ _) :: m => !has kb s && clear kb m
  | (_, .mp s) :: m => !has kb s && clear kb m
  | _ :: m => clear kb m
def killWp (kb : List Nat) (Q : AExit → Fr → Prop) (m : List (Nat × TV)) (b : List (Nat × Blk)) (ok : Bool) : Prop := ok = true ∧ Q .normal ⟨m, b⟩
theorem delB_eq (xs : List Nat) (m : List (Nat × TV)) : delB xs m = del m xs := by
  induction m with
  | nil => rfl
  | cons e m ih =>
    unfold del at ih ⊢
    simp only [delB, List.filter_cons, ih, has_eq]
    cases xs.contains e.1 <;> simp
theorem clear_eq (kb : List Nat) : ∀ m : List (Nat × TV), clear kb m = m.all (fun e => match e.2 with | .lp s _ => !kb.contains s | .xs s _ _ => !kb.contains s | .mp s => !kb.contains s | _ => true)
  | [] => rfl
  | (i, v) :: m => by
    have := clear_eq kb m
    cases v <;> simp only [clear, List.all_cons, this, Bool.true_and, has_eq]
theorem clear_nil (m : List (Nat × TV)) : clear [] m = true := by
  rw [clear_eq]; simp only [List.all_eq_true]; intro e _; split <;> rfl
theorem delB_nil (m : List (Nat × TV)) : delB [] m = m := by
  rw [delB_eq]; simp [del]
theorem Kreg_eq {kt kb : List Nat} : Kreg kt kb Q ⟨m, b⟩ ↔ killWp kb Q (delB kt m) (del b kb) (clear kb (delB kt m)) := by
  unfold Kreg kill killWp
  simp only [delB_eq, clear_eq]
  generalize (List.all (del m kt) _) = c
  cases c <;> simp
theorem killWp_t {kb : List Nat} : killWp kb Q m b true ↔ Q .normal ⟨m, b⟩ := by simp [killWp]
theorem delB_in {xs : List Nat} {i : Nat} {v : TV} (h : has xs i = true) : delB xs ((i, v) :: m) = delB xs m := by simp only [delB, h]; rfl
theorem delB_out {xs : List Nat} {i : Nat} {v : TV} (h : has xs i = false) : delB xs ((i, v) :: m) = (i, v) :: delB xs m := by simp only [delB, h]; rfl
theorem delB_e {xs : List Nat} : delB xs [] = [] := rfl
theorem del_nil : del b [] = b := by unfold del; rw [List.filter_eq_self]; intro a _; rfl
theorem del_in {xs : List Nat} {i : Nat} {v : Blk} (h : has xs i = true) : del ((i, v) :: b) xs = del b xs := by rw [has_eq] at h; simp only [del, List.filter_cons, h]; rfl
theorem del_out {xs : List Nat} {i : Nat} {v : Blk} (h : has xs i = false) : del ((i, v) :: b) xs = (i, v) :: del b xs := by rw [has_eq] at h; simp only [del, List.filter_cons, h]; rfl
theorem del_e {xs : List Nat} : del ([] : List (Nat × Blk)) xs = [] := rfl
theorem clear_e {kb : List Nat} : clear kb [] = true := rfl
theorem clear_lp {kb : List Nat} {i s o : Nat} (h : has kb s = false) : clear kb ((i, .lp s o) :: m) = clear kb m := by simp only [clear, h]; rfl
theorem clear_xs {kb : List Nat} {i s c n : Nat} (h : has kb s = false) : clear kb ((i, .xs s c n) :: m) = clear kb m := by simp only [clear, h]; rfl
theorem clear_mp {kb : List Nat} {i s : Nat} (h : has kb s = false) : clear kb ((i, .mp s) :: m) = clear kb m := by simp only [clear, h]; rfl
theorem clear_exc {kb : List Nat} {i c : Nat} {r : List (List PV)} : clear kb ((i, .exc c r) :: m) = clear kb m := rfl
theorem clear_tag {kb : List Nat} {i : Nat} {cs : List PV} {ns : List Nat} : clear kb ((i, .tag cs ns) :: m) = clear kb m := rfl
theorem clear_anyb {kb : List Nat} {i : Nat} : clear kb ((i, .anyb) :: m) = clear kb m := rfl
theorem givT_exc {wb : List Nat} {n c : Nat} {r : List (List PV)} : givT wb n (.exc c r) = has wb n := by simp [givT, has_eq]
theorem givT_val {wb : List Nat} {n : Nat} {p : PV} : givT wb n (.val p) = true := rfl
theorem givT_own {wb : List Nat} {e0 : Option TypeId} {n c : Nat} {r : List (List PV)} : givT wb n (.ownE e0 c r) = true := rfl
theorem givT_lp {wb : List Nat} {n s o : Nat} : givT wb n (.lp s o) = true := rfl
theorem clear_val {kb : List Nat} {i : Nat} {p : PV} : clear kb ((i, .val p) :: m) = clear kb m := rfl
theorem clear_own {e0 : Option TypeId} {kb : List Nat} {i c : Nat} {r : List (List PV)} : clear kb ((i, .ownE e0 c r) :: m) = clear kb m := rfl
theorem clear_rp {kb : List Nat} {i c : Nat} {r : List PV} : clear kb ((i, .rp r c) :: m) = clear kb m := rfl
theorem clear_undef {kb : List Nat} {i : Nat} : clear kb ((i, .undef) :: m) = clear kb m := rfl
theorem clear_self {kb : List Nat} {i : Nat} : clear kb ((i, .self) :: m) = clear kb m := rfl

/-! ### Maps -/
theorem get_hit {α : Type} {i : Nat} {x : α} {l : List (Nat × α)} : get ((i, x) :: l) i = some x := by simp [get]
theorem get_miss {α : Type} {i j : Nat} {x : α} {l : List (Nat × α)} (h : (j == i) = false) : get ((i, x) :: l) j = get l j := by
  have : ¬ j = i := by simpa using h
  simp [get, this]
theorem get_e {α : Type} {i : Nat} : get ([] : List (Nat × α)) i = none := rfl
theorem tget_hit {i : Nat} {x : TV} {l : List (Nat × TV)} : tget ((i, x) :: l) i = x := by simp [tget, get]
theorem tget_miss {i j : Nat} {x : TV} {l : List (Nat × TV)} (h : (j == i) = false) : tget ((i, x) :: l) j = tget l j := by
  unfold tget; rw [get_miss h]
theorem tget_e {i : Nat} : tget [] i = .undef := rfl
theorem set_e {α : Type} {i : Nat} {x : α} : set [] i x = [(i, x)] := rfl
theorem set_lt {α : Type} {i j : Nat} {x y : α} {l : List (Nat × α)} (h : i < j) : set ((j, y) :: l) i x = (i, x) :: (j, y) :: l := by simp [set, h]
theorem set_hit {α : Type} {i : Nat} {x y : α} {l : List (Nat × α)} : set ((i, y) :: l) i x = (i, x) :: l := by simp [set]
theorem set_gt {α : Type} {i j : Nat} {x y : α} {l : List (Nat × α)} (h : j < i) : set ((j, y) :: l) i x = (j, y) :: set l i x := by
  simp only [set]
  rw [if_neg (by omega), if_neg (by omega)]
theorem ev_t {n : Nat} : Opnd.ev m (.t n) = tget m n := rfl
theorem ev_c {p : PV} : Opnd.ev m (.c p) = .val p := rfl
theorem setAllN {α : Type} {l : List (Nat × α)} {bs : List α} : setAll l [] bs = l := rfl
theorem setAllC {α : Type} {l : List (Nat × α)} {i : Nat} {is : List Nat} {x : α} {bs : List α} : setAll l (i :: is) (x :: bs) = setAll (set l i x) is bs := rfl
theorem ro_val {p : PV} : (TV.val p).ro = .val p := rfl
theorem ro_own {e0 : Option TypeId} {c : Nat} {r : List (List PV)} : (TV.ownE e0 c r).ro = .val (.sl c r) := rfl
theorem ro_lp {s o : Nat} : (TV.lp s o).ro = .lp s o := rfl
theorem ro_rp {r : List PV} {o : Nat} : (TV.rp r o).ro = .rp r o := rfl
theorem ro_exc {c : Nat} {r : List (List PV)} : (TV.exc c r).ro = .undef := rfl
theorem ro_xs {s c n : Nat} : (TV.xs s c n).ro = .xs s c n := rfl
theorem ro_anyb : TV.anyb.ro = .anyb := rfl
theorem ro_mp {s : Nat} : (TV.mp s).ro = .mp s := rfl
theorem ro_tag {cs : List PV} {ns : List Nat} : (TV.tag cs ns).ro = .val (.agg cs) := rfl
theorem ro_undef : TV.undef.ro = .undef := rfl
theorem pv_tag {cs : List PV} {ns : List Nat} : (TV.tag cs ns).pv = some (.agg cs) := rfl
theorem pv_val {p : PV} : (TV.val p).pv = some p := rfl
theorem pv_own {e0 : Option TypeId} {c : Nat} {r : List (List PV)} : (TV.ownE e0 c r).pv = some (.sl c r) := rfl
theorem mkArgsX_nil {b : List (Nat × Blk)} : mkArgsX b [] [] = some [] := rfl
theorem mkArgsX_val {b : List (Nat × Blk)} {p : PV} {vs : List TV} {ss : List Nat} : mkArgsX b (.val p :: vs) ss = (mkArgsX b vs ss).map (.v p :: ·) := by
  simp only [mkArgsX]; cases mkArgsX b vs ss <;> rfl
theorem mkArgsX_own {e0 : Option TypeId} {b : List (Nat × Blk)} {c : Nat} {r : List (List PV)} {vs : List TV} {ss : List Nat} : mkArgsX b (.ownE e0 c r :: vs) ss = (mkArgsX b vs ss).map (.v (.sl c r) :: ·) := by
  simp only [mkArgsX]; cases mkArgsX b vs ss <;> rfl
theorem mkArgsX_exc {b : List (Nat × Blk)} {c : Nat} {r : List (List PV)} {vs : List TV} {ss : List Nat} : mkArgsX b (.exc c r :: vs) ss = (mkArgsX b vs ss).map (.x c r :: ·) := by
  simp only [mkArgsX]; cases mkArgsX b vs ss <;> rfl
theorem mkArgsX_lp {b : List (Nat × Blk)} {s : Nat} {vs : List TV} {ss : List Nat} : mkArgsX b (.lp s 0 :: vs) (s :: ss) = (get b s).bind fun x => (mkArgsX b vs ss).map (.r x :: ·) := by
  simp only [mkArgsX, if_true]; cases get b s <;> cases mkArgsX b vs ss <;> rfl
theorem mkArgs_nil {b : List (Nat × Blk)} : mkArgs b [] [] = some [] := rfl
theorem mkArgs_val {b : List (Nat × Blk)} {p : PV} {vs : List TV} {ss : List Nat} : mkArgs b (.val p :: vs) ss = (mkArgs b vs ss).map (.v p :: ·) := by
  simp only [mkArgs]; cases mkArgs b vs ss <;> rfl
theorem mkArgs_own {e0 : Option TypeId} {b : List (Nat × Blk)} {c : Nat} {r : List (List PV)} {vs : List TV} {ss : List Nat} : mkArgs b (.ownE e0 c r :: vs) ss = (mkArgs b vs ss).map (.v (.sl c r) :: ·) := by
  simp only [mkArgs]; cases mkArgs b vs ss <;> rfl
theorem mkArgs_lp {b : List (Nat × Blk)} {s : Nat} {vs : List TV} {ss : List Nat} : mkArgs b (.lp s 0 :: vs) (s :: ss) = (get b s).bind fun x => (mkArgs b vs ss).map (.r x :: ·) := by
  simp only [mkArgs, if_true]; cases get b s <;> cases mkArgs b vs ss <;> rfl

/-! ### Ends -/
def retR (rs : List ARes) (n : Nat) (σ : Fr) : Option RV := retA ⟨0, 0, rs, .skip⟩ n σ
def QRet (n : Nat) (rs : List ARes) (as : List Arg) (rv : RV) (outs : List Blk) : AExit → Fr → Prop := fun e σ => (match e with | .exit _ => False | _ => True) ∧ retR rs n σ = some rv ∧ outsA σ as 0 = some outs
theorem QRet_n {n : Nat} {rs : List ARes} : QRet n rs as rv outs .normal σ ↔ retR rs n σ = some rv ∧ outsA σ as 0 = some outs := by simp [QRet]
theorem QRet_r {n : Nat} {rs : List ARes} : QRet n rs as rv outs .ret σ ↔ retR rs n σ = some rv ∧ outsA σ as 0 = some outs := by simp [QRet]
theorem gives_of {fn : AFun} (h : as.length = fn.nparams) (k : awp C fn.body (QRet fn.nparams fn.results as rv outs) (initA as 0)) : fn.gives C as rv outs := ⟨h, k⟩
/-- What is handed back. -/
def retTV (n : Nat) (b : List (Nat × Blk)) : TV → Option RV
  | .val p => some (.val p)
  | .ownE _ c rows => some (.own c rows)
  | .exc c rows => some (.exc c rows)
  | .lp s 0 => if n ≤ s then (get b s).map .new else none
  | .mp s => if n ≤ s then (get b s).map .newm else none
  | _ => none
theorem retR_tmp {n t : Nat} : retR [.tmp t] n ⟨m, b⟩ = retTV n b (tget m t) := by
  simp only [retR, retA, resA]
  cases tget m t with
  | lp s o =>
    cases o with
    | zero => simp only [retTV]; split <;> first | rfl | (cases get b s <;> rfl)
    | succ o => rfl
  | mp s => simp only [retTV]; split <;> first | rfl | (cases get b s <;> rfl)
  | _ => rfl
theorem retTV_mp {n s : Nat} : retTV n b (.mp s) = if n ≤ s then (get b s).map .newm else none := rfl
theorem retTV_val {n : Nat} {p : PV} : retTV n b (.val p) = some (.val p) := rfl
theorem retTV_own {e0 : Option TypeId} {n c : Nat} {r : List (List PV)} : retTV n b (.ownE e0 c r) = some (.own c r) := rfl
theorem retTV_exc {n c : Nat} {r : List (List PV)} : retTV n b (.exc c r) = some (.exc c r) := rfl
theorem retTV_lp {n s : Nat} : retTV n b (.lp s 0) = if n ≤ s then (get b s).map .new else none := rfl
/-- A named result's value. -/
def cellTV (b : List (Nat × Blk)) (agg : Bool) (k : Nat) : TV → Option TV
  | .lp s off => (get b s).bind fun x => match x with
    | .cellsE _ cs => if agg then (pvs ((cs.drop off).take k)).bind fun ps => if ps.length = k then some (.val (.agg ps)) else none else (cs[off]?).map TV.ro
    | _ => none
  | _ => none
theorem resA_cell {t k : Nat} {agg : Bool} : resA ⟨m, b⟩ (.cell t agg k) = cellTV b agg k (tget m t) := by
  simp only [resA, cellTV]
  cases tget m t with
  | lp s o =>
    simp only
    cases get b s with
    | none => rfl
    | some x =>
      cases x with
      | cellsE e0 cs =>
        simp only [Option.bind_some]
        cases agg
        · simp only [Bool.false_eq_true, if_false]; cases cs[o]? <;> rfl
        · simp only [if_true]; cases pvs ((cs.drop o).take k) <;> rfl
      | _ => rfl
  | _ => rfl
def blkC (f : List TV → Option TV) : Blk → Option TV
  | .cellsE _ cs => f cs
  | _ => none
theorem cellTV_a {s o k : Nat} : cellTV b true k (.lp s o) = (get b s).bind (blkC fun cs => (pvs ((cs.drop o).take k)).bind fun ps => if ps.length = k then some (.val (.agg ps)) else none) := by
  simp only [cellTV]; cases get b s with
  | none => rfl
  | some x => cases x <;> simp [blkC]
theorem cellTV_o {s o k : Nat} : cellTV b false k (.lp s o) = (get b s).bind (blkC fun cs => (cs[o]?).map TV.ro) := by
  simp only [cellTV]; cases get b s with
  | none => rfl
  | some x => cases x <;> simp [blkC]
theorem blkC_c {e0 : Option TypeId} {f : List TV → Option TV} {cs : List TV} : blkC f (.cellsE e0 cs) = f cs := rfl
theorem retR_cell {n t k : Nat} {agg : Bool} : retR [.cell t agg k] n ⟨m, b⟩ = (cellTV b agg k (tget m t)).bind (retTV n b) := by
  have e := resA_cell (m := m) (b := b) (t := t) (k := k) (agg := agg)
  simp only [retR, retA, e]
  cases cellTV b agg k (tget m t) with
  | none => rfl
  | some v =>
    cases v with
    | lp s o =>
      cases o with
      | zero => simp only [Option.bind_some, retTV]; split <;> first | rfl | (cases get b s <;> rfl)
      | succ o => rfl
    | mp s => simp only [Option.bind_some, retTV]; split <;> first | rfl | (cases get b s <;> rfl)
    | _ => rfl
theorem retR_nil {n : Nat} : retR [] n σ = some (.val (.tup [])) := rfl
theorem retR_two {n : Nat} {r1 r2 : ARes} {rs : List ARes} : retR (r1 :: r2 :: rs) n σ = (ressA σ (r1 :: r2 :: rs)).map (fun ps => .val (.tup ps)) := by
  simp only [retR, retA]; cases ressA σ (r1 :: r2 :: rs) <;> rfl
theorem ressA_nil : ressA σ [] = some [] := rfl
theorem ressA_cons {r : ARes} {rs : List ARes} : ressA σ (r :: rs) = (resA σ r).bind fun v => v.pv.bind fun p => (ressA σ rs).map (p :: ·) := by
  simp only [ressA]
  cases resA σ r with
  | none => rfl
  | some v => cases ressA σ rs <;> cases h : v.pv <;> simp [h]
theorem resA_tmp {t : Nat} : resA ⟨m, b⟩ (.tmp t) = some (tget m t) := rfl
theorem outsA_nil {i : Nat} : outsA σ [] i = some [] := rfl
theorem outsA_v {i : Nat} {p : PV} : outsA σ (.v p :: as) i = outsA σ as (i + 1) := rfl
theorem outsA_x {i c : Nat} {r : List (List PV)} : outsA σ (.x c r :: as) i = outsA σ as (i + 1) := rfl
theorem outsA_r {i : Nat} {x : Blk} : outsA ⟨m, b⟩ (.r x :: as) i = (get b i).bind fun y => (outsA ⟨m, b⟩ as (i + 1)).map (y :: ·) := by
  simp only [outsA]; cases get b i <;> cases outsA ⟨m, b⟩ as (i + 1) <;> rfl
theorem initA_v {i : Nat} {p : PV} : initA (.v p :: as) i = (fun σ : Fr => ⟨(i, .val p) :: σ.tmps, σ.mem⟩) (initA as (i + 1)) := rfl
theorem initA_x {i c : Nat} {r : List (List PV)} : initA (.x c r :: as) i = (fun σ : Fr => ⟨(i, .exc c r) :: σ.tmps, σ.mem⟩) (initA as (i + 1)) := rfl
theorem initA_r {i : Nat} {x : Blk} : initA (.r x :: as) i = (fun σ : Fr => ⟨(i, .lp i 0) :: σ.tmps, (i, x) :: σ.mem⟩) (initA as (i + 1)) := rfl

/-! ### Rules -/
theorem awp_mono : ∀ (c : ACode) {Q Q' : AExit → Fr → Prop} {σ : Fr}, (∀ e σ', Q e σ' → Q' e σ') → awp C c Q σ → awp C c Q' σ
  | .skip, Q, Q', σ, h, k => h _ _ k
  | .reg _ _ _, Q, Q', σ, h, k => by obtain ⟨s1, s2, h1, h2, h3⟩ := k; exact ⟨s1, s2, h1, h2, h _ _ h3⟩
  | .seq a b, Q, Q', σ, h, k => by
    refine awp_mono a (fun e σ' hh => ?_) k
    cases e with
    | normal => exact awp_mono b h hh
    | _ => exact h _ _ hh
  | .cond c a b, Q, Q', σ, h, k => by
    unfold awp at k ⊢
    split at k
    · exact awp_mono a h k
    · exact awp_mono b h k
    · exact ⟨awp_mono a h k.1, awp_mono b h k.2⟩
    · exact k.elim
  | .block id a, Q, Q', σ, h, k => by
    refine awp_mono a (fun e σ' hh => ?_) k
    cases e with
    | exit i =>
      simp only at hh ⊢
      split
      · rename_i e; rw [if_pos e] at hh; exact h _ _ hh
      · rename_i e; rw [if_neg e] at hh; exact h _ _ hh
    | _ => exact h _ _ hh
  | .loop a, Q, Q', σ, h, k => by
    obtain ⟨n, k⟩ := k
    refine ⟨n, ?_⟩
    induction n generalizing σ with
    | zero => exact k.elim
    | succ n ih =>
      refine awp_mono a (fun e σ' hh => ?_) k
      cases e with
      | normal => exact ih (σ := σ') hh
      | _ => exact h _ _ hh
  | .exit id, Q, Q', σ, h, k => h _ _ k
  | .ret, Q, Q', σ, h, k => h _ _ k
  | .close t d c, Q, Q', σ, h, k => by obtain ⟨s', h1, h2⟩ := k; exact ⟨s', h1, h _ _ h2⟩
  | .opn t d c, Q, Q', σ, h, k => by obtain ⟨s', h1, h2⟩ := k; exact ⟨s', h1, h _ _ h2⟩

theorem iterA_mono {W : (AExit → Fr → Prop) → Fr → Prop} (hW : ∀ (Q Q' : AExit → Fr → Prop) (σ : Fr), (∀ e σ', Q e σ' → Q' e σ') → W Q σ → W Q' σ) {Q Q' : AExit → Fr → Prop} (h : ∀ e σ', Q e σ' → Q' e σ') :
    ∀ (n n' : Nat) (σ : Fr), n ≤ n' → iterA W Q n σ → iterA W Q' n' σ
  | 0, _, _, _, k => k.elim
  | n + 1, 0, _, hn, _ => by omega
  | n + 1, n' + 1, σ, hn, k => by
    refine hW _ _ _ (fun e σ' hh => ?_) k
    cases e with
    | normal => exact iterA_mono (W := W) hW h n n' σ' (by omega) hh
    | _ => exact h _ _ hh
/-- How many rounds it takes: as many for all ends. -/
theorem awp_ex : ∀ (c : ACode) {P : Nat → AExit → Fr → Prop} {σ : Fr}, (∀ n n' e σ', n ≤ n' → P n e σ' → P n' e σ') → awp C c (fun e σ' => ∃ n, P n e σ') σ → ∃ n, awp C c (P n) σ
  | .skip, P, σ, _, k => k
  | .reg _ _ _, P, σ, _, k => by obtain ⟨s1, s2, h1, h2, n, h3⟩ := k; exact ⟨n, s1, s2, h1, h2, h3⟩
  | .seq a b, P, σ, hP, k => by
    refine awp_ex a (P := fun n e σ' => match e with | .normal => awp C b (P n) σ' | e => P n e σ') (fun n n' e σ' hn hh => ?_) (awp_mono a (fun e σ' hh => ?_) k)
    · cases e with
      | normal => exact awp_mono b (fun e σ' h => hP n n' e σ' hn h) hh
      | _ => exact hP n n' _ _ hn hh
    · cases e with
      | normal => exact awp_ex b hP hh
      | _ => exact hh
  | .cond c a b, P, σ, hP, k => by
    unfold awp at k ⊢
    split at k
    · exact awp_ex a hP k
    · exact awp_ex b hP k
    · obtain ⟨n1, h1⟩ := awp_ex a hP k.1
      obtain ⟨n2, h2⟩ := awp_ex b hP k.2
      exact ⟨max n1 n2, awp_mono a (fun e σ' h => hP n1 _ e σ' (Nat.le_max_left _ _) h) h1, awp_mono b (fun e σ' h => hP n2 _ e σ' (Nat.le_max_right _ _) h) h2⟩
    · exact k.elim
  | .block id a, P, σ, hP, k => by
    refine awp_ex a (P := fun n e σ' => match e with | .exit i => if i = id then P n .normal σ' else P n (.exit i) σ' | e => P n e σ') (fun n n' e σ' hn hh => ?_) (awp_mono a (fun e σ' hh => ?_) k)
    · cases e with
      | exit i =>
        simp only at hh ⊢
        split
        · rename_i e; rw [if_pos e] at hh; exact hP n n' _ _ hn hh
        · rename_i e; rw [if_neg e] at hh; exact hP n n' _ _ hn hh
      | _ => exact hP n n' _ _ hn hh
    · cases e with
      | exit i =>
        simp only at hh ⊢
        by_cases hi : i = id
        · simp only [hi, if_true] at hh ⊢; exact hh
        · simp only [hi, if_false] at hh ⊢; exact hh
      | _ => exact hh
  | .loop a, P, σ, hP, k => by
    obtain ⟨r, k⟩ := k
    suffices h : ∀ (r : Nat) (σ : Fr), iterA (awp C a) (fun e σ' => ∃ n, P n e σ') r σ → ∃ n, iterA (awp C a) (P n) r σ by
      obtain ⟨n, h⟩ := h r σ k
      exact ⟨n, r, h⟩
    intro r
    induction r with
    | zero => intro σ k; exact k.elim
    | succ r ih =>
      intro σ k
      refine awp_ex a (P := fun n e σ' => match e with | .normal => iterA (awp C a) (P n) r σ' | e => P n e σ') (fun n n' e σ' hn hh => ?_) (awp_mono a (fun e σ' hh => ?_) k)
      · cases e with
        | normal => exact iterA_mono (W := awp C a) (fun _ _ _ h k => awp_mono a h k) (fun e σ' h => hP n n' e σ' hn h) r r σ' (Nat.le_refl _) hh
        | _ => exact hP n n' _ _ hn hh
      · cases e with
        | normal => exact ih σ' hh
        | _ => exact hh
  | .exit id, P, σ, _, k => k
  | .ret, P, σ, _, k => k
  | .close t d c, P, σ, _, k => by obtain ⟨s', h1, n, h2⟩ := k; exact ⟨n, s', h1, h2⟩
  | .opn t d c, P, σ, _, k => by obtain ⟨s', h1, n, h2⟩ := k; exact ⟨n, s', h1, h2⟩

/-- A round, and the loop again. -/
def Qloop (C : CallRel) (a : ACode) (Q : AExit → Fr → Prop) : AExit → Fr → Prop := fun e σ' => match e with | .normal => awp C (.loop a) Q σ' | e => Q e σ'
theorem awp_loop {a : ACode} (k : awp C a (Qloop C a Q) σ) : awp C (.loop a) Q σ := by
  obtain ⟨n, h⟩ := awp_ex a (P := fun n e σ' => match e with | .normal => iterA (awp C a) Q n σ' | e => Q e σ') (σ := σ) (fun n n' e σ' hn hh => by
    cases e with
    | normal => exact iterA_mono (W := awp C a) (fun _ _ _ h k => awp_mono a h k) (fun _ _ h => h) n n' σ' hn hh
    | _ => exact hh) (awp_mono a (fun e σ' hh => by
    cases e with
    | normal => exact hh
    | _ => exact ⟨0, hh⟩) k)
  exact ⟨n + 1, h⟩
/-- A round; what is wanted of the loop's head is 'R'. -/
def Qround (R : Fr → Prop) (Q : AExit → Fr → Prop) : AExit → Fr → Prop := fun e σ' => match e with | .normal => R σ' | e => Q e σ'
theorem Qround_n {R : Fr → Prop} : Qround R Q .normal σ ↔ R σ := Iff.rfl
theorem Qround_e {R : Fr → Prop} {i : Nat} : Qround R Q (.exit i) σ ↔ Q (.exit i) σ := Iff.rfl
theorem Qround_r {R : Fr → Prop} : Qround R Q .ret σ ↔ Q .ret σ := Iff.rfl
theorem awp_loop_ind {X : Type} {a : ACode} (st : X → Fr) (J : X → Prop) (μ : X → Nat) (x : X) (hx : J x) (hs : σ = st x)
    (h : ∀ (R : Fr → Prop) (x : X), J x → (∀ y, J y → μ y < μ x → R (st y)) → awp C a (Qround R Q) (st x)) : awp C (.loop a) Q σ := by
  subst hs
  generalize hn : μ x = n
  induction n using Nat.strongRecOn generalizing x with
  | ind n ih =>
    refine awp_loop (awp_mono a ?_ (h (awp C (.loop a) Q) x hx fun y hy hlt => ih (μ y) (by omega) y hy rfl))
    intro e σ' hh
    cases e <;> exact hh
theorem Qloop_n {a : ACode} : Qloop C a Q .normal σ ↔ awp C (.loop a) Q σ := Iff.rfl
theorem Qloop_e {a : ACode} {i : Nat} : Qloop C a Q (.exit i) σ ↔ Q (.exit i) σ := Iff.rfl
theorem Qloop_r {a : ACode} : Qloop C a Q .ret σ ↔ Q .ret σ := Iff.rfl
end

theorem wrap64 {n : Int} (h1 : -9223372036854775808 ≤ n) (h2 : n ≤ 9223372036854775807) : IntKind.i64.wrap n = n := by
  unfold IntKind.wrap
  simp [IntKind.bits, IntKind.signed]
  omega
end Go.AR
