import Derived.Test.YtlhahjlnhkokcaaG01
import Derived.Laws.AppendOwn
import Derived.Below
import Derived.Calls
import Derived.Orders
import Derived.Laws.IdiomRangeMap
set_option linter.all false
/-! What values, temporaries and blocks of the abstract machine are in the model's world. -/
namespace Go.AR

/-- Who may write, or append to, a block. -/
inductive Occ where
  | blk (s : Nat)
  | tmp (t : Nat)
  | cell (s i : Nat)
  deriving DecidableEq

/-- 'G b': how many of the first cells of block b stay as they are for ever. -/
inductive Rep (w : World) (G : Nat → Nat) : PV → Value → Prop where
  | int (k : IntKind) (n : Int) : Rep w G (.int k n) (.int k n)
  | bool (b : Bool) : Rep w G (.bool b) (.bool b)
  | str (l : List UInt8) : Rep w G (.str l) (.string ⟨⟨l⟩⟩)
  | nilif : Rep w G .nilif .nilIface
  | nilp : Rep w G .nilp (.pointer none)
  | fn (f : FuncId) : Rep w G (.fn f) (.func (.func f) #[] #[])
  | agg (cs : List PV) (vs : Array Value) (hl : vs.size = cs.length) (h : ∀ (i : Nat) (p : PV) (v : Value), cs[i]? = some p → vs[i]? = some v → Rep w G p v)
      (h1 : ∀ p ∈ cs, p.one = true) : Rep w G (.agg cs) (.agg vs)
  | tup (ps : List PV) (vs : Array Value) (hl : vs.size = ps.length) (h : ∀ (i : Nat) (p : PV) (v : Value), ps[i]? = some p → vs[i]? = some v → Rep w G p v) :
      Rep w G (.tup ps) (.tuple vs)
  | sl0 (c : Nat) (A : Option Addr) (cap : Nat) : Rep w G (.sl c []) (.slice A 0 cap)
  | sl (c : Nat) (rows : List (List PV)) (b off cap : Nat) (f : Nat → Value) (hc : ∀ r ∈ rows, r.length = c) (hG : off + rows.flatten.length ≤ G b)
      (hv : ∀ j, j < rows.flatten.length → w.cell? ⟨b, off + j, none⟩ = some (f j))
      (h : ∀ (j : Nat) (p : PV), rows.flatten[j]? = some p → Rep w G p (f j)) (h1 : ∀ p ∈ rows.flatten, p.one = true) (hcap : rows.length ≤ cap) :
      Rep w G (.sl c rows) (.slice (some ⟨b, off, none⟩) rows.length cap)

structure GExt (w : World) (G : Nat → Nat) (w' : World) (G' : Nat → Nat) : Prop where
  le : ∀ b, G b ≤ G' b
  cell : ∀ b off, off < G b → w'.cell? ⟨b, off, none⟩ = w.cell? ⟨b, off, none⟩
  shape : ∀ b sh, w.shape? b = some sh → w'.shape? b = some sh
theorem shape_of_block {w w' : World} {b : Nat} (h : w'.heap[b]? = w.heap[b]?) : w'.shape? b = w.shape? b := by simp [World.shape?, h]
theorem shape_lt {w : World} {b : Nat} {sh : TypeId × Nat} (h : w.shape? b = some sh) : b < w.heap.size := by
  rcases Nat.lt_or_ge b w.heap.size with h' | h'
  · exact h'
  · simp [World.shape?, Array.getElem?_eq_none h'] at h
theorem GExt.refl (w : World) (G : Nat → Nat) : GExt w G w G := ⟨fun _ => Nat.le_refl _, fun _ _ _ => rfl, fun _ _ h => h⟩
theorem GExt.trans {w G w' G' w'' G''} (h : GExt w G w' G') (k : GExt w' G' w'' G'') : GExt w G w'' G'' :=
  ⟨fun b => Nat.le_trans (h.le b) (k.le b), fun b off ho => (k.cell b off (Nat.lt_of_lt_of_le ho (h.le b))).trans (h.cell b off ho), fun b sh hs => k.shape b sh (h.shape b sh hs)⟩

theorem Rep.mono {w G w' G'} (hx : GExt w G w' G') : ∀ {p v}, Rep w G p v → Rep w' G' p v := by
  intro p v h
  induction h with
  | int k n => exact .int k n
  | bool b => exact .bool b
  | str l => exact .str l
  | nilif => exact .nilif
  | nilp => exact .nilp
  | fn f => exact .fn f
  | agg cs vs hl _ h1 ih => exact .agg cs vs hl ih h1
  | tup ps vs hl _ ih => exact .tup ps vs hl ih
  | sl0 c A cap => exact .sl0 c A cap
  | sl c rows b off cap f hc hG hv _ h1 hcap ih =>
    exact .sl c rows b off cap f hc (Nat.le_trans hG (hx.le b)) (fun j hj => (hx.cell b _ (by omega)).trans (hv j hj)) ih h1 hcap

/-- A row that may be appended to by 'occ' alone. -/
def ORepE (e0 : Option TypeId) (w : World) (G : Nat → Nat) (ω : Nat → Option Occ) (occ : Occ) (c : Nat) (rows : List (List PV)) (v : Value) : Prop :=
  ∃ e xs, w.ownsRow 0 (e0.getD e) c v rows.length xs ∧ (∀ r ∈ rows, r.length = c) ∧ xs.length = rows.flatten.length ∧
    (∀ (j : Nat) (p : PV) (x : Value), rows.flatten[j]? = some p → xs[j]? = some x → Rep w G p x) ∧ (∀ p ∈ rows.flatten, p.one = true) ∧
    (∀ g, v.ownBlock = some g → ω g = some occ ∧ G g = rows.flatten.length)

abbrev ORep := ORepE none
theorem ORepE.any {e0 w G ω occ c rows v} (h : ORepE e0 w G ω occ c rows v) : ORep w G ω occ c rows v := by
  obtain ⟨e, xs, h⟩ := h
  exact ⟨e0.getD e, xs, h⟩
theorem ORepE.rep {e0 w G ω occ c rows v} (h : ORepE e0 w G ω occ c rows v) : Rep w G (.sl c rows) v := by
  obtain ⟨e, xs, ho, hc, hl, hr, h1, hg⟩ := h
  rcases ho.2 with ⟨rfl, h0⟩ | ⟨g, cap, cur, rfl, _, hh, hcap, _, _, htake⟩
  · have : rows = [] := List.eq_nil_of_length_eq_zero h0
    subst this
    exact .sl0 c none 0
  · have hG := (hg g rfl).2
    refine .sl c rows g 0 cap (fun j => xs.getD j undef) hc (by omega) (fun j hj => ?_) (fun j p hp => ?_) h1 hcap
    · have := ho.cells (g := g) rfl j (xs.getD j undef) (by rw [List.getD_eq_getElem?_getD]; simp [List.getElem?_eq_getElem (show j < xs.length by omega)])
      have ha : (⟨g, 0, none⟩ : Addr).add j = ⟨g, j, none⟩ := by unfold Addr.add; split <;> simp_all
      rw [ha] at this
      simpa using this
    · have hj : j < rows.flatten.length := (List.getElem?_eq_some_iff.1 hp).1
      refine hr j p _ hp ?_
      rw [List.getD_eq_getElem?_getD]; simp [List.getElem?_eq_getElem (show j < xs.length by omega)]

theorem ORepE.mono {e0 w G ω w' G' ω' occ occ' c rows v} (h : ORepE e0 w G ω occ c rows v) (hx : GExt w G w' G') 
    (hk : ∀ g, ω g = some occ → w'.heap[g]? = w.heap[g]? ∧ G' g = G g ∧ ω' g = some occ') : ORepE e0 w' G' ω' occ' c rows v := by
  obtain ⟨e, xs, ho, hc, hl, hr, h1, hg⟩ := h
  refine ⟨e, xs, ⟨ho.1, ?_⟩, hc, hl, fun j p x a b => (hr j p x a b).mono hx, h1, fun g hg' => ?_⟩
  · rcases ho.2 with h0 | ⟨g, cap, cur, rfl, h2, hh, rest⟩
    · exact .inl h0
    · refine .inr ⟨g, cap, cur, rfl, h2, ?_, rest⟩
      rw [(hk g (hg g rfl).1).1]; exact hh
  · obtain ⟨a, b⟩ := hg g hg'
    obtain ⟨_, c, d⟩ := hk g a
    exact ⟨d, c.trans b⟩

/-- A row that nobody else speaks of. -/
def ORepX (w : World) (G : Nat → Nat) (ω : Nat → Option Occ) (occ : Occ) (c : Nat) (rows : List (List PV)) (v : Value) : Prop :=
  ∃ e xs, w.ownsRow 0 e c v rows.length xs ∧ (∀ r ∈ rows, r.length = c) ∧ xs.length = rows.flatten.length ∧
    (∀ (j : Nat) (p : PV) (x : Value), rows.flatten[j]? = some p → xs[j]? = some x → Rep w G p x) ∧ (∀ p ∈ rows.flatten, p.one = true) ∧
    (∀ g, v.ownBlock = some g → ω g = some occ ∧ G g = 0)
theorem ORepX.mono {w G ω w' G' ω' occ occ' c rows v} (h : ORepX w G ω occ c rows v) (hx : GExt w G w' G') 
    (hk : ∀ g, ω g = some occ → w'.heap[g]? = w.heap[g]? ∧ G' g = G g ∧ ω' g = some occ') : ORepX w' G' ω' occ' c rows v := by
  obtain ⟨e, xs, ho, hc, hl, hr, h1, hg⟩ := h
  refine ⟨e, xs, ⟨ho.1, ?_⟩, hc, hl, fun j p x a b => (hr j p x a b).mono hx, h1, fun g hg' => ?_⟩
  · rcases ho.2 with h0 | ⟨g, cap, cur, rfl, h2, hh, rest⟩
    · exact .inl h0
    · refine .inr ⟨g, cap, cur, rfl, h2, ?_, rest⟩
      rw [(hk g (hg g rfl).1).1]; exact hh
  · obtain ⟨a, b⟩ := hg g hg'
    obtain ⟨_, c, d⟩ := hk g a
    exact ⟨d, c.trans b⟩
/-- A row that is opened: its block is the frame's. -/
def XRep (w : World) (b c n : Nat) (v : Value) : Prop := ∃ cap e, v = .slice (some ⟨b, 0, none⟩) n cap ∧ n ≤ cap ∧ cap ≤ maxLen ∧ w.shape? b = some (e, cap * c)

/-- A pointer to a row that stays. -/
def PRep (w : World) (G : Nat → Nat) (cs : List PV) (off : Nat) (v : Value) : Prop :=
  ∃ b o, v = .pointer (some ⟨b, o + off, none⟩) ∧ o + cs.length ≤ G b ∧ (∀ p ∈ cs, p.one = true) ∧
    ∀ (j : Nat) (p : PV), cs[j]? = some p → ∃ x, w.cell? ⟨b, o + j, none⟩ = some x ∧ Rep w G p x
theorem PRep.mono {w G w' G' cs off v} (h : PRep w G cs off v) (hx : GExt w G w' G') : PRep w' G' cs off v := by
  obtain ⟨b, o, hv, hG, h1, h⟩ := h
  refine ⟨b, o, hv, Nat.le_trans hG (hx.le b), h1, fun j p hp => ?_⟩
  obtain ⟨x, hx1, hx2⟩ := h j p hp
  have hj : j < cs.length := (List.getElem?_eq_some_iff.1 hp).1
  exact ⟨x, (hx.cell b _ (by omega)).trans hx1, hx2.mono hx⟩

def TRep (w : World) (G : Nat → Nat) (β : Nat → Nat) (ω : Nat → Option Occ) (occ : Occ) : TV → Value → Prop
  | .val p, v => Rep w G p v
  | .ownE e0 c rows, v => ORepE e0 w G ω occ c rows v
  | .lp s off, v => v = .pointer (some ⟨β s, off, none⟩)
  | .rp cs off, v => PRep w G cs off v
  | .self, _ => False
  | .undef, _ => True
  | .exc c rows, v => ORepX w G ω occ c rows v
  | .xs s c n, v => XRep w (β s) c n v
  | .anyb, v => ∃ b, v = .bool b
  | .mp s, v => v = .map (some (β s))
  | .tag cs ns, v => Rep w G (.agg cs) v ∧ ∃ xs, v = .agg xs ∧ ∀ i, i ∈ ns → xs[i]? = some (.slice none 0 0)

/-- A cell of a block. -/
def CRep (w : World) (G : Nat → Nat) (ω : Nat → Option Occ) (bb s i : Nat) : TV → Value → Prop
  | .val p, v => Rep w G p v ∧ p.one = true
  | .ownE e0 c rows, v => ORepE e0 w G ω (.cell s i) c rows v
  | .self, v => v = .pointer (some ⟨bb, 0, none⟩)
  | _, _ => False

def BRep (w : World) (G : Nat → Nat) (ω : Nat → Option Occ) (bb s : Nat) : Blk → Prop
  | .cellsE e0 cs => ∃ arr e, w.heap[bb]? = some (.cells arr (e0.getD e) (0, 0)) ∧ (cs.length ≤ arr.size ∧ (e0 ≠ none → arr.size = cs.length)) ∧ G bb = 0 ∧
      ∀ (i : Nat) (t : TV) (x : Value), cs[i]? = some t → arr[i]? = some x → CRep w G ω bb s i t x
  | .frozen cs => ∃ arr e, w.heap[bb]? = some (.cells arr e (0, 0)) ∧ cs.length ≤ arr.size ∧ G bb = cs.length ∧ (∀ p ∈ cs, p.one = true) ∧
      ∀ (i : Nat) (p : PV) (x : Value), cs[i]? = some p → arr[i]? = some x → Rep w G p x
  | .iter l pos => w.heap[bb]? = some (.stringIter ⟨⟨l⟩⟩ pos) ∧ G bb = 0
  | .map kvs => ∃ es clock, w.heap[bb]? = some (.map es clock) ∧ G bb = 0 ∧ es.size = kvs.length ∧
      ∀ (i : Nat) (kv : PV × PV) (e : MapEntry), kvs[i]? = some kv → es[i]? = some e → Rep w G kv.1 e.key ∧ Rep w G kv.2 e.val

structure FRel (w : World) (G : Nat → Nat) (β : Nat → Nat) (ω : Nat → Option Occ) (σ : Fr) (tm : Array Value) : Prop where
  tmp : ∀ t, TRep w G β ω (.tmp t) (tget σ.tmps t) (tm.getD t undef)
  live : ∀ t s, (tget σ.tmps t).rf = some s → get σ.mem s ≠ none
  blk : ∀ s b, get σ.mem s = some b → ω (β s) = some (.blk s) ∧ BRep w G ω (β s) s b
  gnew : ∀ b, w.heap.size ≤ b → G b = 0
  ωnew : ∀ b, ω b ≠ none → b < w.heap.size

/-- What a step, or a call, may change: blocks that 'T' speaks of, and new ones. -/
structure Evo (T : Nat → Prop) (w : World) (G : Nat → Nat) (w' : World) (G' : Nat → Nat) : Prop where
  os : w'.os = w.os
  tape : w'.tape = w.tape
  output : w'.output = w.output
  size : w.heap.size ≤ w'.heap.size
  ext : GExt w G w' G'
  block : ∀ b, b < w.heap.size → ¬ T b → w'.heap[b]? = w.heap[b]? ∧ G' b = G b
theorem Evo.refl (T : Nat → Prop) (w : World) (G : Nat → Nat) : Evo T w G w G := ⟨rfl, rfl, rfl, Nat.le_refl _, .refl _ _, fun _ _ _ => ⟨rfl, rfl⟩⟩
theorem Evo.trans {T T' : Nat → Prop} {w G w' G' w'' G''} (h : Evo T w G w' G') (k : Evo T' w' G' w'' G'') (hT : ∀ b, b < w.heap.size → T' b → T b) : Evo T w G w'' G'' :=
  ⟨k.os.trans h.os, k.tape.trans h.tape, k.output.trans h.output, Nat.le_trans h.size k.size, h.ext.trans k.ext, fun b hb ht => by
    obtain ⟨h1, h2⟩ := h.block b hb ht
    obtain ⟨k1, k2⟩ := k.block b (Nat.lt_of_lt_of_le hb h.size) (fun h => ht (hT b hb h))
    exact ⟨k1.trans h1, k2.trans h2⟩⟩

/-! ### Maps -/
theorem get_set {α : Type} (m : List (Nat × α)) (i j : Nat) (a : α) : get (set m i a) j = if j = i then some a else get m j := by
  induction m with
  | nil => simp only [set, get]
  | cons e m ih =>
    obtain ⟨k, b⟩ := e
    simp only [set]
    by_cases h1 : i < k
    · simp only [h1, if_true, get]
    · simp only [h1, if_false]
      by_cases h2 : i = k
      · subst h2
        simp only [if_true, get]
        by_cases h3 : j = i <;> simp [h3]
      · simp only [h2, if_false, get]
        by_cases h3 : j = k
        · subst h3
          simp only [if_true]
          rw [if_neg (by omega)]
        · simp only [h3, if_false, ih]
theorem tget_set (m : List (Nat × TV)) (i j : Nat) (a : TV) : tget (set m i a) j = if j = i then a else tget m j := by
  simp only [tget, get_set]
  split <;> simp
theorem set_comm {α : Type} (m : List (Nat × α)) (i j : Nat) (a b : α) (h : i ≠ j) : set (set m i a) j b = set (set m j b) i a := by
  induction m with
  | nil =>
    simp only [set]
    by_cases h1 : j < i
    · simp only [h1, if_true]; rw [if_neg (by omega), if_neg (by omega)]
    · simp only [h1, if_false]; rw [if_neg (by omega), if_pos (by omega)]
  | cons e m ih =>
    obtain ⟨k, x⟩ := e
    have hne : ¬ j = i := fun e => h e.symm
    by_cases h2 : i = k
    · subst h2
      by_cases h3 : j < i
      · simp [set, h3, show ¬ i < j by omega, h]
      · simp [set, h3, h, hne]
    · by_cases h4 : j = k
      · subst h4
        by_cases h1 : i < j
        · simp [set, h1, h, hne, show ¬ j < i by omega]
        · simp [set, h1, h2, hne]
      · by_cases h1 : i < k <;> by_cases h3 : j < k <;> by_cases h5 : i < j <;>
          first
            | omega
            | simp [set, h1, h2, h3, h4, h5, h, hne, ih, show ¬ j < i by omega]
            | simp [set, h1, h2, h3, h4, h5, h, hne, ih, show j < i by omega]
end Go.AR
