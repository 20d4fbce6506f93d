import Derived.Test.YtlhahjlnhkokcaaG05
import Derived.Test.YtlhahjlnhkokcaaG08
import Derived.Test.YtlhahjlnhkokcaaG04
set_option linter.all false
/-! Sums: CRC-32: what the functions give. -/
namespace Go.AR
open Go
section
variable {C : CallRel} {F : Nat → FuncId}

/-- A text, of which a byte is another one. -/
def changed (l : List UInt8) (at' : Int) (x : UInt8) : List UInt8 := l.mapIdx fun i w => if (i : Int) = at' then w ^^^ x else w
def S_changed (R : Rel) : Prop := ∀ (l : List UInt8) (a : Int) (x : UInt8), l.length ≤ 1000000000 → R [.v (.str l), .v (.int .i64 a), .v (.int .u8 x.toNat)] (.val (.str (changed l a x))) []
theorem changed_take (l : List UInt8) (a : Int) (x : UInt8) {i : Nat} (h : i < l.length) : (changed l a x).take (i + 1) = (changed l a x).take i ++ [if (i : Int) = a then l[i] ^^^ x else l[i]] := by
  have : i < (changed l a x).length := by simp [changed, h]
  rw [List.take_add_one, List.getElem?_eq_getElem this]
  simp [changed]
theorem changed_len (l : List UInt8) (a : Int) (x : UInt8) : (changed l a x).length = l.length := by simp [changed]
theorem g_pref01_Changed : S_changed ((c_pref01_Changed F).gives C) := by
  intro l a x hl
  refine gives_of rfl ?_
  unfold c_pref01_Changed
  simp only [walk, Nat.reduceLT, Nat.reduceBEq, Nat.reduceAdd, Nat.reduceLeDiff, reduceIte, Int.reduceLT, Int.reduceLE, Int.reduceEq, Int.reduceToNat, Int.reduceBEq]
  refine awp_loop_ind (X := Nat) (fun k => ⟨[(0, .val (.str l)), (1, .val (.int .i64 a)), (2, .val (.int .u8 x.toNat)), (6, .val (.str [])), (7, .own 1 (bRows ((changed l a x).take k))), (8, .val (.int .i64 k))], []⟩)
    (fun k => k ≤ l.length) (fun k => l.length - k) 0 (by omega) (by simp [bRows]) ?_
  intro R k hk ih
  simp only [walk, Nat.reduceLT, Nat.reduceBEq, Nat.reduceAdd, Nat.reduceLeDiff, reduceIte, Int.reduceLT, Int.reduceLE, Int.reduceEq, Int.reduceToNat, Int.reduceBEq]
  by_cases h : k = l.length
  · have h1 : ¬ ((k : Int) < l.length) := by omega
    simp only [h1, walk, Nat.reduceLT, Nat.reduceBEq, Nat.reduceAdd, Nat.reduceLeDiff, reduceIte, Int.reduceLT, Int.reduceLE, Int.reduceEq, Int.reduceToNat, Int.reduceBEq, bRows_bytes]
    rw [h, ← changed_len l a x, List.take_length]
  · have h1 : ((k : Int) < l.length) := by omega
    have h2 : l[k]? = some (l[k]'(by omega)) := List.getElem?_eq_getElem _
    have h3 : ((changed l a x).take k).length + 1 ≤ 140737488355328 := by
      simp only [List.length_take, changed_len]; omega
    have := ih (k + 1) (by omega) (by omega)
    rw [changed_take l a x (by omega)] at this
    simp only [h1, h2, walk, Nat.reduceLT, Nat.reduceBEq, Nat.reduceAdd, Nat.reduceLeDiff, reduceIte, Int.reduceLT, Int.reduceLE, Int.reduceEq, Int.reduceToNat, Int.reduceBEq]
    by_cases he : (k : Int) = a
    · have e : ((k : Int) == a) = true := by simpa using he
      rw [if_pos he] at this
      simp only [e, h3, walk, Nat.reduceLT, Nat.reduceBEq, Nat.reduceAdd, Nat.reduceLeDiff, reduceIte, Int.reduceLT, Int.reduceLE, Int.reduceEq, Int.reduceToNat, Int.reduceBEq, u8_xor, bRows_len, bRows_app]
      rw [wrap64 (by omega) (by omega)]
      exact this
    · have e : ((k : Int) == a) = false := by simpa using he
      rw [if_neg he] at this
      simp only [e, h3, walk, Nat.reduceLT, Nat.reduceBEq, Nat.reduceAdd, Nat.reduceLeDiff, reduceIte, Int.reduceLT, Int.reduceLE, Int.reduceEq, Int.reduceToNat, Int.reduceBEq, bRows_len, bRows_app]
      rw [wrap64 (by omega) (by omega)]
      exact this
end
end Go.AR

/-! Nets: what the functions give. -/
namespace Go.AR
open Go
abbrev Fl := Int × Int × List UInt8
def zf : Fl := (0, 0, [])
abbrev fCells (f : Fl) : List PV := [.int .i64 f.1, .int .i64 f.2.1, .str f.2.2]
abbrev fP (f : Fl) : PV := .agg (fCells f)
def fRows (l : List Fl) : List (List PV) := l.map fCells
theorem fRows_len (l : List Fl) : (fRows l).length = l.length := by simp [fRows]
theorem fRows_get {l : List Fl} {k : Nat} (h : k < l.length) : (fRows l)[k]? = some (fCells l[k]) := by simp [fRows, h]
theorem fRows_app (l : List Fl) (f : Fl) : fRows l ++ [fCells f] = fRows (l ++ [f]) := by simp [fRows]
theorem fRows_app2 (l m : List Fl) : fRows l ++ fRows m = fRows (l ++ m) := by simp [fRows]
theorem fRows_take (l : List Fl) (k : Nat) : (fRows l).take k = fRows (l.take k) := by simp [fRows]
theorem fRows_drop (l : List Fl) (k : Nat) : (fRows l).drop k = fRows (l.drop k) := by simp [fRows]
theorem fRows_set (l : List Fl) (k : Nat) (f : Fl) : (fRows l).set k (fCells f) = fRows (l.set k f) := by simp [fRows]
theorem fRows_c (l : List Fl) : ∀ r ∈ fRows l, r.length = 3 := by
  intro r hr
  obtain ⟨v, _, rfl⟩ := List.mem_map.1 hr
  rfl
theorem fRows_one (l : List Fl) : ∀ p ∈ (fRows l).flatten, p.one = true := by
  intro p hp
  obtain ⟨r, hr, hp⟩ := List.mem_flatten.1 hp
  obtain ⟨v, _, rfl⟩ := List.mem_map.1 hr
  simp only [fCells, List.mem_cons, List.not_mem_nil, or_false] at hp
  rcases hp with rfl | rfl | rfl <;> rfl
abbrev netB (l : List Fl) : Blk := .cells [.own 3 (fRows l)]
def isL (l : List Fl) (k : Int) : Bool := decide (0 ≤ k) && decide (k < l.length)
def getF (l : List Fl) (k : Int) : Fl := if isL l k = true then l.getD k.toNat zf else zf
def sendE (l : List Fl) : Int := if l.length ≥ 200 then 7 else 0
def sendL (l : List Fl) (f : Fl) : List Fl := if l.length ≥ 200 then l else l ++ [f]
def takeL (l : List Fl) (k : Int) : List Fl := if isL l k = true then l.take k.toNat ++ l.drop (k.toNat + 1) else l
def twiceE (l : List Fl) (k : Int) : Int := if isL l k = true then sendE l else 12
def twiceL (l : List Fl) (k : Int) : List Fl := if isL l k = true then sendL l (getF l k) else l
def lastX (s : List UInt8) (x : Int) : List UInt8 := changed s ((s.length : Int) - 1) (UInt8.ofNat x.toNat)
def spoilE (l : List Fl) (k x : Int) : Int := if isL l k = false then 12 else if (x < 1 ∨ x > 255) ∨ (getF l k).2.2 = [] then 2 else 0
def spoilF (f : Fl) (x : Int) : Fl := (f.1, f.2.1, lastX f.2.2 x)
def spoilL (l : List Fl) (k x : Int) : List Fl := if spoilE l k x = 0 then l.set k.toNat (spoilF (getF l k) x) else l
def fOk (l : List Fl) : Prop := l.length ≤ 200 ∧ ∀ f ∈ l, f.2.2.length ≤ 300
theorem isL_iff {l : List Fl} {k : Int} : isL l k = true ↔ 0 ≤ k ∧ k < l.length := by simp [isL]
theorem isL_nat {l : List Fl} {k : Int} (h : isL l k = true) : ∃ n : Nat, k = n ∧ n < l.length := by
  obtain ⟨h1, h2⟩ := isL_iff.1 h
  exact ⟨k.toNat, by omega, by omega⟩
theorem getF_at {l : List Fl} {n : Nat} (h : n < l.length) : getF l (n : Int) = l[n] := by
  unfold getF
  rw [if_pos (isL_iff.2 ⟨by omega, by omega⟩)]
  simp [List.getD_eq_getElem?_getD, h]
theorem getF_no {l : List Fl} {k : Int} (h : isL l k = false) : getF l k = zf := by unfold getF; rw [h]; simp
section
variable {C : CallRel} {F : Nat → FuncId}
def S_nNew (R : Rel) : Prop := R [] (.new (netB [])) []
def S_nLen (R : Rel) : Prop := ∀ l, R [.r (netB l)] (.val (.int .i64 l.length)) [netB l]
def S_nIs (R : Rel) : Prop := ∀ l k, R [.r (netB l), .v (.int .i64 k)] (.val (.bool (isL l k))) [netB l]
def S_nLook (R : Rel) : Prop := ∀ l k, R [.r (netB l), .v (.int .i64 k)] (.val (.tup [fP (getF l k), .bool (isL l k)])) [netB l]
def S_nSend (R : Rel) : Prop := ∀ l f, l.length ≤ 200 → R [.r (netB l), .v (fP f)] (.val (.int .i64 (sendE l))) [netB (sendL l f)]
def S_nTake (R : Rel) : Prop := ∀ l k, l.length ≤ 200 → R [.r (netB l), .v (.int .i64 k)] (.val (.tup [fP (getF l k), .bool (isL l k)])) [netB (takeL l k)]
def S_nTwice (R : Rel) : Prop := ∀ l k, l.length ≤ 200 → R [.r (netB l), .v (.int .i64 k)] (.val (.int .i64 (twiceE l k))) [netB (twiceL l k)]
def S_nSpoil (R : Rel) : Prop := ∀ l k x, fOk l → R [.r (netB l), .v (.int .i64 k), .v (.int .i64 x)] (.val (.int .i64 (spoilE l k x))) [netB (spoilL l k x)]
def S_nLen0 (R : Rel) : Prop := R [.v .nilp] (.val (.int .i64 0)) []
def S_nIs0 (R : Rel) : Prop := ∀ k, R [.v .nilp, .v (.int .i64 k)] (.val (.bool false)) []
def S_nLook0 (R : Rel) : Prop := ∀ k, R [.v .nilp, .v (.int .i64 k)] (.val (.tup [fP zf, .bool false])) []
def S_nSend0 (R : Rel) : Prop := ∀ f, R [.v .nilp, .v (fP f)] (.val (.int .i64 1)) []
def S_nTwice0 (R : Rel) : Prop := ∀ k, R [.v .nilp, .v (.int .i64 k)] (.val (.int .i64 1)) []
def S_nSpoil0 (R : Rel) : Prop := ∀ k x, R [.v .nilp, .v (.int .i64 k), .v (.int .i64 x)] (.val (.int .i64 1)) []
theorem g_net_New : S_nNew ((c_net_New F).gives C) := by
  refine gives_of rfl ?_
  unfold c_net_New
  have e : tagT [.sl 3 []] [0] 0 = [.own 3 []] := rfl
  simp only [walk, Nat.reduceLT, Nat.reduceBEq, Nat.reduceAdd, Nat.reduceLeDiff, reduceIte, Int.reduceLT, Int.reduceLE, Int.reduceEq, Int.reduceToNat, Int.reduceBEq, e]
  all_goals rfl
theorem g_net_Len : S_nLen ((c_net_Net_Len F).gives C) := by
  intro l
  refine gives_of rfl ?_
  unfold c_net_Net_Len
  simp only [walk, Nat.reduceLT, Nat.reduceBEq, Nat.reduceAdd, Nat.reduceLeDiff, reduceIte, Int.reduceLT, Int.reduceLE, Int.reduceEq, Int.reduceToNat, Int.reduceBEq, fRows_len]
theorem g_net_Len0 : S_nLen0 ((c_net_Net_Len__nil F).gives C) := by
  refine gives_of rfl ?_
  unfold c_net_Net_Len__nil
  simp only [walk, Nat.reduceLT, Nat.reduceBEq, Nat.reduceAdd, Nat.reduceLeDiff, reduceIte, Int.reduceLT, Int.reduceLE, Int.reduceEq, Int.reduceToNat, Int.reduceBEq]
theorem g_net_is (h : S_nLen (C (F n_net_Net_Len))) : S_nIs ((c_net_Net_is F).gives C) := by
  intro l k
  refine gives_of rfl ?_
  unfold c_net_Net_is isL
  simp only [walk, Nat.reduceLT, Nat.reduceBEq, Nat.reduceAdd, Nat.reduceLeDiff, reduceIte, Int.reduceLT, Int.reduceLE, Int.reduceEq, Int.reduceToNat, Int.reduceBEq]
  by_cases h1 : k ≥ 0
  · have h1' : (0 ≤ k) := h1
    simp only [walk, Nat.reduceLT, Nat.reduceBEq, Nat.reduceAdd, Nat.reduceLeDiff, reduceIte, Int.reduceLT, Int.reduceLE, Int.reduceEq, Int.reduceToNat, Int.reduceBEq, h1, h1']
    refine callWp_of (h l) ?_
    simp only [walk, Nat.reduceLT, Nat.reduceBEq, Nat.reduceAdd, Nat.reduceLeDiff, reduceIte, Int.reduceLT, Int.reduceLE, Int.reduceEq, Int.reduceToNat, Int.reduceBEq]
  · have h1' : ¬ (0 ≤ k) := h1
    simp only [walk, Nat.reduceLT, Nat.reduceBEq, Nat.reduceAdd, Nat.reduceLeDiff, reduceIte, Int.reduceLT, Int.reduceLE, Int.reduceEq, Int.reduceToNat, Int.reduceBEq, h1, h1']
theorem g_net_is0 (h : S_nLen0 (C (F n_net_Net_Len))) : S_nIs0 ((c_net_Net_is__nil F).gives C) := by
  intro k
  refine gives_of rfl ?_
  unfold c_net_Net_is__nil
  simp only [walk, Nat.reduceLT, Nat.reduceBEq, Nat.reduceAdd, Nat.reduceLeDiff, reduceIte, Int.reduceLT, Int.reduceLE, Int.reduceEq, Int.reduceToNat, Int.reduceBEq]
  by_cases h1 : k ≥ 0
  · have h2 : ¬ k < 0 := by omega
    simp only [walk, Nat.reduceLT, Nat.reduceBEq, Nat.reduceAdd, Nat.reduceLeDiff, reduceIte, Int.reduceLT, Int.reduceLE, Int.reduceEq, Int.reduceToNat, Int.reduceBEq, h1]
    refine callWp_of h ?_
    simp only [walk, Nat.reduceLT, Nat.reduceBEq, Nat.reduceAdd, Nat.reduceLeDiff, reduceIte, Int.reduceLT, Int.reduceLE, Int.reduceEq, Int.reduceToNat, Int.reduceBEq, h2]
  · simp only [walk, Nat.reduceLT, Nat.reduceBEq, Nat.reduceAdd, Nat.reduceLeDiff, reduceIte, Int.reduceLT, Int.reduceLE, Int.reduceEq, Int.reduceToNat, Int.reduceBEq, h1]
theorem g_net_Look (h : S_nIs (C (F n_net_Net_is))) : S_nLook ((c_net_Net_Look F).gives C) := by
  intro l k
  refine gives_of rfl ?_
  unfold c_net_Net_Look
  simp only [walk, Nat.reduceLT, Nat.reduceBEq, Nat.reduceAdd, Nat.reduceLeDiff, reduceIte, Int.reduceLT, Int.reduceLE, Int.reduceEq, Int.reduceToNat, Int.reduceBEq]
  refine callWp_of (h l k) ?_
  cases hi : isL l k with
  | false =>
    rw [getF_no hi]
    simp only [walk, Nat.reduceLT, Nat.reduceBEq, Nat.reduceAdd, Nat.reduceLeDiff, reduceIte, Int.reduceLT, Int.reduceLE, Int.reduceEq, Int.reduceToNat, Int.reduceBEq, layT]
    all_goals rfl
  | true =>
    obtain ⟨n, rfl, hn⟩ := isL_nat hi
    rw [getF_at hn]
    simp only [walk, Nat.reduceLT, Nat.reduceBEq, Nat.reduceAdd, Nat.reduceLeDiff, reduceIte, Int.reduceLT, Int.reduceLE, Int.reduceEq, Int.reduceToNat, Int.reduceBEq, fRows_get hn, layT]
    all_goals rfl
theorem g_net_Look0 (h : S_nIs0 (C (F n_net_Net_is))) : S_nLook0 ((c_net_Net_Look__nil F).gives C) := by
  intro k
  refine gives_of rfl ?_
  unfold c_net_Net_Look__nil
  simp only [walk, Nat.reduceLT, Nat.reduceBEq, Nat.reduceAdd, Nat.reduceLeDiff, reduceIte, Int.reduceLT, Int.reduceLE, Int.reduceEq, Int.reduceToNat, Int.reduceBEq]
  refine callWp_of (h k) ?_
  simp only [walk, Nat.reduceLT, Nat.reduceBEq, Nat.reduceAdd, Nat.reduceLeDiff, reduceIte, Int.reduceLT, Int.reduceLE, Int.reduceEq, Int.reduceToNat, Int.reduceBEq, layT]
  all_goals rfl
end
end Go.AR

/-! Nets: sent, and the document's. -/
namespace Go.AR
open Go
section
variable {C : CallRel} {F : Nat → FuncId}
theorem g_net_Send : S_nSend ((c_net_Net_Send F).gives C) := by
  intro l f hl
  refine gives_of rfl ?_
  unfold c_net_Net_Send sendE sendL
  simp only [walk, Nat.reduceLT, Nat.reduceBEq, Nat.reduceAdd, Nat.reduceLeDiff, reduceIte, Int.reduceLT, Int.reduceLE, Int.reduceEq, Int.reduceToNat, Int.reduceBEq, fRows_len]
  by_cases h : l.length ≥ 200
  · have h' : (l.length : Int) ≥ 200 := by omega
    have h2 : 200 ≤ l.length := h
    simp only [walk, Nat.reduceLT, Nat.reduceBEq, Nat.reduceAdd, Nat.reduceLeDiff, reduceIte, Int.reduceLT, Int.reduceLE, Int.reduceEq, Int.reduceToNat, Int.reduceBEq, h, h', h2, ge_iff_le]
    all_goals rfl
  · have h' : ¬ (l.length : Int) ≥ 200 := by omega
    have hb : (l.length + 1) * 32 ≤ 140737488355328 := by omega
    have h2 : ¬ 200 ≤ l.length := h
    simp only [walk, Nat.reduceLT, Nat.reduceBEq, Nat.reduceAdd, Nat.reduceLeDiff, reduceIte, Int.reduceLT, Int.reduceLE, Int.reduceEq, Int.reduceToNat, Int.reduceBEq, h', h2, fRows_len, hb, ge_iff_le]
    exact congrArg (fun r => some [Blk.cells [.own 3 r]]) (fRows_app l f)
theorem g_net_Send0 : S_nSend0 ((c_net_Net_Send__nil F).gives C) := by
  intro f
  refine gives_of rfl ?_
  unfold c_net_Net_Send__nil
  simp only [walk, Nat.reduceLT, Nat.reduceBEq, Nat.reduceAdd, Nat.reduceLeDiff, reduceIte, Int.reduceLT, Int.reduceLE, Int.reduceEq, Int.reduceToNat, Int.reduceBEq]
theorem g_net_Twice (h1 : S_nLook (C (F n_net_Net_Look))) (h2 : S_nSend (C (F n_net_Net_Send))) : S_nTwice ((c_net_Net_Twice F).gives C) := by
  intro l k hl
  refine gives_of rfl ?_
  unfold c_net_Net_Twice twiceE twiceL
  simp only [walk, Nat.reduceLT, Nat.reduceBEq, Nat.reduceAdd, Nat.reduceLeDiff, reduceIte, Int.reduceLT, Int.reduceLE, Int.reduceEq, Int.reduceToNat, Int.reduceBEq]
  refine callWp_of (h1 l k) ?_
  cases hi : isL l k with
  | false =>
    simp only [walk, Nat.reduceLT, Nat.reduceBEq, Nat.reduceAdd, Nat.reduceLeDiff, reduceIte, Int.reduceLT, Int.reduceLE, Int.reduceEq, Int.reduceToNat, Int.reduceBEq, layT]
    all_goals rfl
  | true =>
    simp only [walk, Nat.reduceLT, Nat.reduceBEq, Nat.reduceAdd, Nat.reduceLeDiff, reduceIte, Int.reduceLT, Int.reduceLE, Int.reduceEq, Int.reduceToNat, Int.reduceBEq, layT]
    refine callWp_of (h2 l (getF l k) hl) ?_
    simp only [walk, Nat.reduceLT, Nat.reduceBEq, Nat.reduceAdd, Nat.reduceLeDiff, reduceIte, Int.reduceLT, Int.reduceLE, Int.reduceEq, Int.reduceToNat, Int.reduceBEq]
    all_goals rfl
theorem g_net_Twice0 (h1 : S_nLook0 (C (F n_net_Net_Look))) : S_nTwice0 ((c_net_Net_Twice__nil F).gives C) := by
  intro k
  refine gives_of rfl ?_
  unfold c_net_Net_Twice__nil
  simp only [walk, Nat.reduceLT, Nat.reduceBEq, Nat.reduceAdd, Nat.reduceLeDiff, reduceIte, Int.reduceLT, Int.reduceLE, Int.reduceEq, Int.reduceToNat, Int.reduceBEq]
  refine callWp_of (h1 k) ?_
  simp only [walk, Nat.reduceLT, Nat.reduceBEq, Nat.reduceAdd, Nat.reduceLeDiff, reduceIte, Int.reduceLT, Int.reduceLE, Int.reduceEq, Int.reduceToNat, Int.reduceBEq, layT]
  all_goals rfl
theorem g_pref31_Is : S_nIs ((c_pref31_Net_Is F).gives C) := by
  intro l k
  refine gives_of rfl ?_
  unfold c_pref31_Net_Is isL
  simp only [walk, Nat.reduceLT, Nat.reduceBEq, Nat.reduceAdd, Nat.reduceLeDiff, reduceIte, Int.reduceLT, Int.reduceLE, Int.reduceEq, Int.reduceToNat, Int.reduceBEq, fRows_len]
  by_cases h1 : k ≥ 0
  · have h1' : (0 ≤ k) := h1
    simp only [walk, Nat.reduceLT, Nat.reduceBEq, Nat.reduceAdd, Nat.reduceLeDiff, reduceIte, Int.reduceLT, Int.reduceLE, Int.reduceEq, Int.reduceToNat, Int.reduceBEq, h1, h1', fRows_len]
  · have h1' : ¬ (0 ≤ k) := h1
    simp only [walk, Nat.reduceLT, Nat.reduceBEq, Nat.reduceAdd, Nat.reduceLeDiff, reduceIte, Int.reduceLT, Int.reduceLE, Int.reduceEq, Int.reduceToNat, Int.reduceBEq, h1, h1']
theorem g_pref31_Send : S_nSend ((c_pref31_Net_Send F).gives C) := by
  intro l f hl
  refine gives_of rfl ?_
  unfold c_pref31_Net_Send sendE sendL
  simp only [walk, Nat.reduceLT, Nat.reduceBEq, Nat.reduceAdd, Nat.reduceLeDiff, reduceIte, Int.reduceLT, Int.reduceLE, Int.reduceEq, Int.reduceToNat, Int.reduceBEq, fRows_len]
  by_cases h : l.length ≥ 200
  · have h' : (l.length : Int) ≥ 200 := by omega
    have h2 : 200 ≤ l.length := h
    simp only [walk, Nat.reduceLT, Nat.reduceBEq, Nat.reduceAdd, Nat.reduceLeDiff, reduceIte, Int.reduceLT, Int.reduceLE, Int.reduceEq, Int.reduceToNat, Int.reduceBEq, h, h', h2, ge_iff_le]
    all_goals rfl
  · have h' : ¬ (l.length : Int) ≥ 200 := by omega
    have hb : (l.length + 1) * 32 ≤ 140737488355328 := by omega
    have h2 : ¬ 200 ≤ l.length := h
    simp only [walk, Nat.reduceLT, Nat.reduceBEq, Nat.reduceAdd, Nat.reduceLeDiff, reduceIte, Int.reduceLT, Int.reduceLE, Int.reduceEq, Int.reduceToNat, Int.reduceBEq, h', h2, fRows_len, hb, ge_iff_le]
    exact congrArg (fun r => some [Blk.cells [.own 3 r]]) (fRows_app l f)
theorem g_pref31_Take (h : S_nIs (C (F n_pref31_Net_Is))) : S_nTake ((c_pref31_Net_Take F).gives C) := by
  intro l k hl
  refine gives_of rfl ?_
  unfold c_pref31_Net_Take takeL
  simp only [walk, Nat.reduceLT, Nat.reduceBEq, Nat.reduceAdd, Nat.reduceLeDiff, reduceIte, Int.reduceLT, Int.reduceLE, Int.reduceEq, Int.reduceToNat, Int.reduceBEq]
  refine callWp_of (h l k) ?_
  cases hi : isL l k with
  | false =>
    rw [getF_no hi]
    simp only [walk, Nat.reduceLT, Nat.reduceBEq, Nat.reduceAdd, Nat.reduceLeDiff, reduceIte, Int.reduceLT, Int.reduceLE, Int.reduceEq, Int.reduceToNat, Int.reduceBEq, layT]
    all_goals rfl
  | true =>
    obtain ⟨n, rfl, hn⟩ := isL_nat hi
    rw [getF_at hn]
    have e1 : IntKind.i64.wrap ((n : Int) + 1) = ((n + 1 : Nat) : Int) := wrap64 (by omega) (by omega)
    have e0 : (((n : Nat) : Int)).toNat = n := rfl
    have c1 : ((n + 1 : Nat) : Int) ≤ l.length := by omega
    have c2 : (n : Int) ≤ l.length := by omega
    have hb1 : (l.take n).length * 32 ≤ 140737488355328 := by rw [List.length_take]; omega
    have hb2 : ((l.take n).length + (l.drop (n + 1)).length) * 32 ≤ 140737488355328 := by rw [List.length_take, List.length_drop]; omega
    simp only [walk, Nat.reduceLT, Nat.reduceBEq, Nat.reduceAdd, Nat.reduceLeDiff, reduceIte, Int.reduceLT, Int.reduceLE, Int.reduceEq, Int.reduceToNat, Int.reduceBEq, fRows_get hn, layT, e1, c1, c2, fRows_take, fRows_drop, fRows_len, List.nil_append, hb1, hb2]
    exact congrArg (fun r => some [Blk.cells [.own 3 r]]) (fRows_app2 _ _)
end
end Go.AR

/-! Nets: spoilt, by definition; a copy. -/
namespace Go.AR
open Go
theorem fRows_flat : ∀ l : List Fl, (fRows l).flatten.length = l.length * 3
  | [] => rfl
  | f :: l => by
    have := fRows_flat l
    simp only [fRows, List.map_cons, List.flatten_cons, List.length_append, List.length_cons, List.length_nil] at this ⊢
    omega
section
variable {C : CallRel} {F : Nat → FuncId}
def S_fClone (R : Rel) : Prop := ∀ l : List Fl, l.length ≤ 2000000 → R [.v (.sl 3 (fRows l))] (.exc 3 (fRows l)) []
theorem g_slices_Clone_Flight : S_fClone ((c_slices_Clone_net_Flight_net_Flight F).gives C) := by
  intro l hl
  refine gives_of rfl ?_
  unfold c_slices_Clone_net_Flight_net_Flight
  cases l with
  | nil =>
    have e1 : fRows [] = [] := rfl
    have hb : (0 + 0) * 32 ≤ 140737488355328 := by decide
    rw [e1]
    simp only [walk, Nat.reduceLT, Nat.reduceBEq, Nat.reduceAdd, Nat.reduceLeDiff, reduceIte, Int.reduceLT, Int.reduceLE, Int.reduceEq, Int.reduceToNat, Int.reduceBEq, hb, List.append_nil, and_self]
  | cons x l =>
    have e1 : fRows (x :: l) = fCells x :: fRows l := rfl
    have hb : (l.length + 1) * 32 ≤ 140737488355328 := by simp only [List.length_cons] at hl; omega
    rw [e1]
    simp only [walk, Nat.reduceLT, Nat.reduceBEq, Nat.reduceAdd, Nat.reduceLeDiff, reduceIte, Int.reduceLT, Int.reduceLE, Int.reduceEq, Int.reduceToNat, Int.reduceBEq, fRows_len, hb, List.nil_append]
theorem g_pref31_Twice (h1 : S_nIs (C (F n_pref31_Net_Is))) (h2 : S_nSend (C (F n_pref31_Net_Send))) : S_nTwice ((c_pref31_Net_Twice F).gives C) := by
  intro l k hl
  refine gives_of rfl ?_
  unfold c_pref31_Net_Twice twiceE twiceL
  simp only [walk, Nat.reduceLT, Nat.reduceBEq, Nat.reduceAdd, Nat.reduceLeDiff, reduceIte, Int.reduceLT, Int.reduceLE, Int.reduceEq, Int.reduceToNat, Int.reduceBEq]
  refine callWp_of (h1 l k) ?_
  cases hi : isL l k with
  | false =>
    simp only [walk, Nat.reduceLT, Nat.reduceBEq, Nat.reduceAdd, Nat.reduceLeDiff, reduceIte, Int.reduceLT, Int.reduceLE, Int.reduceEq, Int.reduceToNat, Int.reduceBEq, layT]
    all_goals rfl
  | true =>
    obtain ⟨n, rfl, hn⟩ := isL_nat hi
    have c1 : (n : Int) < l.length := by omega
    rw [getF_at hn]
    simp only [walk, Nat.reduceLT, Nat.reduceBEq, Nat.reduceAdd, Nat.reduceLeDiff, reduceIte, Int.reduceLT, Int.reduceLE, Int.reduceEq, Int.reduceToNat, Int.reduceBEq, fRows_get hn, fRows_len, c1]
    refine callWp_of (h2 l l[n] hl) ?_
    simp only [walk, Nat.reduceLT, Nat.reduceBEq, Nat.reduceAdd, Nat.reduceLeDiff, reduceIte, Int.reduceLT, Int.reduceLE, Int.reduceEq, Int.reduceToNat, Int.reduceBEq]
    all_goals rfl
theorem g_pref31_Spoil (h1 : S_nIs (C (F n_pref31_Net_Is))) (h2 : S_changed (C (F n_pref01_Changed))) : S_nSpoil ((c_pref31_Net_Spoil F).gives C) := by
  intro l k x hl
  obtain ⟨hl1, hl2⟩ := hl
  refine gives_of rfl ?_
  unfold c_pref31_Net_Spoil spoilL
  simp only [walk, Nat.reduceLT, Nat.reduceBEq, Nat.reduceAdd, Nat.reduceLeDiff, reduceIte, Int.reduceLT, Int.reduceLE, Int.reduceEq, Int.reduceToNat, Int.reduceBEq]
  refine callWp_of (h1 l k) ?_
  cases hi : isL l k with
  | false =>
    have e : spoilE l k x = 12 := by unfold spoilE; rw [if_pos hi]
    have e2 : ¬ ((12 : Int) = 0) := by omega
    rw [e]
    simp only [walk, Nat.reduceLT, Nat.reduceBEq, Nat.reduceAdd, Nat.reduceLeDiff, reduceIte, Int.reduceLT, Int.reduceLE, Int.reduceEq, Int.reduceToNat, Int.reduceBEq, e2]
    all_goals rfl
  | true =>
    obtain ⟨n, rfl, hn⟩ := isL_nat hi
    have c1 : (n : Int) < l.length := by omega
    have hs : (l[n]).2.2.length ≤ 300 := hl2 _ (List.getElem_mem hn)
    have es : spoilE l n x = if (x < 1 ∨ x > 255) ∨ (l[n]).2.2 = [] then 2 else 0 := by unfold spoilE; rw [hi, if_neg (by simp), getF_at hn]
    have egf := getF_at hn
    have hget := fRows_get hn
    have hset : ∀ f, (fRows l).set n (fCells f) = fRows (l.set n f) := fRows_set l n
    by_cases q1 : x < 1
    · rw [es, if_pos (.inl (.inl q1))]
      have e2 : ¬ ((2 : Int) = 0) := by omega
      simp only [walk, Nat.reduceLT, Nat.reduceBEq, Nat.reduceAdd, Nat.reduceLeDiff, reduceIte, Int.reduceLT, Int.reduceLE, Int.reduceEq, Int.reduceToNat, Int.reduceBEq, hget, fRows_len, c1, q1, e2]
      all_goals rfl
    by_cases q2 : x > 255
    · rw [es, if_pos (.inl (.inr q2))]
      have e2 : ¬ ((2 : Int) = 0) := by omega
      simp only [walk, Nat.reduceLT, Nat.reduceBEq, Nat.reduceAdd, Nat.reduceLeDiff, reduceIte, Int.reduceLT, Int.reduceLE, Int.reduceEq, Int.reduceToNat, Int.reduceBEq, hget, fRows_len, c1, q1, q2, e2]
      all_goals rfl
    by_cases q3 : (l[n]).2.2 = []
    · rw [es, if_pos (.inr q3)]
      have e2 : ¬ ((2 : Int) = 0) := by omega
      have q3b : ((l[n]).2.2 == []) = true := by rw [q3]; rfl
      simp only [walk, Nat.reduceLT, Nat.reduceBEq, Nat.reduceAdd, Nat.reduceLeDiff, reduceIte, Int.reduceLT, Int.reduceLE, Int.reduceEq, Int.reduceToNat, Int.reduceBEq, hget, fRows_len, c1, q1, q2, q3b, e2]
      all_goals rfl
    have qn : ¬ ((x < 1 ∨ x > 255) ∨ (l[n]).2.2 = []) := by
      rintro ((h | h) | h)
      · exact q1 h
      · exact q2 h
      · exact q3 h
    rw [es, if_neg qn, egf]
    have e1 : IntKind.i64.wrap (((l[n]).2.2.length : Int) - 1) = ((l[n]).2.2.length : Int) - 1 := wrap64 (by omega) (by omega)
    have e2 : IntKind.u8.wrap x = ((UInt8.ofNat x.toNat).toNat : Int) := by
      have h : x.toNat < 256 := by omega
      have : (UInt8.ofNat x.toNat).toNat = x.toNat := by simp [UInt8.toNat_ofNat']; omega
      rw [this]
      unfold IntKind.wrap
      simp [IntKind.bits, IntKind.signed]
      omega
    have q3b : ((l[n]).2.2 == []) = false := by rw [beq_eq_false_iff_ne]; exact q3
    simp only [walk, Nat.reduceLT, Nat.reduceBEq, Nat.reduceAdd, Nat.reduceLeDiff, reduceIte, Int.reduceLT, Int.reduceLE, Int.reduceEq, Int.reduceToNat, Int.reduceBEq, hget, fRows_len, c1, q1, q2, q3b, e1, e2]
    refine callWp_of (h2 (l[n]).2.2 _ _ (by omega)) ?_
    have hb : l.length * 32 ≤ 140737488355328 := by omega
    have hne : fRows l ≠ [] := fun e => by have := congrArg List.length e; rw [fRows_len] at this; simp at this; rw [this] at hn; simp at hn
    have hset2 : (fRows l).set n (fCells (spoilF l[n] x)) = fRows (l.set n (spoilF l[n] x)) := fRows_set l n _
    have hlay := layT_rows (c := 3) (fRows l) n (fCells (spoilF l[n] x)) (fRows_c l) rfl (by rw [fRows_len]; exact hn)
    have hst : n * 3 + 3 ≤ (fRows l).flatten.length := by rw [fRows_flat]; omega
    simp only [walk, Nat.reduceLT, Nat.reduceBEq, Nat.reduceAdd, Nat.reduceLeDiff, reduceIte, Int.reduceLT, Int.reduceLE, Int.reduceEq, Int.reduceToNat, Int.reduceBEq, layT, fRows_len, hb, List.nil_append, hne, c1, x_openx hne, hst]
    refine closeW_of (C := C) (rows := fRows (l.set n (spoilF l[n] x))) (hlay.trans (by rw [hset2])) (fRows_c _) (by rw [fRows_len, List.length_set]) (fRows_one _) (by simp [del, TV.rf]) ?_
    simp only [walk, Nat.reduceLT, Nat.reduceBEq, Nat.reduceAdd, Nat.reduceLeDiff, reduceIte, Int.reduceLT, Int.reduceLE, Int.reduceEq, Int.reduceToNat, Int.reduceBEq]
end
end Go.AR

/-! Nets: the laws, plain; a deed in both. -/
namespace Go.AR
open Go
structure Dd where
  k : Int
  i : Int
  x : Int
  f : Fl
abbrev dCells (d : Dd) : List PV := [.int .i64 d.k, .int .i64 d.i, .int .i64 d.x, .int .i64 d.f.1, .int .i64 d.f.2.1, .str d.f.2.2]
abbrev ddP (d : Dd) : PV := .agg (dCells d)
def doL (l : List Fl) (d : Dd) : List Fl :=
  if d.k = 0 ∨ d.k = 1 ∨ d.k = 2 then sendL l d.f else if d.k = 3 then takeL l d.i else if d.k = 4 then twiceL l d.i else if d.k = 5 then spoilL l d.i d.x else l
theorem getF_len {l : List Fl} (h : fOk l) (k : Int) : (getF l k).2.2.length ≤ 300 := by
  cases hi : isL l k with
  | false => rw [getF_no hi]; simp [zf]
  | true =>
    obtain ⟨n, rfl, hn⟩ := isL_nat hi
    rw [getF_at hn]; exact h.2 _ (List.getElem_mem hn)
theorem send_ok {l : List Fl} {f : Fl} (h : fOk l) (hf : f.2.2.length ≤ 300) : fOk (sendL l f) := by
  unfold sendL
  split
  · exact h
  · refine ⟨by simp; omega, fun g hg => ?_⟩
    rcases List.mem_append.1 hg with hg | hg
    · exact h.2 g hg
    · rw [List.mem_singleton.1 hg]; exact hf
theorem take_ok {l : List Fl} (h : fOk l) (k : Int) : fOk (takeL l k) := by
  have := h.1
  unfold takeL
  split
  · refine ⟨by simp; omega, fun g hg => ?_⟩
    rcases List.mem_append.1 hg with hg | hg
    · exact h.2 g (List.mem_of_mem_take hg)
    · exact h.2 g (List.mem_of_mem_drop hg)
  · exact h
theorem spoil_ok {l : List Fl} (h : fOk l) (k x : Int) : fOk (spoilL l k x) := by
  unfold spoilL
  split
  · refine ⟨by rw [List.length_set]; exact h.1, fun g hg => ?_⟩
    rcases List.mem_or_eq_of_mem_set hg with hg | rfl
    · exact h.2 g hg
    · have := getF_len h k
      simp only [spoilF, lastX, changed_len]; exact this
  · exact h
theorem do_ok {l : List Fl} {d : Dd} (h : fOk l) (hf : d.f.2.2.length ≤ 300) : fOk (doL l d) := by
  unfold doL
  split
  · exact send_ok h hf
  · split
    · exact take_ok h _
    · split
      · unfold twiceL
        split
        · exact send_ok h (getF_len h _)
        · exact h
      · split
        · exact spoil_ok h _ _
        · exact h
/-! Spoilt twice. -/
theorem xor_xor (a b : UInt8) : (a ^^^ b) ^^^ b = a := by rw [UInt8.xor_assoc, UInt8.xor_self, UInt8.xor_zero]
theorem lastX_twice (s : List UInt8) (x : Int) : lastX (lastX s x) x = s := by
  unfold lastX
  rw [changed_len]
  unfold changed
  apply List.ext_getElem
  · simp
  · intro i h1 h2
    simp only [List.getElem_mapIdx]
    by_cases e : (i : Int) = (s.length : Int) - 1
    · rw [if_pos e, if_pos e, xor_xor]
    · rw [if_neg e, if_neg e]
theorem spoil_twice (l : List Fl) (k x : Int) : spoilE (spoilL l k x) k x = spoilE l k x ∧ spoilL (spoilL l k x) k x = l := by
  by_cases e : spoilE l k x = 0
  · have hi : isL l k = true := by
      cases hi : isL l k with
      | true => rfl
      | false => unfold spoilE at e; rw [if_pos hi] at e; cases e
    obtain ⟨n, rfl, hn⟩ := isL_nat hi
    have e1 : spoilL l n x = l.set n (spoilF l[n] x) := by unfold spoilL; rw [if_pos e, getF_at hn]; rfl
    have hn2 : n < (l.set n (spoilF l[n] x)).length := by rw [List.length_set]; exact hn
    have g2 : getF (l.set n (spoilF l[n] x)) n = spoilF l[n] x := by rw [getF_at hn2, List.getElem_set_self]
    have i2 : isL (l.set n (spoilF l[n] x)) n = true := by rw [isL_iff, List.length_set]; exact isL_iff.1 hi
    have e0 := e
    unfold spoilE at e0
    rw [hi, if_neg (by simp), getF_at hn] at e0
    have hc : ¬ ((x < 1 ∨ x > 255) ∨ (l[n]).2.2 = []) := fun h => by rw [if_pos h] at e0; cases e0
    have hne : ¬ (lastX (l[n]).2.2 x = []) := fun h => hc (.inr (List.eq_nil_of_length_eq_zero (by have := congrArg List.length h; simpa [lastX, changed_len] using this)))
    have e2 : spoilE (l.set n (spoilF l[n] x)) n x = 0 := by
      unfold spoilE
      rw [i2, if_neg (by simp), g2, if_neg]
      rintro (h | h)
      · exact hc (.inl h)
      · exact hne h
    rw [e1]
    refine ⟨by rw [e2, e], ?_⟩
    unfold spoilL
    rw [if_pos e2, g2]
    simp only [spoilF, Int.toNat_natCast]
    rw [lastX_twice, List.set_set]
    exact List.set_getElem_self hn
  · have e1 : spoilL l k x = l := by unfold spoilL; rw [if_neg e]
    rw [e1]
    exact ⟨rfl, e1⟩
section
variable {C : CallRel} {F : Nat → FuncId}
def S_fSame (R : Rel) : Prop := ∀ a b : Fl, R [.v (fP a), .v (fP b)] (.val (.bool (decide (a = b)))) []
def S_does (R : Rel) : Prop := ∀ (l : List Fl) (d : Dd), fOk l → d.f.2.2.length ≤ 300 → R [.r (netB l), .r (netB l), .v (ddP d)] (.val (.bool true)) [netB (doL l d), netB (doL l d)]
theorem ieqF (a b : Int) : (a == b) = decide (a = b) := by
  by_cases h : a = b <;> simp [h]
theorem seqF (a b : List UInt8) : (a == b) = decide (a = b) := by
  by_cases h : a = b
  · subst h; simp
  · rw [decide_eq_false h, beq_eq_false_iff_ne]; exact h
theorem g_plaw31_same : S_fSame ((c_plaw31_same F).gives C) := by
  intro a b
  refine gives_of rfl ?_
  unfold c_plaw31_same
  obtain ⟨a1, a2, a3⟩ := a
  obtain ⟨b1, b2, b3⟩ := b
  by_cases h1 : a1 = b1
  · by_cases h2 : a2 = b2
    · by_cases h3 : a3 = b3
      · simp only [walk, Nat.reduceLT, Nat.reduceBEq, Nat.reduceAdd, Nat.reduceLeDiff, reduceIte, Int.reduceLT, Int.reduceLE, Int.reduceEq, Int.reduceToNat, Int.reduceBEq, ieqF, seqF, Prod.mk.injEq, h1, h2, h3, and_self]
      · simp only [walk, Nat.reduceLT, Nat.reduceBEq, Nat.reduceAdd, Nat.reduceLeDiff, reduceIte, Int.reduceLT, Int.reduceLE, Int.reduceEq, Int.reduceToNat, Int.reduceBEq, ieqF, seqF, Prod.mk.injEq, h1, h2, h3, and_self, and_false]
    · simp only [walk, Nat.reduceLT, Nat.reduceBEq, Nat.reduceAdd, Nat.reduceLeDiff, reduceIte, Int.reduceLT, Int.reduceLE, Int.reduceEq, Int.reduceToNat, Int.reduceBEq, ieqF, seqF, Prod.mk.injEq, h1, h2, false_and, and_false]
  · simp only [walk, Nat.reduceLT, Nat.reduceBEq, Nat.reduceAdd, Nat.reduceLeDiff, reduceIte, Int.reduceLT, Int.reduceLE, Int.reduceEq, Int.reduceToNat, Int.reduceBEq, ieqF, seqF, Prod.mk.injEq, h1, false_and]
end
end Go.AR

/-! Nets: a deed in both. -/
namespace Go.AR
open Go
section
variable {C : CallRel} {F : Nat → FuncId}
theorem g_plaw31_does (h1 : S_nSend (C (F n_net_Net_Send))) (r1 : S_nSend (C (F n_pref31_Net_Send))) (h2 : S_nTake (C (F n_net_Net_Take))) (r2 : S_nTake (C (F n_pref31_Net_Take))) (h3 : S_nTwice (C (F n_net_Net_Twice))) (r3 : S_nTwice (C (F n_pref31_Net_Twice))) (h4 : S_nSpoil (C (F n_net_Net_Spoil))) (r4 : S_nSpoil (C (F n_pref31_Net_Spoil))) (h5 : S_nLook (C (F n_net_Net_Look))) (r5 : S_nIs (C (F n_pref31_Net_Is))) (hs : S_fSame (C (F n_plaw31_same))) : S_does ((c_plaw31_does F).gives C) := by
  intro l d hl hd
  have hll := hl.1
  refine gives_of rfl ?_
  unfold c_plaw31_does doL
  have ef : (d.f.1, d.f.2.1, d.f.2.2) = d.f := rfl
  have bt : ∀ n : Int, (n == n) = true := fun n => beq_self_eq_true n
  have bb : ∀ b : Bool, (b == b) = true := fun b => beq_self_eq_true b
  by_cases k0 : d.k = 0
  · rw [if_pos (.inl k0)]
    simp only [walk, Nat.reduceLT, Nat.reduceBEq, Nat.reduceAdd, Nat.reduceLeDiff, reduceIte, Int.reduceLT, Int.reduceLE, Int.reduceEq, Int.reduceToNat, Int.reduceBEq, ieqF, k0]
    refine callWp_of (h1 l d.f hll) ?_
    simp only [walk, Nat.reduceLT, Nat.reduceBEq, Nat.reduceAdd, Nat.reduceLeDiff, reduceIte, Int.reduceLT, Int.reduceLE, Int.reduceEq, Int.reduceToNat, Int.reduceBEq]
    refine callWp_of (r1 l d.f hll) ?_
    simp only [walk, Nat.reduceLT, Nat.reduceBEq, Nat.reduceAdd, Nat.reduceLeDiff, reduceIte, Int.reduceLT, Int.reduceLE, Int.reduceEq, Int.reduceToNat, Int.reduceBEq, bt]
    all_goals rfl
  by_cases k1 : d.k = 1
  · rw [if_pos (.inr (.inl k1))]
    simp only [walk, Nat.reduceLT, Nat.reduceBEq, Nat.reduceAdd, Nat.reduceLeDiff, reduceIte, Int.reduceLT, Int.reduceLE, Int.reduceEq, Int.reduceToNat, Int.reduceBEq, ieqF, k0, k1]
    refine callWp_of (h1 l d.f hll) ?_
    simp only [walk, Nat.reduceLT, Nat.reduceBEq, Nat.reduceAdd, Nat.reduceLeDiff, reduceIte, Int.reduceLT, Int.reduceLE, Int.reduceEq, Int.reduceToNat, Int.reduceBEq]
    refine callWp_of (r1 l d.f hll) ?_
    simp only [walk, Nat.reduceLT, Nat.reduceBEq, Nat.reduceAdd, Nat.reduceLeDiff, reduceIte, Int.reduceLT, Int.reduceLE, Int.reduceEq, Int.reduceToNat, Int.reduceBEq, bt]
    all_goals rfl
  by_cases k2 : d.k = 2
  · rw [if_pos (.inr (.inr k2))]
    simp only [walk, Nat.reduceLT, Nat.reduceBEq, Nat.reduceAdd, Nat.reduceLeDiff, reduceIte, Int.reduceLT, Int.reduceLE, Int.reduceEq, Int.reduceToNat, Int.reduceBEq, ieqF, k0, k1, k2]
    refine callWp_of (h1 l d.f hll) ?_
    simp only [walk, Nat.reduceLT, Nat.reduceBEq, Nat.reduceAdd, Nat.reduceLeDiff, reduceIte, Int.reduceLT, Int.reduceLE, Int.reduceEq, Int.reduceToNat, Int.reduceBEq]
    refine callWp_of (r1 l d.f hll) ?_
    simp only [walk, Nat.reduceLT, Nat.reduceBEq, Nat.reduceAdd, Nat.reduceLeDiff, reduceIte, Int.reduceLT, Int.reduceLE, Int.reduceEq, Int.reduceToNat, Int.reduceBEq, bt]
    all_goals rfl
  rw [if_neg (by rintro (h | h | h); exact k0 h; exact k1 h; exact k2 h)]
  by_cases k3 : d.k = 3
  · rw [if_pos k3]
    simp only [walk, Nat.reduceLT, Nat.reduceBEq, Nat.reduceAdd, Nat.reduceLeDiff, reduceIte, Int.reduceLT, Int.reduceLE, Int.reduceEq, Int.reduceToNat, Int.reduceBEq, ieqF, k0, k1, k2, k3]
    refine callWp_of (h2 l d.i hll) ?_
    simp only [walk, Nat.reduceLT, Nat.reduceBEq, Nat.reduceAdd, Nat.reduceLeDiff, reduceIte, Int.reduceLT, Int.reduceLE, Int.reduceEq, Int.reduceToNat, Int.reduceBEq, layT]
    refine callWp_of (r2 l d.i hll) ?_
    simp only [walk, Nat.reduceLT, Nat.reduceBEq, Nat.reduceAdd, Nat.reduceLeDiff, reduceIte, Int.reduceLT, Int.reduceLE, Int.reduceEq, Int.reduceToNat, Int.reduceBEq, layT, bb]
    refine callWp_of (hs (getF l d.i) (getF l d.i)) ?_
    simp only [walk, Nat.reduceLT, Nat.reduceBEq, Nat.reduceAdd, Nat.reduceLeDiff, reduceIte, Int.reduceLT, Int.reduceLE, Int.reduceEq, Int.reduceToNat, Int.reduceBEq, bb]
    all_goals rfl
  rw [if_neg k3]
  by_cases k4 : d.k = 4
  · rw [if_pos k4]
    simp only [walk, Nat.reduceLT, Nat.reduceBEq, Nat.reduceAdd, Nat.reduceLeDiff, reduceIte, Int.reduceLT, Int.reduceLE, Int.reduceEq, Int.reduceToNat, Int.reduceBEq, ieqF, k0, k1, k2, k3, k4]
    refine callWp_of (h3 l d.i hll) ?_
    simp only [walk, Nat.reduceLT, Nat.reduceBEq, Nat.reduceAdd, Nat.reduceLeDiff, reduceIte, Int.reduceLT, Int.reduceLE, Int.reduceEq, Int.reduceToNat, Int.reduceBEq]
    refine callWp_of (r3 l d.i hll) ?_
    simp only [walk, Nat.reduceLT, Nat.reduceBEq, Nat.reduceAdd, Nat.reduceLeDiff, reduceIte, Int.reduceLT, Int.reduceLE, Int.reduceEq, Int.reduceToNat, Int.reduceBEq, bt]
    all_goals rfl
  rw [if_neg k4]
  by_cases k5 : d.k = 5
  · rw [if_pos k5]
    simp only [walk, Nat.reduceLT, Nat.reduceBEq, Nat.reduceAdd, Nat.reduceLeDiff, reduceIte, Int.reduceLT, Int.reduceLE, Int.reduceEq, Int.reduceToNat, Int.reduceBEq, ieqF, k0, k1, k2, k3, k4, k5]
    refine callWp_of (h4 l d.i d.x hl) ?_
    simp only [walk, Nat.reduceLT, Nat.reduceBEq, Nat.reduceAdd, Nat.reduceLeDiff, reduceIte, Int.reduceLT, Int.reduceLE, Int.reduceEq, Int.reduceToNat, Int.reduceBEq]
    refine callWp_of (r4 l d.i d.x hl) ?_
    simp only [walk, Nat.reduceLT, Nat.reduceBEq, Nat.reduceAdd, Nat.reduceLeDiff, reduceIte, Int.reduceLT, Int.reduceLE, Int.reduceEq, Int.reduceToNat, Int.reduceBEq, bt]
    all_goals rfl
  rw [if_neg k5]
  by_cases k6 : d.k = 6
  · simp only [walk, Nat.reduceLT, Nat.reduceBEq, Nat.reduceAdd, Nat.reduceLeDiff, reduceIte, Int.reduceLT, Int.reduceLE, Int.reduceEq, Int.reduceToNat, Int.reduceBEq, ieqF, k0, k1, k2, k3, k4, k5, k6]
    refine callWp_of (h5 l d.i) ?_
    simp only [walk, Nat.reduceLT, Nat.reduceBEq, Nat.reduceAdd, Nat.reduceLeDiff, reduceIte, Int.reduceLT, Int.reduceLE, Int.reduceEq, Int.reduceToNat, Int.reduceBEq, layT]
    refine callWp_of (r5 l d.i) ?_
    cases hi : isL l d.i with
    | false =>
      simp only [walk, Nat.reduceLT, Nat.reduceBEq, Nat.reduceAdd, Nat.reduceLeDiff, reduceIte, Int.reduceLT, Int.reduceLE, Int.reduceEq, Int.reduceToNat, Int.reduceBEq, layT, bb]
      all_goals rfl
    | true =>
      obtain ⟨n, hn1, hn⟩ := isL_nat hi
      have c1 : (n : Int) < l.length := by omega
      rw [hn1, getF_at hn]
      simp only [walk, Nat.reduceLT, Nat.reduceBEq, Nat.reduceAdd, Nat.reduceLeDiff, reduceIte, Int.reduceLT, Int.reduceLE, Int.reduceEq, Int.reduceToNat, Int.reduceBEq, layT, bb, fRows_get hn, fRows_len, c1]
      refine callWp_of (hs l[n] l[n]) ?_
      simp only [walk, Nat.reduceLT, Nat.reduceBEq, Nat.reduceAdd, Nat.reduceLeDiff, reduceIte, Int.reduceLT, Int.reduceLE, Int.reduceEq, Int.reduceToNat, Int.reduceBEq, bb]
      all_goals rfl
  · simp only [walk, Nat.reduceLT, Nat.reduceBEq, Nat.reduceAdd, Nat.reduceLeDiff, reduceIte, Int.reduceLT, Int.reduceLE, Int.reduceEq, Int.reduceToNat, Int.reduceBEq, ieqF, k0, k1, k2, k3, k4, k5, k6]
    all_goals rfl
end
end Go.AR
