import Derived.Test.YtdlghdkihlbegaaK20
import Derived.Test.YtdlghdkihlbegaaBase
set_option linter.all false
/-! Disks: what the functions give. -/
namespace Go.AR
open Go
section
variable {C : CallRel} {F : Nat → FuncId}
abbrev diskB (k w : List UInt8) (n : Int) : Blk := .cells [.val (.str k), .val (.str w), .val (.int .i64 n)]
def S_dnew (R : Rel) : Prop := R [] (.new (diskB [] [] 0)) []
def S_dget (R : Rel) (f : List UInt8 → List UInt8 → Int → PV) : Prop := ∀ k w n, R [.r (diskB k w n)] (.val (f k w n)) [diskB k w n]
def S_dnil (R : Rel) (p : PV) : Prop := R [.v .nilp] (.val p) []
def S_dnil1 (R : Rel) (p : PV) : Prop := ∀ x, R [.v .nilp, .v (.int .i64 x)] (.val p) []
def S_dnils (R : Rel) (p : PV) : Prop := ∀ s, R [.v .nilp, .v (.str s)] (.val p) []
/-- What a disk is after a deed. -/
structure Dk where
  k : List UInt8
  w : List UInt8
  n : Int
abbrev Dk.b (d : Dk) : Blk := diskB d.k d.w d.n
def Dk.small (d : Dk) : Prop := d.k.length + d.w.length ≤ 4194304
def Dk.app (d : Dk) (s : List UInt8) : Dk × Int := if d.k.length + d.w.length + s.length > 4194304 then (d, 7) else (⟨d.k, d.w ++ s, d.n⟩, 0)
def Dk.sync (d : Dk) : Dk := ⟨d.k ++ d.w, [], IntKind.i64.wrap (d.n + 1)⟩
def Dk.crash (d : Dk) (x : Int) : Dk := ⟨d.k ++ d.w.take (min (max x 0) d.w.length).toNat, [], d.n⟩
def Dk.rep (d : Dk) (s : List UInt8) : Dk := ⟨s, [], IntKind.i64.wrap (d.n + 1)⟩
def Dk.cut (d : Dk) (x : Int) : Dk := if 0 ≤ x ∧ x < d.k.length then ⟨d.k.take x.toNat, d.w, d.n⟩ else d
def S_dapp (R : Rel) : Prop := ∀ (d : Dk) (s : List UInt8), d.small → s.length ≤ 2000 → R [.r d.b, .v (.str s)] (.val (.int .i64 (d.app s).2)) [(d.app s).1.b]
def S_dsync (R : Rel) : Prop := ∀ (d : Dk), d.small → R [.r d.b] (.val (.tup [])) [d.sync.b]
def S_dcrash (R : Rel) : Prop := ∀ (d : Dk) (x : Int), d.small → R [.r d.b, .v (.int .i64 x)] (.val (.tup [])) [(d.crash x).b]
def S_drep (R : Rel) : Prop := ∀ (d : Dk) (s : List UInt8), s.length ≤ 2000 → R [.r d.b, .v (.str s)] (.val (.int .i64 0)) [(d.rep s).b]
def S_dcut (R : Rel) : Prop := ∀ (d : Dk) (x : Int), R [.r d.b, .v (.int .i64 x)] (.val (.tup [])) [(d.cut x).b]

theorem g_disk_New : S_dnew ((c_disk_New F).gives C) := by
  refine gives_of rfl ?_
  unfold c_disk_New
  simp only [walk, Nat.reduceLT, Nat.reduceBEq, Nat.reduceAdd, Nat.reduceLeDiff, reduceIte, Int.reduceLT, Int.reduceLE, Int.reduceEq, Int.reduceToNat, Int.reduceBEq]
theorem g_disk_Kept : S_dget ((c_disk_Disk_Kept F).gives C) (fun k _ _ => .str k) ∧ S_dnil ((c_disk_Disk_Kept F).gives C) (.str []) := by
  refine ⟨fun k w n => ?_, ?_⟩ <;> refine gives_of rfl ?_ <;> unfold c_disk_Disk_Kept <;> simp only [walk, Nat.reduceLT, Nat.reduceBEq, Nat.reduceAdd, Nat.reduceLeDiff, reduceIte, Int.reduceLT, Int.reduceLE, Int.reduceEq, Int.reduceToNat, Int.reduceBEq]
theorem g_disk_Waits : S_dget ((c_disk_Disk_Waits F).gives C) (fun _ w _ => .str w) ∧ S_dnil ((c_disk_Disk_Waits F).gives C) (.str []) := by
  refine ⟨fun k w n => ?_, ?_⟩ <;> refine gives_of rfl ?_ <;> unfold c_disk_Disk_Waits <;> simp only [walk, Nat.reduceLT, Nat.reduceBEq, Nat.reduceAdd, Nat.reduceLeDiff, reduceIte, Int.reduceLT, Int.reduceLE, Int.reduceEq, Int.reduceToNat, Int.reduceBEq]
theorem g_disk_Syncs : S_dget ((c_disk_Disk_Syncs F).gives C) (fun _ _ n => .int .i64 n) ∧ S_dnil ((c_disk_Disk_Syncs F).gives C) (.int .i64 0) := by
  refine ⟨fun k w n => ?_, ?_⟩ <;> refine gives_of rfl ?_ <;> unfold c_disk_Disk_Syncs <;> simp only [walk, Nat.reduceLT, Nat.reduceBEq, Nat.reduceAdd, Nat.reduceLeDiff, reduceIte, Int.reduceLT, Int.reduceLE, Int.reduceEq, Int.reduceToNat, Int.reduceBEq]
theorem g_disk_Append : S_dapp ((c_disk_Disk_Append F).gives C) ∧ S_dnils ((c_disk_Disk_Append F).gives C) (.int .i64 1) := by
  refine ⟨fun d s hd hs => ?_, fun s => ?_⟩ <;> refine gives_of rfl ?_ <;> unfold c_disk_Disk_Append <;> simp only [walk, Nat.reduceLT, Nat.reduceBEq, Nat.reduceAdd, Nat.reduceLeDiff, reduceIte, Int.reduceLT, Int.reduceLE, Int.reduceEq, Int.reduceToNat, Int.reduceBEq]
  unfold Dk.small at hd
  rw [wrap64 (n := 4194304 - (d.k.length : Int)) (by omega) (by omega), wrap64 (by omega) (by omega)]
  by_cases h : d.k.length + d.w.length + s.length > 4194304
  · have h1 : (s.length : Int) > 4194304 - (d.k.length : Int) - d.w.length := by omega
    simp only [h1, h, Dk.app, walk, Nat.reduceLT, Nat.reduceBEq, Nat.reduceAdd, Nat.reduceLeDiff, reduceIte, Int.reduceLT, Int.reduceLE, Int.reduceEq, Int.reduceToNat, Int.reduceBEq]
  · have h1 : ¬ (s.length : Int) > 4194304 - (d.k.length : Int) - d.w.length := by omega
    simp only [h1, h, Dk.app, walk, Nat.reduceLT, Nat.reduceBEq, Nat.reduceAdd, Nat.reduceLeDiff, reduceIte, Int.reduceLT, Int.reduceLE, Int.reduceEq, Int.reduceToNat, Int.reduceBEq]
    rw [bins_add (by omega)]
    simp only [walk, Nat.reduceLT, Nat.reduceBEq, Nat.reduceAdd, Nat.reduceLeDiff, reduceIte, Int.reduceLT, Int.reduceLE, Int.reduceEq, Int.reduceToNat, Int.reduceBEq]
theorem g_disk_Sync : S_dsync ((c_disk_Disk_Sync F).gives C) ∧ S_dnil ((c_disk_Disk_Sync F).gives C) (.tup []) := by
  refine ⟨fun d hd => ?_, ?_⟩ <;> refine gives_of rfl ?_ <;> unfold c_disk_Disk_Sync <;> simp only [walk, Nat.reduceLT, Nat.reduceBEq, Nat.reduceAdd, Nat.reduceLeDiff, reduceIte, Int.reduceLT, Int.reduceLE, Int.reduceEq, Int.reduceToNat, Int.reduceBEq]
  unfold Dk.small at hd
  rw [bins_add (by omega)]
  simp only [walk, Nat.reduceLT, Nat.reduceBEq, Nat.reduceAdd, Nat.reduceLeDiff, reduceIte, Int.reduceLT, Int.reduceLE, Int.reduceEq, Int.reduceToNat, Int.reduceBEq]
  try rfl
theorem g_disk_Crash : S_dcrash ((c_disk_Disk_Crash F).gives C) ∧ S_dnil1 ((c_disk_Disk_Crash F).gives C) (.tup []) := by
  refine ⟨fun d x hd => ?_, fun x => ?_⟩ <;> refine gives_of rfl ?_ <;> unfold c_disk_Disk_Crash <;> simp only [walk, Nat.reduceLT, Nat.reduceBEq, Nat.reduceAdd, Nat.reduceLeDiff, reduceIte, Int.reduceLT, Int.reduceLE, Int.reduceEq, Int.reduceToNat, Int.reduceBEq]
  unfold Dk.small at hd
  have h1 : 0 ≤ min (max x 0) (d.w.length : Int) := by omega
  have h2 : min (max x 0) (d.w.length : Int) ≤ d.w.length := by omega
  simp only [h1, h2, walk, Nat.reduceLT, Nat.reduceBEq, Nat.reduceAdd, Nat.reduceLeDiff, reduceIte, Int.reduceLT, Int.reduceLE, Int.reduceEq, Int.reduceToNat, Int.reduceBEq]
  rw [bins_add (by simp only [List.length_take]; omega)]
  simp only [walk, Nat.reduceLT, Nat.reduceBEq, Nat.reduceAdd, Nat.reduceLeDiff, reduceIte, Int.reduceLT, Int.reduceLE, Int.reduceEq, Int.reduceToNat, Int.reduceBEq]
  try rfl
theorem g_disk_Replace : S_drep ((c_disk_Disk_Replace F).gives C) ∧ S_dnils ((c_disk_Disk_Replace F).gives C) (.int .i64 1) := by
  refine ⟨fun d s hs => ?_, fun s => ?_⟩ <;> refine gives_of rfl ?_ <;> unfold c_disk_Disk_Replace <;> simp only [walk, Nat.reduceLT, Nat.reduceBEq, Nat.reduceAdd, Nat.reduceLeDiff, reduceIte, Int.reduceLT, Int.reduceLE, Int.reduceEq, Int.reduceToNat, Int.reduceBEq]
  have h1 : ¬ (s.length : Int) > 4194304 := by omega
  simp only [h1, walk, Nat.reduceLT, Nat.reduceBEq, Nat.reduceAdd, Nat.reduceLeDiff, reduceIte, Int.reduceLT, Int.reduceLE, Int.reduceEq, Int.reduceToNat, Int.reduceBEq]
  try rfl
theorem g_disk_Cut : S_dcut ((c_disk_Disk_Cut F).gives C) ∧ S_dnil1 ((c_disk_Disk_Cut F).gives C) (.tup []) := by
  refine ⟨fun d x => ?_, fun x => ?_⟩ <;> refine gives_of rfl ?_ <;> unfold c_disk_Disk_Cut <;> simp only [walk, Nat.reduceLT, Nat.reduceBEq, Nat.reduceAdd, Nat.reduceLeDiff, reduceIte, Int.reduceLT, Int.reduceLE, Int.reduceEq, Int.reduceToNat, Int.reduceBEq]
  by_cases h : x ≥ 0
  · by_cases h2 : x < d.k.length
    · have h3 : 0 ≤ x ∧ x < d.k.length := ⟨h, h2⟩
      have h4 : 0 ≤ x := h
      have h5 : x ≤ d.k.length := by omega
      simp only [h, h2, h4, h5, walk, Nat.reduceLT, Nat.reduceBEq, Nat.reduceAdd, Nat.reduceLeDiff, reduceIte, Int.reduceLT, Int.reduceLE, Int.reduceEq, Int.reduceToNat, Int.reduceBEq]
      simp only [Dk.cut, h3, walk, Nat.reduceLT, Nat.reduceBEq, Nat.reduceAdd, Nat.reduceLeDiff, reduceIte, Int.reduceLT, Int.reduceLE, Int.reduceEq, Int.reduceToNat, Int.reduceBEq]
      try rfl
    · have h3 : ¬ (0 ≤ x ∧ x < d.k.length) := fun e => h2 e.2
      simp only [h, h2, walk, Nat.reduceLT, Nat.reduceBEq, Nat.reduceAdd, Nat.reduceLeDiff, reduceIte, Int.reduceLT, Int.reduceLE, Int.reduceEq, Int.reduceToNat, Int.reduceBEq]
      simp only [Dk.cut, h3, walk, Nat.reduceLT, Nat.reduceBEq, Nat.reduceAdd, Nat.reduceLeDiff, reduceIte, Int.reduceLT, Int.reduceLE, Int.reduceEq, Int.reduceToNat, Int.reduceBEq]
  · have h3 : ¬ (0 ≤ x ∧ x < d.k.length) := fun e => h e.1
    simp only [h, walk, Nat.reduceLT, Nat.reduceBEq, Nat.reduceAdd, Nat.reduceLeDiff, reduceIte, Int.reduceLT, Int.reduceLE, Int.reduceEq, Int.reduceToNat, Int.reduceBEq]
    simp only [Dk.cut, h3, walk, Nat.reduceLT, Nat.reduceBEq, Nat.reduceAdd, Nat.reduceLeDiff, reduceIte, Int.reduceLT, Int.reduceLE, Int.reduceEq, Int.reduceToNat, Int.reduceBEq]
theorem g_pref20_Append : S_dapp ((c_pref20_Disk_Append F).gives C) := by
  intro d s hd hs
  refine gives_of rfl ?_
  unfold c_pref20_Disk_Append
  simp only [walk, Nat.reduceLT, Nat.reduceBEq, Nat.reduceAdd, Nat.reduceLeDiff, reduceIte, Int.reduceLT, Int.reduceLE, Int.reduceEq, Int.reduceToNat, Int.reduceBEq]
  unfold Dk.small at hd
  rw [wrap64 (n := (d.k.length : Int) + d.w.length) (by omega) (by omega), wrap64 (by omega) (by omega)]
  by_cases h : d.k.length + d.w.length + s.length > 4194304
  · have h1 : (d.k.length : Int) + d.w.length + s.length > 4194304 := by omega
    simp only [h1, h, Dk.app, walk, Nat.reduceLT, Nat.reduceBEq, Nat.reduceAdd, Nat.reduceLeDiff, reduceIte, Int.reduceLT, Int.reduceLE, Int.reduceEq, Int.reduceToNat, Int.reduceBEq]
  · have h1 : ¬ (d.k.length : Int) + d.w.length + s.length > 4194304 := by omega
    simp only [h1, h, Dk.app, walk, Nat.reduceLT, Nat.reduceBEq, Nat.reduceAdd, Nat.reduceLeDiff, reduceIte, Int.reduceLT, Int.reduceLE, Int.reduceEq, Int.reduceToNat, Int.reduceBEq]
    rw [bins_add (by omega)]
    simp only [walk, Nat.reduceLT, Nat.reduceBEq, Nat.reduceAdd, Nat.reduceLeDiff, reduceIte, Int.reduceLT, Int.reduceLE, Int.reduceEq, Int.reduceToNat, Int.reduceBEq]
theorem g_pref20_Sync : S_dsync ((c_pref20_Disk_Sync F).gives C) := by
  intro d hd
  refine gives_of rfl ?_
  unfold c_pref20_Disk_Sync
  simp only [walk, Nat.reduceLT, Nat.reduceBEq, Nat.reduceAdd, Nat.reduceLeDiff, reduceIte, Int.reduceLT, Int.reduceLE, Int.reduceEq, Int.reduceToNat, Int.reduceBEq]
  unfold Dk.small at hd
  rw [bins_add (by omega)]
  simp only [walk, Nat.reduceLT, Nat.reduceBEq, Nat.reduceAdd, Nat.reduceLeDiff, reduceIte, Int.reduceLT, Int.reduceLE, Int.reduceEq, Int.reduceToNat, Int.reduceBEq]
  try rfl
theorem g_pref20_Crash : S_dcrash ((c_pref20_Disk_Crash F).gives C) := by
  intro d x hd
  refine gives_of rfl ?_
  unfold c_pref20_Disk_Crash
  simp only [walk, Nat.reduceLT, Nat.reduceBEq, Nat.reduceAdd, Nat.reduceLeDiff, reduceIte, Int.reduceLT, Int.reduceLE, Int.reduceEq, Int.reduceToNat, Int.reduceBEq]
  unfold Dk.small at hd
  by_cases h1 : x > d.w.length
  · have e : (min (max x 0) (d.w.length : Int)).toNat = d.w.length := by omega
    simp only [h1, walk, Nat.reduceLT, Nat.reduceBEq, Nat.reduceAdd, Nat.reduceLeDiff, reduceIte, Int.reduceLT, Int.reduceLE, Int.reduceEq, Int.reduceToNat, Int.reduceBEq]
    by_cases h2 : (d.w.length : Int) > 0
    · simp only [h2, walk, Nat.reduceLT, Nat.reduceBEq, Nat.reduceAdd, Nat.reduceLeDiff, reduceIte, Int.reduceLT, Int.reduceLE, Int.reduceEq, Int.reduceToNat, Int.reduceBEq]
      rw [bins_add (by omega)]
      simp only [walk, Nat.reduceLT, Nat.reduceBEq, Nat.reduceAdd, Nat.reduceLeDiff, reduceIte, Int.reduceLT, Int.reduceLE, Int.reduceEq, Int.reduceToNat, Int.reduceBEq]
      simp only [Dk.crash, e, List.take_length]
    · simp only [h2, walk, Nat.reduceLT, Nat.reduceBEq, Nat.reduceAdd, Nat.reduceLeDiff, reduceIte, Int.reduceLT, Int.reduceLE, Int.reduceEq, Int.reduceToNat, Int.reduceBEq]
      have e2 : d.w = [] := List.eq_nil_of_length_eq_zero (by omega)
      simp only [Dk.crash, e2, List.take_nil, List.append_nil]
  · simp only [h1, walk, Nat.reduceLT, Nat.reduceBEq, Nat.reduceAdd, Nat.reduceLeDiff, reduceIte, Int.reduceLT, Int.reduceLE, Int.reduceEq, Int.reduceToNat, Int.reduceBEq]
    by_cases h2 : x > 0
    · have e : (min (max x 0) (d.w.length : Int)).toNat = x.toNat := by omega
      have h3 : 0 ≤ x := by omega
      have h4 : x ≤ d.w.length := by omega
      simp only [h2, h3, h4, walk, Nat.reduceLT, Nat.reduceBEq, Nat.reduceAdd, Nat.reduceLeDiff, reduceIte, Int.reduceLT, Int.reduceLE, Int.reduceEq, Int.reduceToNat, Int.reduceBEq]
      rw [bins_add (by simp only [List.length_take]; omega)]
      simp only [walk, Nat.reduceLT, Nat.reduceBEq, Nat.reduceAdd, Nat.reduceLeDiff, reduceIte, Int.reduceLT, Int.reduceLE, Int.reduceEq, Int.reduceToNat, Int.reduceBEq]
      simp only [Dk.crash, e]
    · have e : (min (max x 0) (d.w.length : Int)).toNat = 0 := by omega
      simp only [h2, walk, Nat.reduceLT, Nat.reduceBEq, Nat.reduceAdd, Nat.reduceLeDiff, reduceIte, Int.reduceLT, Int.reduceLE, Int.reduceEq, Int.reduceToNat, Int.reduceBEq]
      simp only [Dk.crash, e, List.take_zero, List.append_nil]
theorem g_pref20_Replace : S_drep ((c_pref20_Disk_Replace F).gives C) := by
  intro d s hs
  refine gives_of rfl ?_
  unfold c_pref20_Disk_Replace
  simp only [walk, Nat.reduceLT, Nat.reduceBEq, Nat.reduceAdd, Nat.reduceLeDiff, reduceIte, Int.reduceLT, Int.reduceLE, Int.reduceEq, Int.reduceToNat, Int.reduceBEq]
  have h1 : ¬ (s.length : Int) > 4194304 := by omega
  simp only [h1, walk, Nat.reduceLT, Nat.reduceBEq, Nat.reduceAdd, Nat.reduceLeDiff, reduceIte, Int.reduceLT, Int.reduceLE, Int.reduceEq, Int.reduceToNat, Int.reduceBEq]
  try rfl
theorem g_pref20_Cut : S_dcut ((c_pref20_Disk_Cut F).gives C) := by
  intro d x
  refine gives_of rfl ?_
  unfold c_pref20_Disk_Cut
  simp only [walk, Nat.reduceLT, Nat.reduceBEq, Nat.reduceAdd, Nat.reduceLeDiff, reduceIte, Int.reduceLT, Int.reduceLE, Int.reduceEq, Int.reduceToNat, Int.reduceBEq]
  by_cases h : x ≥ 0
  · by_cases h2 : x < d.k.length
    · have h3 : 0 ≤ x ∧ x < d.k.length := ⟨h, h2⟩
      have h4 : 0 ≤ x := h
      have h5 : x ≤ d.k.length := by omega
      simp only [h, h2, h4, h5, walk, Nat.reduceLT, Nat.reduceBEq, Nat.reduceAdd, Nat.reduceLeDiff, reduceIte, Int.reduceLT, Int.reduceLE, Int.reduceEq, Int.reduceToNat, Int.reduceBEq]
      simp only [Dk.cut, h3, walk, Nat.reduceLT, Nat.reduceBEq, Nat.reduceAdd, Nat.reduceLeDiff, reduceIte, Int.reduceLT, Int.reduceLE, Int.reduceEq, Int.reduceToNat, Int.reduceBEq]
      try rfl
    · have h3 : ¬ (0 ≤ x ∧ x < d.k.length) := fun e => h2 e.2
      simp only [h, h2, walk, Nat.reduceLT, Nat.reduceBEq, Nat.reduceAdd, Nat.reduceLeDiff, reduceIte, Int.reduceLT, Int.reduceLE, Int.reduceEq, Int.reduceToNat, Int.reduceBEq]
      simp only [Dk.cut, h3, walk, Nat.reduceLT, Nat.reduceBEq, Nat.reduceAdd, Nat.reduceLeDiff, reduceIte, Int.reduceLT, Int.reduceLE, Int.reduceEq, Int.reduceToNat, Int.reduceBEq]
  · have h3 : ¬ (0 ≤ x ∧ x < d.k.length) := fun e => h e.1
    simp only [h, walk, Nat.reduceLT, Nat.reduceBEq, Nat.reduceAdd, Nat.reduceLeDiff, reduceIte, Int.reduceLT, Int.reduceLE, Int.reduceEq, Int.reduceToNat, Int.reduceBEq]
    simp only [Dk.cut, h3, walk, Nat.reduceLT, Nat.reduceBEq, Nat.reduceAdd, Nat.reduceLeDiff, reduceIte, Int.reduceLT, Int.reduceLE, Int.reduceEq, Int.reduceToNat, Int.reduceBEq]
/-- A deed. -/
structure Deed where
  kind : Int
  n : Int
  s : List UInt8
abbrev Deed.cs (x : Deed) : List PV := [.int .i64 x.kind, .int .i64 x.n, .str x.s]
def Dk.does (d : Dk) (x : Deed) : Dk := if x.kind = 0 ∨ x.kind = 1 then (d.app x.s).1 else if x.kind = 2 then d.sync else if x.kind = 3 then d.crash x.n else if x.kind = 4 then d.rep x.s else if x.kind = 5 then d.cut x.n else d
def S_does (R : Rel) : Prop := ∀ (d : Dk) (x : Deed), d.small → x.s.length ≤ 2000 → R [.r d.b, .r d.b, .v (.agg x.cs)] (.val (.bool true)) [(d.does x).b, (d.does x).b]
theorem Dk.small_does {d : Dk} {x : Deed} (h : d.small) (hx : x.s.length ≤ 2000) : (d.does x).small := by
  unfold Dk.does Dk.app Dk.sync Dk.crash Dk.rep Dk.cut
  unfold Dk.small at *
  split
  · split
    · exact h
    · simp only [List.length_append]; omega
  · split
    · simp only [List.length_append, List.length_nil]; omega
    · split
      · simp only [List.length_append, List.length_nil, List.length_take]; omega
      · split
        · simp only [List.length_nil]; omega
        · split
          · split
            · simp only [List.length_take]; omega
            · exact h
          · exact h
theorem g_does (a1 : S_dapp (C (F n_disk_Disk_Append))) (a2 : S_dapp (C (F n_pref20_Disk_Append))) (y1 : S_dsync (C (F n_disk_Disk_Sync))) (y2 : S_dsync (C (F n_pref20_Disk_Sync)))
    (c1 : S_dcrash (C (F n_disk_Disk_Crash))) (c2 : S_dcrash (C (F n_pref20_Disk_Crash))) (r1 : S_drep (C (F n_disk_Disk_Replace))) (r2 : S_drep (C (F n_pref20_Disk_Replace)))
    (u1 : S_dcut (C (F n_disk_Disk_Cut))) (u2 : S_dcut (C (F n_pref20_Disk_Cut))) : S_does ((c_plaw20_does F).gives C) := by
  intro d x hd hs
  refine gives_of rfl ?_
  unfold c_plaw20_does
  simp only [walk, Nat.reduceLT, Nat.reduceBEq, Nat.reduceAdd, Nat.reduceLeDiff, reduceIte, Int.reduceLT, Int.reduceLE, Int.reduceEq, Int.reduceToNat, Int.reduceBEq]
  by_cases k0 : x.kind = 0
  · have e : d.does x = (d.app x.s).1 := by unfold Dk.does; rw [if_pos (.inl k0)]
    have e0 : (x.kind == 0) = true := by simpa using k0
    simp only [e0, walk, Nat.reduceLT, Nat.reduceBEq, Nat.reduceAdd, Nat.reduceLeDiff, reduceIte, Int.reduceLT, Int.reduceLE, Int.reduceEq, Int.reduceToNat, Int.reduceBEq]
    refine callWp_of (a1 d x.s hd hs) ?_
    simp only [walk, Nat.reduceLT, Nat.reduceBEq, Nat.reduceAdd, Nat.reduceLeDiff, reduceIte, Int.reduceLT, Int.reduceLE, Int.reduceEq, Int.reduceToNat, Int.reduceBEq]
    refine callWp_of (a2 d x.s hd hs) ?_
    simp only [beq_self_eq_true, e, walk, Nat.reduceLT, Nat.reduceBEq, Nat.reduceAdd, Nat.reduceLeDiff, reduceIte, Int.reduceLT, Int.reduceLE, Int.reduceEq, Int.reduceToNat, Int.reduceBEq]
  have f0 : (x.kind == 0) = false := by simpa using k0
  by_cases k1 : x.kind = 1
  · have e : d.does x = (d.app x.s).1 := by unfold Dk.does; rw [if_pos (.inr k1)]
    have e0 : (x.kind == 1) = true := by simpa using k1
    simp only [f0, e0, walk, Nat.reduceLT, Nat.reduceBEq, Nat.reduceAdd, Nat.reduceLeDiff, reduceIte, Int.reduceLT, Int.reduceLE, Int.reduceEq, Int.reduceToNat, Int.reduceBEq]
    refine callWp_of (a1 d x.s hd hs) ?_
    simp only [walk, Nat.reduceLT, Nat.reduceBEq, Nat.reduceAdd, Nat.reduceLeDiff, reduceIte, Int.reduceLT, Int.reduceLE, Int.reduceEq, Int.reduceToNat, Int.reduceBEq]
    refine callWp_of (a2 d x.s hd hs) ?_
    simp only [beq_self_eq_true, e, walk, Nat.reduceLT, Nat.reduceBEq, Nat.reduceAdd, Nat.reduceLeDiff, reduceIte, Int.reduceLT, Int.reduceLE, Int.reduceEq, Int.reduceToNat, Int.reduceBEq]
  have f1 : (x.kind == 1) = false := by simpa using k1
  have n1 : ¬ (x.kind = 0 ∨ x.kind = 1) := fun h => h.elim k0 k1
  by_cases k2 : x.kind = 2
  · have e : d.does x = d.sync := by unfold Dk.does; rw [if_neg n1, if_pos k2]
    have e0 : (x.kind == 2) = true := by simpa using k2
    simp only [f0, f1, e0, walk, Nat.reduceLT, Nat.reduceBEq, Nat.reduceAdd, Nat.reduceLeDiff, reduceIte, Int.reduceLT, Int.reduceLE, Int.reduceEq, Int.reduceToNat, Int.reduceBEq]
    refine callWp_of (y1 d hd) ?_
    simp only [walk, Nat.reduceLT, Nat.reduceBEq, Nat.reduceAdd, Nat.reduceLeDiff, reduceIte, Int.reduceLT, Int.reduceLE, Int.reduceEq, Int.reduceToNat, Int.reduceBEq]
    refine callWp_of (y2 d hd) ?_
    simp only [beq_self_eq_true, e, walk, Nat.reduceLT, Nat.reduceBEq, Nat.reduceAdd, Nat.reduceLeDiff, reduceIte, Int.reduceLT, Int.reduceLE, Int.reduceEq, Int.reduceToNat, Int.reduceBEq]
  have f2 : (x.kind == 2) = false := by simpa using k2
  by_cases k3 : x.kind = 3
  · have e : d.does x = d.crash x.n := by unfold Dk.does; rw [if_neg n1, if_neg k2, if_pos k3]
    have e0 : (x.kind == 3) = true := by simpa using k3
    simp only [f0, f1, f2, e0, walk, Nat.reduceLT, Nat.reduceBEq, Nat.reduceAdd, Nat.reduceLeDiff, reduceIte, Int.reduceLT, Int.reduceLE, Int.reduceEq, Int.reduceToNat, Int.reduceBEq]
    refine callWp_of (c1 d x.n hd) ?_
    simp only [walk, Nat.reduceLT, Nat.reduceBEq, Nat.reduceAdd, Nat.reduceLeDiff, reduceIte, Int.reduceLT, Int.reduceLE, Int.reduceEq, Int.reduceToNat, Int.reduceBEq]
    refine callWp_of (c2 d x.n hd) ?_
    simp only [beq_self_eq_true, e, walk, Nat.reduceLT, Nat.reduceBEq, Nat.reduceAdd, Nat.reduceLeDiff, reduceIte, Int.reduceLT, Int.reduceLE, Int.reduceEq, Int.reduceToNat, Int.reduceBEq]
  have f3 : (x.kind == 3) = false := by simpa using k3
  by_cases k4 : x.kind = 4
  · have e : d.does x = d.rep x.s := by unfold Dk.does; rw [if_neg n1, if_neg k2, if_neg k3, if_pos k4]
    have e0 : (x.kind == 4) = true := by simpa using k4
    simp only [f0, f1, f2, f3, e0, walk, Nat.reduceLT, Nat.reduceBEq, Nat.reduceAdd, Nat.reduceLeDiff, reduceIte, Int.reduceLT, Int.reduceLE, Int.reduceEq, Int.reduceToNat, Int.reduceBEq]
    refine callWp_of (r1 d x.s hs) ?_
    simp only [walk, Nat.reduceLT, Nat.reduceBEq, Nat.reduceAdd, Nat.reduceLeDiff, reduceIte, Int.reduceLT, Int.reduceLE, Int.reduceEq, Int.reduceToNat, Int.reduceBEq]
    refine callWp_of (r2 d x.s hs) ?_
    simp only [beq_self_eq_true, e, walk, Nat.reduceLT, Nat.reduceBEq, Nat.reduceAdd, Nat.reduceLeDiff, reduceIte, Int.reduceLT, Int.reduceLE, Int.reduceEq, Int.reduceToNat, Int.reduceBEq]
  have f4 : (x.kind == 4) = false := by simpa using k4
  by_cases k5 : x.kind = 5
  · have e : d.does x = d.cut x.n := by unfold Dk.does; rw [if_neg n1, if_neg k2, if_neg k3, if_neg k4, if_pos k5]
    have e0 : (x.kind == 5) = true := by simpa using k5
    simp only [f0, f1, f2, f3, f4, e0, walk, Nat.reduceLT, Nat.reduceBEq, Nat.reduceAdd, Nat.reduceLeDiff, reduceIte, Int.reduceLT, Int.reduceLE, Int.reduceEq, Int.reduceToNat, Int.reduceBEq]
    refine callWp_of (u1 d x.n) ?_
    simp only [walk, Nat.reduceLT, Nat.reduceBEq, Nat.reduceAdd, Nat.reduceLeDiff, reduceIte, Int.reduceLT, Int.reduceLE, Int.reduceEq, Int.reduceToNat, Int.reduceBEq]
    refine callWp_of (u2 d x.n) ?_
    simp only [beq_self_eq_true, e, walk, Nat.reduceLT, Nat.reduceBEq, Nat.reduceAdd, Nat.reduceLeDiff, reduceIte, Int.reduceLT, Int.reduceLE, Int.reduceEq, Int.reduceToNat, Int.reduceBEq]
  have f5 : (x.kind == 5) = false := by simpa using k5
  have e : d.does x = d := by unfold Dk.does; rw [if_neg n1, if_neg k2, if_neg k3, if_neg k4, if_neg k5]
  simp only [f0, f1, f2, f3, f4, f5, e, walk, Nat.reduceLT, Nat.reduceBEq, Nat.reduceAdd, Nat.reduceLeDiff, reduceIte, Int.reduceLT, Int.reduceLE, Int.reduceEq, Int.reduceToNat, Int.reduceBEq]
theorem g_law20_awake (n : S_dnew (C (F n_disk_New))) (a : S_dapp (C (F n_disk_Disk_Append))) (y : S_dsync (C (F n_disk_Disk_Sync))) (c : S_dcrash (C (F n_disk_Disk_Crash)))
    (g1 : S_dget (C (F n_disk_Disk_Kept)) (fun k _ _ => .str k)) (g2 : S_dget (C (F n_disk_Disk_Waits)) (fun _ w _ => .str w)) (g3 : S_dget (C (F n_disk_Disk_Syncs)) (fun _ _ n => .int .i64 n)) : S_yes ((c_plaw20_awake F).gives C) := by
  refine gives_of rfl ?_
  unfold c_plaw20_awake
  simp only [walk, Nat.reduceLT, Nat.reduceBEq, Nat.reduceAdd, Nat.reduceLeDiff, reduceIte, Int.reduceLT, Int.reduceLE, Int.reduceEq, Int.reduceToNat, Int.reduceBEq]
  refine callWp_of n ?_
  simp only [walk, Nat.reduceLT, Nat.reduceBEq, Nat.reduceAdd, Nat.reduceLeDiff, reduceIte, Int.reduceLT, Int.reduceLE, Int.reduceEq, Int.reduceToNat, Int.reduceBEq]
  refine callWp_of (a ⟨[], [], 0⟩ [97, 98] (by simp [Dk.small]) (by decide)) ?_
  simp only [walk, Nat.reduceLT, Nat.reduceBEq, Nat.reduceAdd, Nat.reduceLeDiff, reduceIte, Int.reduceLT, Int.reduceLE, Int.reduceEq, Int.reduceToNat, Int.reduceBEq]
  refine callWp_of (y ⟨[], [97, 98], 0⟩ (by simp [Dk.small])) ?_
  simp only [walk, Nat.reduceLT, Nat.reduceBEq, Nat.reduceAdd, Nat.reduceLeDiff, reduceIte, Int.reduceLT, Int.reduceLE, Int.reduceEq, Int.reduceToNat, Int.reduceBEq]
  refine callWp_of (a ⟨[97, 98], [], 1⟩ [99, 100] (by simp [Dk.small]) (by decide)) ?_
  simp only [walk, Nat.reduceLT, Nat.reduceBEq, Nat.reduceAdd, Nat.reduceLeDiff, reduceIte, Int.reduceLT, Int.reduceLE, Int.reduceEq, Int.reduceToNat, Int.reduceBEq]
  refine callWp_of (c ⟨[97, 98], [99, 100], 1⟩ 1 (by simp [Dk.small])) ?_
  have e1 : (((⟨[], [], 0⟩ : Dk).app [97, 98]).2 == 0) = true := by decide
  have e2 : (((⟨[97, 98], [], 1⟩ : Dk).app [99, 100]).2 == 0) = true := by decide
  simp only [e1, e2, walk, Nat.reduceLT, Nat.reduceBEq, Nat.reduceAdd, Nat.reduceLeDiff, reduceIte, Int.reduceLT, Int.reduceLE, Int.reduceEq, Int.reduceToNat, Int.reduceBEq]
  refine callWp_of (g1 [97, 98, 99] [] 1) ?_
  simp only [e1, e2, beq_self_eq_true, walk, Nat.reduceLT, Nat.reduceBEq, Nat.reduceAdd, Nat.reduceLeDiff, reduceIte, Int.reduceLT, Int.reduceLE, Int.reduceEq, Int.reduceToNat, Int.reduceBEq]
  refine callWp_of (g2 [97, 98, 99] [] 1) ?_
  simp only [e1, e2, beq_self_eq_true, walk, Nat.reduceLT, Nat.reduceBEq, Nat.reduceAdd, Nat.reduceLeDiff, reduceIte, Int.reduceLT, Int.reduceLE, Int.reduceEq, Int.reduceToNat, Int.reduceBEq]
  refine callWp_of (g3 [97, 98, 99] [] 1) ?_
  simp only [e1, e2, beq_self_eq_true, walk, Nat.reduceLT, Nat.reduceBEq, Nat.reduceAdd, Nat.reduceLeDiff, reduceIte, Int.reduceLT, Int.reduceLE, Int.reduceEq, Int.reduceToNat, Int.reduceBEq]
/-- Deeds that came in. -/
abbrev deeds (l : List Deed) : PV := .sl 3 (l.map Deed.cs)
def S_lawDeeds (R : Rel) : Prop := ∀ l : List Deed, l.length ≤ 9223372036854775807 → R [.v (deeds l)] (.val (.bool true)) []
theorem g_DiskPlays (hA : S_yes (C (F n_plaw20_awake))) (n : S_dnew (C (F n_disk_New))) (hd : S_does (C (F n_plaw20_does)))
    (g1 : S_dget (C (F n_disk_Disk_Kept)) (fun k _ _ => .str k)) (g2 : S_dget (C (F n_disk_Disk_Waits)) (fun _ w _ => .str w)) (g3 : S_dget (C (F n_disk_Disk_Syncs)) (fun _ _ n => .int .i64 n)) : S_lawDeeds ((c_plaw20_DiskPlays F).gives C) := by
  intro l hl
  refine gives_of rfl ?_
  unfold c_plaw20_DiskPlays
  simp only [walk, Nat.reduceLT, Nat.reduceBEq, Nat.reduceAdd, Nat.reduceLeDiff, reduceIte, Int.reduceLT, Int.reduceLE, Int.reduceEq, Int.reduceToNat, Int.reduceBEq]
  refine callWp_of n ?_
  simp only [walk, Nat.reduceLT, Nat.reduceBEq, Nat.reduceAdd, Nat.reduceLeDiff, reduceIte, Int.reduceLT, Int.reduceLE, Int.reduceEq, Int.reduceToNat, Int.reduceBEq]
  refine awp_loop_ind (X := Nat × Dk) (fun x => ⟨[(0, .val (deeds l)), (2, .val (.bool false)), (3, .lp 6 0), (4, .lp 8 0), (5, .val (.int .i64 x.1))], [(6, x.2.b), (8, x.2.b)]⟩)
    (fun x => x.1 ≤ l.length ∧ x.2.small) (fun x => l.length - x.1) (0, ⟨[], [], 0⟩) ⟨by simp, by simp [Dk.small]⟩ rfl ?_
  rintro R ⟨i, d⟩ ⟨hi, hs⟩ ih
  simp only at hi hs ih ⊢
  simp only [walk, Nat.reduceLT, Nat.reduceBEq, Nat.reduceAdd, Nat.reduceLeDiff, reduceIte, Int.reduceLT, Int.reduceLE, Int.reduceEq, Int.reduceToNat, Int.reduceBEq]
  have done : ∀ b : Bool, b = true → some (RV.val (.bool b)) = some (RV.val (.bool true)) := fun b e => by rw [e]
  by_cases h1 : (i : Int) < l.length
  · by_cases h2 : (i : Int) < 40
    · have hil : i < l.length := by omega
      have h3 : (l.map Deed.cs)[i]? = some (l[i].cs) := by simp [List.getElem?_eq_getElem hil]
      have h3' : l[i]? = some l[i] := List.getElem?_eq_getElem hil
      simp only [h1, h2, h3', walk, Nat.reduceLT, Nat.reduceBEq, Nat.reduceAdd, Nat.reduceLeDiff, reduceIte, Int.reduceLT, Int.reduceLE, Int.reduceEq, Int.reduceToNat, Int.reduceBEq]
      by_cases h4 : (l[i].s.length : Int) > 2000
      · simp only [h4, walk, Nat.reduceLT, Nat.reduceBEq, Nat.reduceAdd, Nat.reduceLeDiff, reduceIte, Int.reduceLT, Int.reduceLE, Int.reduceEq, Int.reduceToNat, Int.reduceBEq]
        refine callWp_of hA ?_
        simp only [walk, Nat.reduceLT, Nat.reduceBEq, Nat.reduceAdd, Nat.reduceLeDiff, reduceIte, Int.reduceLT, Int.reduceLE, Int.reduceEq, Int.reduceToNat, Int.reduceBEq]
      · simp only [h4, h3', walk, Nat.reduceLT, Nat.reduceBEq, Nat.reduceAdd, Nat.reduceLeDiff, reduceIte, Int.reduceLT, Int.reduceLE, Int.reduceEq, Int.reduceToNat, Int.reduceBEq]
        refine callWp_of (hd d l[i] hs (by omega)) ?_
        simp only [walk, Nat.reduceLT, Nat.reduceBEq, Nat.reduceAdd, Nat.reduceLeDiff, reduceIte, Int.reduceLT, Int.reduceLE, Int.reduceEq, Int.reduceToNat, Int.reduceBEq]
        refine callWp_of (g1 _ _ _) ?_
        simp only [beq_self_eq_true, walk, Nat.reduceLT, Nat.reduceBEq, Nat.reduceAdd, Nat.reduceLeDiff, reduceIte, Int.reduceLT, Int.reduceLE, Int.reduceEq, Int.reduceToNat, Int.reduceBEq]
        refine callWp_of (g2 _ _ _) ?_
        simp only [beq_self_eq_true, walk, Nat.reduceLT, Nat.reduceBEq, Nat.reduceAdd, Nat.reduceLeDiff, reduceIte, Int.reduceLT, Int.reduceLE, Int.reduceEq, Int.reduceToNat, Int.reduceBEq]
        refine callWp_of (g3 _ _ _) ?_
        simp only [beq_self_eq_true, bne_self_eq_false, walk, Nat.reduceLT, Nat.reduceBEq, Nat.reduceAdd, Nat.reduceLeDiff, reduceIte, Int.reduceLT, Int.reduceLE, Int.reduceEq, Int.reduceToNat, Int.reduceBEq]
        rw [wrap64 (by omega) (by omega)]
        exact ih (i + 1, d.does l[i]) ⟨by simp only; omega, Dk.small_does hs (by omega)⟩ (by simp only; omega)
    · simp only [h1, h2, walk, Nat.reduceLT, Nat.reduceBEq, Nat.reduceAdd, Nat.reduceLeDiff, reduceIte, Int.reduceLT, Int.reduceLE, Int.reduceEq, Int.reduceToNat, Int.reduceBEq]
      refine callWp_of hA ?_
      simp only [walk, Nat.reduceLT, Nat.reduceBEq, Nat.reduceAdd, Nat.reduceLeDiff, reduceIte, Int.reduceLT, Int.reduceLE, Int.reduceEq, Int.reduceToNat, Int.reduceBEq]
  · simp only [h1, walk, Nat.reduceLT, Nat.reduceBEq, Nat.reduceAdd, Nat.reduceLeDiff, reduceIte, Int.reduceLT, Int.reduceLE, Int.reduceEq, Int.reduceToNat, Int.reduceBEq]
    refine callWp_of hA ?_
    simp only [walk, Nat.reduceLT, Nat.reduceBEq, Nat.reduceAdd, Nat.reduceLeDiff, reduceIte, Int.reduceLT, Int.reduceLE, Int.reduceEq, Int.reduceToNat, Int.reduceBEq]
theorem g_DiskNone (hA : S_yes (C (F n_plaw20_awake))) (y : S_dnil (C (F n_disk_Disk_Sync)) (.tup [])) (c : S_dnil1 (C (F n_disk_Disk_Crash)) (.tup [])) (u : S_dnil1 (C (F n_disk_Disk_Cut)) (.tup []))
    (a : S_dnils (C (F n_disk_Disk_Append)) (.int .i64 1)) (r : S_dnils (C (F n_disk_Disk_Replace)) (.int .i64 1)) (g1 : S_dnil (C (F n_disk_Disk_Kept)) (.str [])) (g2 : S_dnil (C (F n_disk_Disk_Waits)) (.str []))
    (g3 : S_dnil (C (F n_disk_Disk_Syncs)) (.int .i64 0)) : S_lawDeeds ((c_plaw20_DiskNone F).gives C) := by
  intro l hl
  refine gives_of rfl ?_
  unfold c_plaw20_DiskNone
  simp only [walk, Nat.reduceLT, Nat.reduceBEq, Nat.reduceAdd, Nat.reduceLeDiff, reduceIte, Int.reduceLT, Int.reduceLE, Int.reduceEq, Int.reduceToNat, Int.reduceBEq]
  refine awp_loop_ind (X := Nat) (fun x => ⟨[(0, .val (deeds l)), (2, .val (.bool false)), (3, .val .nilp), (4, .val (.int .i64 x))], []⟩)
    (fun x => x ≤ l.length) (fun x => l.length - x) 0 (by simp) rfl ?_
  intro R i hi ih
  simp only [walk, Nat.reduceLT, Nat.reduceBEq, Nat.reduceAdd, Nat.reduceLeDiff, reduceIte, Int.reduceLT, Int.reduceLE, Int.reduceEq, Int.reduceToNat, Int.reduceBEq]
  by_cases h1 : (i : Int) < l.length
  · by_cases h2 : (i : Int) < 40
    · have hil : i < l.length := by omega
      have h3' : l[i]? = some l[i] := List.getElem?_eq_getElem hil
      simp only [h1, h2, h3', walk, Nat.reduceLT, Nat.reduceBEq, Nat.reduceAdd, Nat.reduceLeDiff, reduceIte, Int.reduceLT, Int.reduceLE, Int.reduceEq, Int.reduceToNat, Int.reduceBEq]
      by_cases h4 : (l[i].s.length : Int) > 2000
      · simp only [h4, walk, Nat.reduceLT, Nat.reduceBEq, Nat.reduceAdd, Nat.reduceLeDiff, reduceIte, Int.reduceLT, Int.reduceLE, Int.reduceEq, Int.reduceToNat, Int.reduceBEq]
        refine callWp_of hA ?_
        simp only [walk, Nat.reduceLT, Nat.reduceBEq, Nat.reduceAdd, Nat.reduceLeDiff, reduceIte, Int.reduceLT, Int.reduceLE, Int.reduceEq, Int.reduceToNat, Int.reduceBEq]
      · simp only [h4, h3', walk, Nat.reduceLT, Nat.reduceBEq, Nat.reduceAdd, Nat.reduceLeDiff, reduceIte, Int.reduceLT, Int.reduceLE, Int.reduceEq, Int.reduceToNat, Int.reduceBEq]
        refine callWp_of y ?_
        simp only [h3', walk, Nat.reduceLT, Nat.reduceBEq, Nat.reduceAdd, Nat.reduceLeDiff, reduceIte, Int.reduceLT, Int.reduceLE, Int.reduceEq, Int.reduceToNat, Int.reduceBEq]
        refine callWp_of (c _) ?_
        simp only [h3', walk, Nat.reduceLT, Nat.reduceBEq, Nat.reduceAdd, Nat.reduceLeDiff, reduceIte, Int.reduceLT, Int.reduceLE, Int.reduceEq, Int.reduceToNat, Int.reduceBEq]
        refine callWp_of (u _) ?_
        simp only [h3', walk, Nat.reduceLT, Nat.reduceBEq, Nat.reduceAdd, Nat.reduceLeDiff, reduceIte, Int.reduceLT, Int.reduceLE, Int.reduceEq, Int.reduceToNat, Int.reduceBEq]
        refine callWp_of (a _) ?_
        simp only [h3', bne_self_eq_false, walk, Nat.reduceLT, Nat.reduceBEq, Nat.reduceAdd, Nat.reduceLeDiff, reduceIte, Int.reduceLT, Int.reduceLE, Int.reduceEq, Int.reduceToNat, Int.reduceBEq]
        refine callWp_of (r _) ?_
        simp only [h3', bne_self_eq_false, walk, Nat.reduceLT, Nat.reduceBEq, Nat.reduceAdd, Nat.reduceLeDiff, reduceIte, Int.reduceLT, Int.reduceLE, Int.reduceEq, Int.reduceToNat, Int.reduceBEq]
        refine callWp_of g1 ?_
        simp only [beq_self_eq_true, bne_self_eq_false, walk, Nat.reduceLT, Nat.reduceBEq, Nat.reduceAdd, Nat.reduceLeDiff, reduceIte, Int.reduceLT, Int.reduceLE, Int.reduceEq, Int.reduceToNat, Int.reduceBEq]
        refine callWp_of g2 ?_
        simp only [beq_self_eq_true, bne_self_eq_false, walk, Nat.reduceLT, Nat.reduceBEq, Nat.reduceAdd, Nat.reduceLeDiff, reduceIte, Int.reduceLT, Int.reduceLE, Int.reduceEq, Int.reduceToNat, Int.reduceBEq]
        refine callWp_of g3 ?_
        simp only [beq_self_eq_true, bne_self_eq_false, walk, Nat.reduceLT, Nat.reduceBEq, Nat.reduceAdd, Nat.reduceLeDiff, reduceIte, Int.reduceLT, Int.reduceLE, Int.reduceEq, Int.reduceToNat, Int.reduceBEq]
        rw [wrap64 (by omega) (by omega)]
        exact ih (i + 1) (by omega) (by omega)
    · simp only [h1, h2, walk, Nat.reduceLT, Nat.reduceBEq, Nat.reduceAdd, Nat.reduceLeDiff, reduceIte, Int.reduceLT, Int.reduceLE, Int.reduceEq, Int.reduceToNat, Int.reduceBEq]
      refine callWp_of hA ?_
      simp only [walk, Nat.reduceLT, Nat.reduceBEq, Nat.reduceAdd, Nat.reduceLeDiff, reduceIte, Int.reduceLT, Int.reduceLE, Int.reduceEq, Int.reduceToNat, Int.reduceBEq]
  · simp only [h1, walk, Nat.reduceLT, Nat.reduceBEq, Nat.reduceAdd, Nat.reduceLeDiff, reduceIte, Int.reduceLT, Int.reduceLE, Int.reduceEq, Int.reduceToNat, Int.reduceBEq]
    refine callWp_of hA ?_
    simp only [walk, Nat.reduceLT, Nat.reduceBEq, Nat.reduceAdd, Nat.reduceLeDiff, reduceIte, Int.reduceLT, Int.reduceLE, Int.reduceEq, Int.reduceToNat, Int.reduceBEq]
end
end Go.AR
