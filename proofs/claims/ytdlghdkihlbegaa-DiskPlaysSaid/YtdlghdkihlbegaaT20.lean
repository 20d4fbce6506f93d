import Derived.Test.YtdlghdkihlbegaaS20
import Derived.Test.YtdlghdkihlbegaaZ20
import Derived.Test.YtdlghdkihlbegaaShapes
set_option linter.all false
/-! The contracts of chapter 20's seat. -/
namespace Go.AR
open Go Go.Proofs
abbrev C20 : CallRel := ACall Try.prog
theorem t20_new : S_dnew (C20 (F20 n_disk_New)) := a20_disk_New g_disk_New
theorem t20_kept : S_dget (C20 (F20 n_disk_Disk_Kept)) (fun k _ _ => .str k) := by intro k w n; exact a20_disk_Disk_Kept (g_disk_Kept.1 k w n)
theorem t20_kept0 : S_dnil (C20 (F20 n_disk_Disk_Kept)) (.str []) := a20_disk_Disk_Kept g_disk_Kept.2
theorem t20_waits : S_dget (C20 (F20 n_disk_Disk_Waits)) (fun _ w _ => .str w) := by intro k w n; exact a20_disk_Disk_Waits (g_disk_Waits.1 k w n)
theorem t20_waits0 : S_dnil (C20 (F20 n_disk_Disk_Waits)) (.str []) := a20_disk_Disk_Waits g_disk_Waits.2
theorem t20_syncs : S_dget (C20 (F20 n_disk_Disk_Syncs)) (fun _ _ n => .int .i64 n) := by intro k w n; exact a20_disk_Disk_Syncs (g_disk_Syncs.1 k w n)
theorem t20_syncs0 : S_dnil (C20 (F20 n_disk_Disk_Syncs)) (.int .i64 0) := a20_disk_Disk_Syncs g_disk_Syncs.2
theorem t20_app : S_dapp (C20 (F20 n_disk_Disk_Append)) := by intro d s hd hs; exact a20_disk_Disk_Append (g_disk_Append.1 d s hd hs)
theorem t20_app0 : S_dnils (C20 (F20 n_disk_Disk_Append)) (.int .i64 1) := by intro s; exact a20_disk_Disk_Append (g_disk_Append.2 s)
theorem t20_sync : S_dsync (C20 (F20 n_disk_Disk_Sync)) := by intro d hd; exact a20_disk_Disk_Sync (g_disk_Sync.1 d hd)
theorem t20_sync0 : S_dnil (C20 (F20 n_disk_Disk_Sync)) (.tup []) := a20_disk_Disk_Sync g_disk_Sync.2
theorem t20_crash : S_dcrash (C20 (F20 n_disk_Disk_Crash)) := by intro d x hd; exact a20_disk_Disk_Crash (g_disk_Crash.1 d x hd)
theorem t20_crash0 : S_dnil1 (C20 (F20 n_disk_Disk_Crash)) (.tup []) := by intro x; exact a20_disk_Disk_Crash (g_disk_Crash.2 x)
theorem t20_rep : S_drep (C20 (F20 n_disk_Disk_Replace)) := by intro d s hs; exact a20_disk_Disk_Replace (g_disk_Replace.1 d s hs)
theorem t20_rep0 : S_dnils (C20 (F20 n_disk_Disk_Replace)) (.int .i64 1) := by intro s; exact a20_disk_Disk_Replace (g_disk_Replace.2 s)
theorem t20_cut : S_dcut (C20 (F20 n_disk_Disk_Cut)) := by intro d x; exact a20_disk_Disk_Cut (g_disk_Cut.1 d x)
theorem t20_cut0 : S_dnil1 (C20 (F20 n_disk_Disk_Cut)) (.tup []) := by intro x; exact a20_disk_Disk_Cut (g_disk_Cut.2 x)
theorem t20_rapp : S_dapp (C20 (F20 n_pref20_Disk_Append)) := by intro d s hd hs; exact a20_pref20_Disk_Append (g_pref20_Append d s hd hs)
theorem t20_rsync : S_dsync (C20 (F20 n_pref20_Disk_Sync)) := by intro d hd; exact a20_pref20_Disk_Sync (g_pref20_Sync d hd)
theorem t20_rcrash : S_dcrash (C20 (F20 n_pref20_Disk_Crash)) := by intro d x hd; exact a20_pref20_Disk_Crash (g_pref20_Crash d x hd)
theorem t20_rrep : S_drep (C20 (F20 n_pref20_Disk_Replace)) := by intro d s hs; exact a20_pref20_Disk_Replace (g_pref20_Replace d s hs)
theorem t20_rcut : S_dcut (C20 (F20 n_pref20_Disk_Cut)) := by intro d x; exact a20_pref20_Disk_Cut (g_pref20_Cut d x)
theorem t20_does : S_does (C20 (F20 n_plaw20_does)) := by intro d x hd hs; exact a20_plaw20_does (g_does t20_app t20_rapp t20_sync t20_rsync t20_crash t20_rcrash t20_rep t20_rrep t20_cut t20_rcut d x hd hs)
theorem t20_awake : S_yes (C20 (F20 n_plaw20_awake)) := a20_plaw20_awake (g_law20_awake t20_new t20_app t20_sync t20_crash t20_kept t20_waits t20_syncs)
/-- Deeds that came in. -/
theorem has_deed {r : List PV} (h : (Sh.struct [.int .i64, .int .i64, .str]).has r) : ∃ x : Deed, r = x.cs := by
  obtain ⟨_, _, rfl, ⟨k, rfl, _⟩, _, _, rfl, ⟨n, rfl, _⟩, _, _, rfl, ⟨s, rfl, _⟩, rfl⟩ := h
  exact ⟨⟨k, n, s⟩, rfl⟩
theorem has_rows {α : Type} {q : List PV → Prop} {f : α → List PV} (hq : ∀ r, q r → ∃ x, r = f x) : ∀ rows : List (List PV), (∀ r ∈ rows, q r) → ∃ l : List α, rows = l.map f
  | [], _ => ⟨[], rfl⟩
  | r :: rows, h => by
    obtain ⟨x, hx⟩ := hq r (h r (by simp))
    obtain ⟨l, hl⟩ := has_rows hq rows (fun r hr => h r (by simp [hr]))
    exact ⟨x :: l, by simp [hx, hl]⟩
theorem args_deeds {ps : List PV} (h : HasArgs [.sl (.struct [.int .i64, .int .i64, .str])] ps) : ∃ l : List Deed, l.length ≤ 9223372036854775807 ∧ ps = [deeds l] := by
  obtain ⟨c1, p1, ⟨rows, rfl, hl, hr⟩, rfl, k1⟩ := args_cons h
  obtain rfl := args_nil k1
  obtain ⟨l, rfl⟩ := has_rows (fun r h => has_deed h) rows hr
  exact ⟨l, by rw [List.length_map] at hl; exact hl, rfl⟩
theorem call_DiskPlays : ∀ ps, HasArgs [.sl (.struct [.int .i64, .int .i64, .str])] ps → ACall Try.prog 4 (ps.map .v) (.val (.bool true)) [] := by
  intro ps hps
  obtain ⟨l, hl, rfl⟩ := args_deeds hps
  exact a20_plaw20_DiskPlays (g_DiskPlays t20_awake t20_new t20_does t20_kept t20_waits t20_syncs l hl)
theorem call_DiskNone : ∀ ps, HasArgs [.sl (.struct [.int .i64, .int .i64, .str])] ps → ACall Try.prog 5 (ps.map .v) (.val (.bool true)) [] := by
  intro ps hps
  obtain ⟨l, hl, rfl⟩ := args_deeds hps
  exact a20_plaw20_DiskNone (g_DiskNone t20_awake t20_sync0 t20_crash0 t20_cut0 t20_app0 t20_rep0 t20_kept0 t20_waits0 t20_syncs0 l hl)
end Go.AR
