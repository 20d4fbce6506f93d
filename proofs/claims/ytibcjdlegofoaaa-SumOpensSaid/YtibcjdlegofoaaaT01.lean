import Derived.Test.YtibcjdlegofoaaaP01
import Derived.Test.YtibcjdlegofoaaaZ01
import Derived.Test.YtibcjdlegofoaaaShapes
set_option linter.all false
/-! The contracts of chapter 01's seat. -/
namespace Go.AR
open Go Go.Proofs
theorem wf_u32 {n : Int} (h : (Lit.int .u32 n).wf = true) : ∃ c : BitVec 32, n = c.toNat := by
  simp only [Lit.wf, Bool.and_eq_true, decide_eq_true_eq] at h
  have h1 : (0 : Int) ≤ n := h.1
  have h2 : n ≤ 4294967295 := h.2
  refine ⟨BitVec.ofNat 32 n.toNat, ?_⟩
  simp only [BitVec.toNat_ofNat]
  omega
theorem wf_u8 {n : Int} (h : (Lit.int .u8 n).wf = true) : ∃ c : UInt8, n = c.toNat := by
  simp only [Lit.wf, Bool.and_eq_true, decide_eq_true_eq] at h
  have h1 : (0 : Int) ≤ n := h.1
  have h2 : n ≤ 255 := h.2
  refine ⟨UInt8.ofNat n.toNat, ?_⟩
  simp
  omega
abbrev C01 : CallRel := ACall Try.prog
theorem t1_table : S_table (C01 (F01 n_sum_table)) := a01_sum_table g_sum_table
theorem t1_More : S_more (C01 (F01 n_sum_More)) := by intro n l hl; exact a01_sum_More (g_sum_More t1_table n l hl)
theorem t1_Of : S_of (C01 (F01 n_sum_Of)) := by intro l hl; exact a01_sum_Of (g_sum_Of t1_More l hl)
theorem t1_rMore : S_more (C01 (F01 n_pref01_More)) := by intro n l hl; exact a01_pref01_More (g_pref01_More n l hl)
theorem t1_rOf : S_of (C01 (F01 n_pref01_Of)) := by intro l hl; exact a01_pref01_Of (g_pref01_Of t1_rMore l hl)
theorem t1_Bytes : S_bytes (C01 (F01 n_sum_Bytes)) := by intro c; exact a01_sum_Bytes (g_sum_Bytes c)
theorem t1_rBytes : S_bytes (C01 (F01 n_pref01_Bytes)) := by intro c; exact a01_pref01_Bytes (g_pref01_Bytes c)
theorem t1_Sealed : S_strstr (C01 (F01 n_sum_Sealed)) sealed := by intro l hl; exact a01_sum_Sealed (g_sum_Sealed t1_Of t1_Bytes l hl)
theorem t1_Open : S_open (C01 (F01 n_sum_Open)) := by intro l hl; exact a01_sum_Open (g_sum_Open t1_Of t1_Bytes l hl)
theorem t1_rOpen : S_open (C01 (F01 n_pref01_Open)) := by intro l hl; exact a01_pref01_Open (g_pref01_Open t1_rOf t1_rBytes l hl)
theorem t1_Changed : S_changed (C01 (F01 n_pref01_Changed)) := by intro l a x hl; exact a01_pref01_Changed (g_pref01_Changed l a x hl)
theorem t1_awake : S_yes (C01 (F01 n_plaw01_awake)) := a01_plaw01_awake (g_law01_awake t1_Of t1_Sealed)
theorem call_SumTells : ∀ ps, HasArgs [.str, .int .u32] ps → ACall Try.prog 3 (ps.map .v) (.val (.bool true)) [] := by
  intro ps hps
  obtain ⟨c1, p1, ⟨s, rfl, hs⟩, rfl, k1⟩ := args_cons hps
  obtain ⟨c2, p2, ⟨n, rfl, hn⟩, rfl, k2⟩ := args_cons k1
  obtain rfl := args_nil k2
  obtain ⟨c, rfl⟩ := wf_u32 hn
  exact a01_plaw01_SumTells (g_SumTells t1_awake t1_Of t1_rOf t1_More t1_rMore t1_Bytes t1_rBytes s c hs)
theorem call_SumGoes : ∀ ps, HasArgs [.str, .str] ps → ACall Try.prog 4 (ps.map .v) (.val (.bool true)) [] := by
  intro ps hps
  obtain ⟨c1, p1, ⟨s, rfl, hs⟩, rfl, k1⟩ := args_cons hps
  obtain ⟨c2, p2, ⟨t, rfl, ht⟩, rfl, k2⟩ := args_cons k1
  obtain rfl := args_nil k2
  exact a01_plaw01_SumGoes (g_SumGoes t1_awake t1_Of t1_More s t)
theorem call_SumOpens : ∀ ps, HasArgs [.str] ps → ACall Try.prog 5 (ps.map .v) (.val (.bool true)) [] := by
  intro ps hps
  obtain ⟨c1, p1, ⟨s, rfl, hs⟩, rfl, k1⟩ := args_cons hps
  obtain rfl := args_nil k1
  exact a01_plaw01_SumOpens (g_SumOpens t1_awake t1_Sealed t1_Open t1_rOpen s)
theorem call_SumFinds : ∀ ps, HasArgs [.str, .int .i64, .int .u8] ps → ACall Try.prog 6 (ps.map .v) (.val (.bool true)) [] := by
  intro ps hps
  obtain ⟨c1, p1, ⟨s, rfl, hs⟩, rfl, k1⟩ := args_cons hps
  obtain ⟨c2, p2, ⟨n, rfl, hn⟩, rfl, k2⟩ := args_cons k1
  obtain ⟨c3, p3, ⟨x, rfl, hx⟩, rfl, k3⟩ := args_cons k2
  obtain rfl := args_nil k3
  obtain ⟨c, rfl⟩ := wf_u8 hx
  exact a01_plaw01_SumFinds (g_SumFinds t1_awake t1_Sealed t1_Open t1_Of t1_Changed s n c)
end Go.AR
