import Derived.Test.YtpmagnceeobcbaaT05t
import Derived.Test.YtpmagnceeobcbaaShapes
set_option linter.all false
/-! VecTells, called. -/
namespace Go.AR
open Go Go.Proofs
theorem wf_i64 {n : Int} (h : (Lit.int .i64 n).wf = true) : i64ok n := by
  simp [Lit.wf, IntKind.min, IntKind.max, IntKind.signed, IntKind.bits] at h
  unfold i64ok; omega
theorem call_VecTells : ∀ ps, HasArgs [.arr 16 (.int .i64), .arr 16 (.int .i64), .struct [.int .i64, .int .i64]] ps → ACall Try.prog (F05 n_plaw05_VecTells) (ps.map .v) (.val (.bool true)) [] := by
  intro ps hps
  obtain ⟨c1, p1, h1, rfl, k1⟩ := args_cons hps
  obtain ⟨c2, p2, h2, rfl, k2⟩ := args_cons k1
  obtain ⟨c3, p3, h3, rfl, k3⟩ := args_cons k2
  obtain rfl := args_nil k3
  obtain ⟨a, ha, rfl, wa⟩ := hasN_ints 16 c1 h1
  obtain ⟨b, hb, rfl, _⟩ := hasN_ints 16 c2 h2
  obtain ⟨_, _, rfl, ⟨r, rfl, _⟩, _, _, rfl, ⟨n, rfl, _⟩, rfl⟩ := h3
  refine t05_VecTells a b r n ha hb (fun i hi => ?_)
  have := getE (a := a) (i := i) (by omega)
  exact wf_i64 (wa _ (List.mem_of_getElem? this))
end Go.AR
