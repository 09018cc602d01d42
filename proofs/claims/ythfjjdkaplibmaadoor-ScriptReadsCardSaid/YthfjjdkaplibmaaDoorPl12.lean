import Derived.Test.YthfjjdkaplibmaaDoorPl9
import Derived.Test.YthfjjdkaplibmaaDoorPr13
namespace Go.Proofs.YthfjjdkaplibmaaDoor.Pr
open Go Go.RowKit Go.Proofs.YthfjjdkaplibmaaDoorW.PrintWords Go.Proofs.YthfjjdkaplibmaaDoorW.PrintLast Go.Proofs.YthfjjdkaplibmaaDoorW.PrintMore
set_option linter.unusedVariables false
set_option linter.unusedSimpArgs false

/-- ScriptReads' plain law. -/
theorem reads_law (s : ByteArray) : ∃ k, hourglasslaw30_ScriptReads.f k s = some true := by
  refine ⟨3 * s.size + 200, ?_⟩
  unfold hourglasslaw30_ScriptReads.f
  by_cases h : (s.size : Int) > 4000
  · rw [if_pos h, awake_true]
    rfl
  · obtain ⟨h1, _⟩ := lns_len s
    have h2 := rGoL_len (lns s.data.toList) [] 0
    have hlen : (rGoL (lns s.data.toList) [] 0).1.length ≤ s.size + 1 := by simp at h2; omega
    rw [if_neg h, read_f s (by omega), ref_read_f s (by omega) _ (by omega)]
    simp only [Option.bind_some]
    unfold hourglasslaw30_same.f
    rw [if_pos (by simp)]
    have := same_f (rGoL (lns s.data.toList) [] 0).1 (by omega) (rGoL (lns s.data.toList) [] 0).1.length 0 (3 * s.size + 200) (by omega) (by omega)
    have this' : hourglasslaw30_same.l0 (3 * s.size + 200) (rGoL (lns s.data.toList) [] 0).1 ((rGoL (lns s.data.toList) [] 0).1.map to28) 0 = some true := this
    rw [this']
    simp [awake_true]
end Go.Proofs.YthfjjdkaplibmaaDoor.Pr
