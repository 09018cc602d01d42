import Derived.Test.YthfjjdkaplibmaaDoorGP
import Derived.Test.YthfjjdkaplibmaaDoorPr11
namespace Go.Proofs.YthfjjdkaplibmaaDoor.Pr
open Go Go.RowKit Go.Proofs.YthfjjdkaplibmaaDoorW.PrintWords Go.Proofs.YthfjjdkaplibmaaDoorW.PrintLast Go.Proofs.YthfjjdkaplibmaaDoorW.PrintMore
set_option linter.unusedVariables false
set_option linter.unusedSimpArgs false

/-- ScriptParses' plain law. -/
theorem parses_law (s : ByteArray) : ∃ k, hourglasslaw30_ScriptParses.f k s = some true := by
  refine ⟨s.size + 100, ?_⟩
  unfold hourglasslaw30_ScriptParses.f
  by_cases h : (s.size : Int) > 200
  · rw [if_pos h, awake_true]
    rfl
  · rw [if_neg h]
    have h1 : script_Parse.f s = some (sParse s) := by unfold script_Parse.f; rw [if_pos (by omega)]
    rw [h1, rParse_f s (by omega) _ (Nat.le_refl _)]
    simp only [Option.bind_some]
    rcases parse_same s with ⟨x, a, b, c, d, e1, e2, e3, e4⟩ | ⟨e1, e2⟩
    · rw [e1, e2]
      have ht : script_Text.f x a b c d = some s := by
        unfold script_Text.f
        rw [if_pos (right_64 e3), sText_list e4]
      have hr : script_Right.f x a b c d = some true := by unfold script_Right.f; rw [e3]
      simp [hourglasslaw28_Theirs.f, hr, ht, awake_true]
    · rw [e1, e2]
      simp [awake_true]
end Go.Proofs.YthfjjdkaplibmaaDoor.Pr
