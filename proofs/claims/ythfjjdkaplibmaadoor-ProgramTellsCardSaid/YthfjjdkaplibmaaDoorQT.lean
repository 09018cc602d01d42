import Derived.Test.YthfjjdkaplibmaaDoorQ3
import Derived.Test.YthfjjdkaplibmaaDoorPr22
namespace Go.Proofs.YthfjjdkaplibmaaDoor.Pr
open Go Go.RowKit Go.Proofs.YthfjjdkaplibmaaDoorW.PrintWords Go.Proofs.YthfjjdkaplibmaaDoorW.PrintLast Go.Proofs.YthfjjdkaplibmaaDoorW.PrintMore
set_option linter.unusedVariables false
set_option linter.unusedSimpArgs false
theorem tells_l0 (l : List S51) (n p : Int) (hl : l.length ≤ 30) (hok : l.all ok51 = true) : ∀ (m i K : Nat), i + m = l.length → m + 1000 ≤ K → hourglasslaw22_ProgramTells.l0 K l n p (i : Int) = some true := by
  intro m
  induction m with
  | zero =>
    intro i K hi hK
    obtain ⟨K, rfl⟩ : ∃ m, K = m + 1 := ⟨K - 1, by omega⟩
    have hr : program_Right.f l n p = some (pRight l n p) := rfl
    rw [hourglasslaw22_ProgramTells.l0, if_neg (by omega), hr, ref_right_f l n p (by omega) K (by omega)]
    simp only [Option.bind_some]
    rw [if_pos (by simp), units_f l (by omega) K (by omega), ref_units_f l (by omega) K (by omega)]
    simp only [Option.bind_some]
    rw [text_f l (by omega) hok K (by omega), ref_text_f l (by omega) hok K (by omega), awake22_true K (by omega)]
    simp
  | succ m ih =>
    intro i K hi hK
    obtain ⟨K, rfl⟩ : ∃ m, K = m + 1 := ⟨K - 1, by omega⟩
    have hlt : i < l.length := by omega
    rw [hourglasslaw22_ProgramTells.l0, if_pos (by omega), if_pos (by omega), rd51_at hlt, op_f K (by omega), ref_op_f K (by omega), wrap_next i (by omega)]
    simp only [Option.bind_some]
    rw [if_neg (by simp), ih (i + 1) K (by omega) (by omega)]
/-- ProgramTells' plain law. -/
theorem tells_law (l : List S51) (n p : Int) (hok : l.all ok51 = true) : ∃ k, hourglasslaw22_ProgramTells.f k l n p = some true := by
  refine ⟨2000, ?_⟩
  unfold hourglasslaw22_ProgramTells.f
  by_cases h : (l.length : Int) > 30
  · rw [if_pos h, awake22_true 2000 (by decide)]
    rfl
  · rw [if_neg h]
    exact tells_l0 l n p (by omega) hok l.length 0 2000 (by omega) (by omega)
end Go.Proofs.YthfjjdkaplibmaaDoor.Pr
