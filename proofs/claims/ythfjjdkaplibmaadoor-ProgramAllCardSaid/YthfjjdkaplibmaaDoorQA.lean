import Derived.Test.YthfjjdkaplibmaaDoorQ3
import Derived.Test.YthfjjdkaplibmaaDoorPr27
namespace Go.Proofs.YthfjjdkaplibmaaDoor.Pr
open Go Go.RowKit Go.Proofs.YthfjjdkaplibmaaDoorW.PrintWords Go.Proofs.YthfjjdkaplibmaaDoorW.PrintLast Go.Proofs.YthfjjdkaplibmaaDoorW.PrintMore
set_option linter.unusedVariables false
set_option linter.unusedSimpArgs false
theorem ref_all_l0 (L : List (List S51)) (b0 b1 b2 b3 b4 b5 b6 b7 b8 b9 b10 b11 b12 : Int) (hL : L.length ≤ 1000000) (hq : ∀ q ∈ L, q.length ≤ 1000) : ∀ (m i K : Nat), i + m = L.length → m + 1100 ≤ K →
    hourglassref22_All.l0 K (i : Int) b0 b1 b2 b3 b4 b5 b6 b7 b8 b9 b10 b11 b12 L = some ((L.drop i).all fun q => pRight q b0 (L.length : Int)) := by
  intro m
  induction m with
  | zero =>
    intro i K hi hK
    obtain ⟨K, rfl⟩ : ∃ m, K = m + 1 := ⟨K - 1, by omega⟩
    rw [hourglassref22_All.l0, if_neg (by omega), List.drop_eq_nil_iff.2 (by omega)]
    rfl
  | succ m ih =>
    intro i K hi hK
    obtain ⟨K, rfl⟩ : ∃ m, K = m + 1 := ⟨K - 1, by omega⟩
    have hlt : i < L.length := by omega
    have hqi := hq L[i] (List.getElem_mem hlt)
    rw [hourglassref22_All.l0, if_pos (by omega), if_pos (by omega), rdL_at hlt, ref_right_f L[i] b0 _ (by omega) K (by omega), wrap_next i (by omega), List.drop_eq_getElem_cons hlt, List.all_cons]
    simp only [Option.bind_some]
    by_cases h : pRight L[i] b0 (L.length : Int) = true
    · rw [if_pos h, ih (i + 1) K (by omega) (by omega), h, Bool.true_and]
    · rw [if_neg h, (Bool.not_eq_true _).mp h, Bool.false_and]
theorem all_l0 (L : List (List S51)) (b0 b1 b2 b3 b4 b5 b6 b7 b8 b9 b10 b11 b12 : Int) (hL : L.length ≤ 20) : ∀ (m i K : Nat), i + m = L.length → (∀ q ∈ L.take i, q.length ≤ 30) → m + 2000 ≤ K →
    hourglasslaw22_ProgramAll.l0 K (i : Int) b0 b1 b2 b3 b4 b5 b6 b7 b8 b9 b10 b11 b12 L = some true := by
  intro m
  induction m with
  | zero =>
    intro i K hi hq hK
    obtain ⟨K, rfl⟩ : ∃ m, K = m + 1 := ⟨K - 1, by omega⟩
    rw [List.take_of_length_le (by omega)] at hq
    have h1 : program_All.f b0 b1 b2 b3 b4 b5 b6 b7 b8 b9 b10 b11 b12 L = some (L.all fun q => pRight q b0 (L.length : Int)) := rfl
    have h2 : hourglassref22_All.f K b0 b1 b2 b3 b4 b5 b6 b7 b8 b9 b10 b11 b12 L = some (L.all fun q => pRight q b0 (L.length : Int)) := by
      unfold hourglassref22_All.f
      exact ref_all_l0 L b0 b1 b2 b3 b4 b5 b6 b7 b8 b9 b10 b11 b12 (by omega) (fun q hm => Nat.le_trans (hq q hm) (by decide)) L.length 0 K (by omega) (by omega)
    rw [hourglasslaw22_ProgramAll.l0, if_neg (by omega), h1, h2]
    simp only [Option.bind_some]
    rw [if_pos (by simp), awake22_true K (by omega)]
    rfl
  | succ m ih =>
    intro i K hi hq hK
    obtain ⟨K, rfl⟩ : ∃ m, K = m + 1 := ⟨K - 1, by omega⟩
    have hlt : i < L.length := by omega
    rw [hourglasslaw22_ProgramAll.l0, if_pos (by omega), if_pos (by omega), rdL_at hlt, wrap_next i (by omega)]
    by_cases h : (L[i].length : Int) > 30
    · rw [if_pos h, awake22_true K (by omega)]
      rfl
    · rw [if_neg h]
      refine ih (i + 1) K (by omega) ?_ (by omega)
      intro q hm
      rw [List.take_add_one, List.getElem?_eq_getElem hlt] at hm
      rcases List.mem_append.1 hm with hm | hm
      · exact hq q hm
      · rw [Option.toList_some, List.mem_singleton] at hm
        rw [hm]
        omega
/-- ProgramAll's plain law. -/
theorem all_law (L : List (List S51)) (b0 b1 b2 b3 b4 b5 b6 b7 b8 b9 b10 b11 b12 : Int) : ∃ k, hourglasslaw22_ProgramAll.f k b0 b1 b2 b3 b4 b5 b6 b7 b8 b9 b10 b11 b12 L = some true := by
  refine ⟨3000, ?_⟩
  unfold hourglasslaw22_ProgramAll.f
  by_cases h : (L.length : Int) > 20
  · rw [if_pos h, awake22_true 3000 (by decide)]
    rfl
  · rw [if_neg h]
    exact all_l0 L b0 b1 b2 b3 b4 b5 b6 b7 b8 b9 b10 b11 b12 (by omega) L.length 0 3000 (by omega) (by intro q hq; simp at hq) (by omega)
end Go.Proofs.YthfjjdkaplibmaaDoor.Pr
