import Derived.Test.YthfjjdkaplibmaaDoorPS
import Derived.Test.YthfjjdkaplibmaaDoorPr16
import Derived.Test.YthfjjdkaplibmaaDoorPr17
import Derived.Test.YthfjjdkaplibmaaDoorPr21
import Derived.Test.YthfjjdkaplibmaaDoorPr24
import Derived.Lib.ItoaLen
namespace Go.Proofs.YthfjjdkaplibmaaDoor.Pr
open Go Go.RowKit Go.Proofs.YthfjjdkaplibmaaDoorW.PrintWords Go.Proofs.YthfjjdkaplibmaaDoorW.PrintLast Go.Proofs.YthfjjdkaplibmaaDoorW.PrintMore
set_option linter.unusedVariables false
set_option linter.unusedSimpArgs false

/-! ### Programs: units, text: the program's and the reference's -/
theorem wrap_next (n : Nat) (h : n < 1000000000000) : wrap64 ((n : Int) + 1) = ((n + 1 : Nat) : Int) := by unfold wrap64; omega
theorem drop51 {l : List S51} {i : Nat} (h : i < l.length) : l.drop i = l[i] :: l.drop (i + 1) := List.drop_eq_getElem_cons h
def pUnit (o : S51) : Int := if o.f0 = 1 then (if o.f1 < 0 then 0 else if o.f1 > 1000 then 1000 else o.f1) else 1
def pUnits (acc : Int) : List S51 → Int
  | [] => acc
  | o :: r => pUnits (wrap64 (acc + pUnit o)) r
theorem units_l0 (l : List S51) (hl : l.length ≤ 1000000) : ∀ (m i K : Nat) (acc : Int), i + m = l.length → m + 1 ≤ K → program_Units.l0 K acc l (l.length : Int) (i : Int) = some (pUnits acc (l.drop i)) := by
  intro m
  induction m with
  | zero =>
    intro i K acc hi hK
    obtain ⟨K, rfl⟩ : ∃ m, K = m + 1 := ⟨K - 1, by omega⟩
    rw [program_Units.l0, if_neg (by omega), List.drop_eq_nil_iff.2 (by omega), pUnits]
  | succ m ih =>
    intro i K acc hi hK
    obtain ⟨K, rfl⟩ : ∃ m, K = m + 1 := ⟨K - 1, by omega⟩
    have hlt : i < l.length := by omega
    rw [program_Units.l0, if_pos (by omega), if_pos (by omega), if_pos (by omega), rd51_at hlt, wrap_next i (by omega), drop51 hlt, pUnits]
    have hu : pUnit l[i] = if l[i].f0 = 1 then mn (mx l[i].f1 0) 1000 else 1 := by
      unfold pUnit mn mx
      split
      · split
        · rfl
        · split
          · rfl
          · rfl
      · rfl
    rw [hu]
    split
    · rw [ih (i + 1) K _ (by omega) (by omega)]
    · rw [ih (i + 1) K _ (by omega) (by omega)]
theorem units_f (l : List S51) (hl : l.length ≤ 1000000) (K : Nat) (hK : l.length + 1 ≤ K) : program_Units.f K l = some (pUnits 0 l) := by
  unfold program_Units.f
  have := units_l0 l hl l.length 0 K 0 (by omega) hK
  exact this
theorem ref_units_l0 (l : List S51) (hl : l.length ≤ 1000000) : ∀ (m i K : Nat) (acc : Int), i + m = l.length → m + 1 ≤ K → hourglassref22_Units.l0 K l acc (i : Int) = some (pUnits acc (l.drop i)) := by
  intro m
  induction m with
  | zero =>
    intro i K acc hi hK
    obtain ⟨K, rfl⟩ : ∃ m, K = m + 1 := ⟨K - 1, by omega⟩
    rw [hourglassref22_Units.l0, if_neg (by omega), List.drop_eq_nil_iff.2 (by omega), pUnits]
  | succ m ih =>
    intro i K acc hi hK
    obtain ⟨K, rfl⟩ : ∃ m, K = m + 1 := ⟨K - 1, by omega⟩
    have hlt : i < l.length := by omega
    rw [hourglassref22_Units.l0, if_pos (by omega), if_pos (by omega), rd51_at hlt, wrap_next i (by omega), drop51 hlt, pUnits]
    unfold pUnit
    split
    · split
      · rw [if_neg (by decide), ih (i + 1) K _ (by omega) (by omega)]
      · split
        · rw [ih (i + 1) K _ (by omega) (by omega)]
        · rw [ih (i + 1) K _ (by omega) (by omega)]
    · rw [ih (i + 1) K _ (by omega) (by omega)]
theorem ref_units_f (l : List S51) (hl : l.length ≤ 1000000) (K : Nat) (hK : l.length + 1 ≤ K) : hourglassref22_Units.f K l = some (pUnits 0 l) := by
  unfold hourglassref22_Units.f
  have := ref_units_l0 l hl l.length 0 K 0 (by omega) hK
  exact this
theorem pUnit_range (o : S51) : 0 ≤ pUnit o ∧ pUnit o ≤ 1000 := by unfold pUnit; split <;> (try split) <;> (try split) <;> omega
def pSum : List S51 → Int
  | [] => 0
  | o :: r => pUnit o + pSum r
theorem pSum_range : ∀ l : List S51, 0 ≤ pSum l ∧ pSum l ≤ 1000 * (l.length : Int)
  | [] => by simp [pSum]
  | o :: r => by
    have h1 := pUnit_range o
    have h2 := pSum_range r
    rw [pSum, List.length_cons]
    omega
theorem pUnits_sum : ∀ (l : List S51) (acc : Int), 0 ≤ acc → acc + 1000 * (l.length : Int) ≤ 9000000000000000000 → pUnits acc l = acc + pSum l
  | [], acc, _, _ => by rw [pUnits, pSum]; omega
  | o :: r, acc, h0, h1 => by
    have hu := pUnit_range o
    rw [List.length_cons] at h1
    have e : wrap64 (acc + pUnit o) = acc + pUnit o := by unfold wrap64; omega
    rw [pUnits, e, pUnits_sum r _ (by omega) (by omega), pSum]
    omega
/-! ### ref22.Right, Same -/
theorem wrap_nx (n : Nat) (h : n + 1 ≤ 9223372036854775807) : wrap64 ((n : Int) + 1) = ((n + 1 : Nat) : Int) := by unfold wrap64; omega
theorem ref_right_l0 (l : List S51) (n p : Int) (hl : l.length ≤ 9223372036854775807) : ∀ (m i K : Nat), i + m = l.length → m + 10 ≤ K → hourglassref22_Right.l0 K l n p (i : Int) = some (((l.drop i).all fun o => pOp o.f0 o.f1 o.f2 n p) && decide (l.length ≤ 16)) := by
  intro m
  induction m with
  | zero =>
    intro i K hi hK
    obtain ⟨K, rfl⟩ : ∃ m, K = m + 1 := ⟨K - 1, by omega⟩
    rw [hourglassref22_Right.l0, if_neg (by omega), List.drop_eq_nil_iff.2 (by omega), List.all_nil, Bool.true_and]
    congr 1
    exact decide_eq_decide.2 (by omega)
  | succ m ih =>
    intro i K hi hK
    obtain ⟨K, rfl⟩ : ∃ m, K = m + 1 := ⟨K - 1, by omega⟩
    have hlt : i < l.length := by omega
    rw [hourglassref22_Right.l0, if_pos (by omega), if_pos (by omega), rd51_at hlt, ref_op_f K (by omega), wrap_nx i (by omega), drop51 hlt, List.all_cons]
    simp only [Option.bind_some]
    by_cases h : pOp l[i].f0 l[i].f1 l[i].f2 n p = true
    · rw [if_pos h, ih (i + 1) K (by omega) (by omega), h, Bool.true_and]
    · rw [if_neg h, (Bool.not_eq_true _).mp h, Bool.false_and, Bool.false_and]
theorem ref_right_f (l : List S51) (n p : Int) (hl : l.length ≤ 9223372036854775807) (K : Nat) (hK : l.length + 10 ≤ K) : hourglassref22_Right.f K l n p = some (pRight l n p) := by
  unfold hourglassref22_Right.f
  have := ref_right_l0 l n p hl l.length 0 K (by omega) hK
  refine Eq.trans this ?_
  unfold pRight
  rw [List.drop_zero, Bool.and_comm]
theorem ref_same_l0 (l : List S51) (hl : l.length ≤ 1000000) : ∀ (m i K : Nat), i + m = l.length → m + 1 ≤ K → hourglassref22_Same.l0 K l l (i : Int) = some true := by
  intro m
  induction m with
  | zero =>
    intro i K hi hK
    obtain ⟨K, rfl⟩ : ∃ m, K = m + 1 := ⟨K - 1, by omega⟩
    rw [hourglassref22_Same.l0, if_neg (by omega)]
  | succ m ih =>
    intro i K hi hK
    obtain ⟨K, rfl⟩ : ∃ m, K = m + 1 := ⟨K - 1, by omega⟩
    rw [hourglassref22_Same.l0, if_pos (by omega), if_pos (by omega), if_pos (by omega), wrap_next i (by omega), ih (i + 1) K (by omega) (by omega)]
    simp
theorem ref_same_f (l : List S51) (hl : l.length ≤ 1000000) (K : Nat) (hK : l.length + 1 ≤ K) : hourglassref22_Same.f K l l = some true := by
  unfold hourglassref22_Same.f
  rw [if_pos rfl]
  have := ref_same_l0 l hl l.length 0 K (by omega) hK
  exact this
end Go.Proofs.YthfjjdkaplibmaaDoor.Pr
