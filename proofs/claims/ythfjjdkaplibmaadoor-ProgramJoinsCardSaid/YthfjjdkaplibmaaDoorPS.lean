import Derived.Test.YthfjjdkaplibmaaDoorPr19
import Derived.Test.YthfjjdkaplibmaaDoorPr20
namespace Go.Proofs.YthfjjdkaplibmaaDoor.Pr
open Go Go.RowKit Go.Proofs.YthfjjdkaplibmaaDoorW.PrintWords Go.Proofs.YthfjjdkaplibmaaDoorW.PrintLast Go.Proofs.YthfjjdkaplibmaaDoorW.PrintMore
set_option linter.unusedVariables false
set_option linter.unusedSimpArgs false

/-! ### Programs: which steps may be -/
def pCount (k : Int) : Int := if k = 1 then 1 else if k = 5 then 1 else if k = 6 then 1 else if k = 7 then 1 else if k = 2 then 2 else 0
theorem pcount_f (K : Nat) (hK : 1 ≤ K) (k : Int) : program_counts.f K k = some (pCount k) := by
  obtain ⟨K, rfl⟩ : ∃ m, K = m + 1 := ⟨K - 1, by omega⟩
  unfold program_counts.f pCount
  by_cases h1 : k = 1
  · rw [if_pos h1, if_pos h1, program_counts.j0, h1]; rfl
  · rw [if_neg h1, if_neg h1]
    by_cases h5 : k = 5
    · rw [if_pos h5, if_pos h5, program_counts.j0, h5]; rfl
    · rw [if_neg h5, if_neg h5]
      by_cases h6 : k = 6
      · rw [if_pos h6, if_pos h6, program_counts.j0, h6]; rfl
      · rw [if_neg h6, if_neg h6, program_counts.j0]
        by_cases h7 : k = 7
        · rw [if_pos (beq_iff_eq.2 h7), if_pos h7]
        · rw [if_neg (fun h => h7 (beq_iff_eq.1 h)), if_neg h7]
          by_cases h2 : k = 2
          · rw [if_pos h2, if_pos h2]
          · rw [if_neg h2, if_neg h2]
def pOp (k a b n p : Int) : Bool :=
  if k = 1 then decide (1 ≤ a ∧ a ≤ 1000 ∧ b = 0) else
  if k = 2 then decide (0 ≤ a ∧ a < n ∧ 0 ≤ b ∧ b < p) else
  if k = 3 then decide (a = 0 ∧ b = 0) else
  if k = 4 then decide (a = 0 ∧ b = 0) else
  if k = 5 then decide (0 ≤ a ∧ a ≤ 2147483647 ∧ b = 0) else
  if k = 6 then decide (1 ≤ a ∧ a ≤ 16 ∧ b = 0) else
  if k = 7 then decide (-1 ≤ a ∧ a ≤ 1000000 ∧ b = 0) else false
theorem two_bools {x : Bool} {P : Prop} [Decidable P] (h : x = true ↔ P) : x = decide P := by
  cases x with
  | true => exact (decide_eq_true (h.1 rfl)).symm
  | false => exact (decide_eq_false (fun hp => Bool.noConfusion (h.2 hp))).symm
theorem op_f (K : Nat) (hK : 3 ≤ K) (k a b n p : Int) : program_Op.f K k a b n p = some (pOp k a b n p) := by
  obtain ⟨K, rfl⟩ : ∃ m, K = m + 1 := ⟨K - 1, by omega⟩
  unfold program_Op.f
  rw [pcount_f (K + 1) (by omega)]
  simp only [Option.bind_some, program_Op.j0]
  unfold pOp pCount code_Right.f
  by_cases h1 : k = 1
  · subst h1
    by_cases hb : b = 0
    · by_cases ha : 1 ≤ a
      · simp [hb, ha]
      · simp [hb, ha]
    · simp [hb]
  · by_cases h2 : k = 2
    · subst h2
      by_cases ha : 0 ≤ a <;> by_cases han : a < n <;> by_cases hb : 0 ≤ b <;> simp [ha, han, hb]
    · by_cases h3 : k = 3
      · subst h3
        by_cases hb : b = 0 <;> by_cases ha : a = 0 <;> simp [ha, hb]
      · by_cases h4 : k = 4
        · subst h4
          by_cases hb : b = 0 <;> by_cases ha : a = 0 <;> simp [ha, hb]
        · by_cases h5 : k = 5
          · subst h5
            by_cases hb : b = 0 <;> by_cases ha : 0 ≤ a <;> simp [ha, hb] <;> (try omega)
          · by_cases h6 : k = 6
            · subst h6
              by_cases hb : b = 0
              · by_cases ha : a = 0
                · simp [ha, hb]
                · have e1 : decide (0 ≤ a) = decide (1 ≤ a) := decide_eq_decide.2 (by omega)
                  have e2 : decide (a < 17) = decide (a ≤ 16) := decide_eq_decide.2 (by omega)
                  simp [ha, hb, e1, e2]
              · simp [hb]
            · by_cases h7 : k = 7
              · subst h7
                by_cases hb : b = 0 <;> by_cases ha : -1 ≤ a <;> simp [ha, hb]
              · by_cases hb : b = 0 <;> by_cases ha : a = 0 <;> simp [h1, h2, h3, h4, h5, h6, h7, ha, hb]
theorem ref_op_f (K : Nat) (hK : 4 ≤ K) (k a b n p : Int) : hourglassref22_Op.f K k a b n p = some (pOp k a b n p) := by
  obtain ⟨K, rfl⟩ : ∃ m, K = m + 2 := ⟨K - 2, by omega⟩
  unfold hourglassref22_Op.f
  simp only [hourglassref22_Op.j0, hourglassref22_Op.j1]
  unfold pOp
  by_cases h1 : k = 1
  · subst h1
    by_cases hb : b = 0
    · by_cases ha : 1 ≤ a
      · simp [hb, ha]
      · simp [hb, ha]
    · simp [hb]
  · by_cases h2 : k = 2
    · subst h2
      by_cases ha : 0 ≤ a <;> by_cases han : a < n <;> by_cases hb : 0 ≤ b <;> simp [ha, han, hb]
    · by_cases h3 : k = 3
      · subst h3
        by_cases hb : b = 0 <;> by_cases ha : a = 0 <;> simp [ha, hb]
      · by_cases h4 : k = 4
        · subst h4
          by_cases hb : b = 0 <;> by_cases ha : a = 0 <;> simp [ha, hb]
        · by_cases h5 : k = 5
          · subst h5
            by_cases hb : b = 0 <;> by_cases ha : 0 ≤ a <;> simp [ha, hb]
          · by_cases h6 : k = 6
            · subst h6
              by_cases hb : b = 0 <;> by_cases ha : 1 ≤ a <;> simp [ha, hb]
            · by_cases h7 : k = 7
              · subst h7
                by_cases hb : b = 0 <;> by_cases ha : -1 ≤ a <;> simp [ha, hb]
              · by_cases hb : b = 0 <;> simp [h1, h2, h3, h4, h5, h6, h7, hb]
def pRight (l : List S51) (n p : Int) : Bool := decide (l.length ≤ 16) && l.all fun o => pOp o.f0 o.f1 o.f2 n p
def program_Right.f (l : List S51) (n p : Int) : Option Bool := some (pRight l n p)
def program_All.f (a0_0 : Int) (a0_1 : Int) (a0_2 : Int) (a0_3 : Int) (a0_4 : Int) (a0_5 : Int) (a0_6 : Int) (a0_7 : Int) (a0_8 : Int) (a0_9 : Int) (a0_10 : Int) (a0_11 : Int) (a0_12 : Int) (l : List (List S51)) : Option Bool := some (l.all fun q => pRight q a0_0 (l.length : Int))
theorem rd51_at {l : List S51} {i : Nat} (h : i < l.length) : rd_T51 l (i : Int) = l[i] := by unfold rd_T51; simp [List.getD, h]
end Go.Proofs.YthfjjdkaplibmaaDoor.Pr
