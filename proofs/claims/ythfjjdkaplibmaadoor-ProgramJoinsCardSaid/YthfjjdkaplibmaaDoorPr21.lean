import Derived.Test.YthfjjdkaplibmaaDoorGB
import Derived.Test.YthfjjdkaplibmaaDoorPr20
import Derived.Test.YthfjjdkaplibmaaDoorGC
-- Written by wip/pr.py over the translation. Lean checks it.
namespace Go.Proofs.YthfjjdkaplibmaaDoor.Pr
open Go.RowKit Go.Proofs.YthfjjdkaplibmaaDoorW.PrintWords Go.Proofs.YthfjjdkaplibmaaDoorW.PrintLast Go.Proofs.YthfjjdkaplibmaaDoorW.PrintMore
attribute [local go_sem] max2_int min2_int max_two min_two max_three min_three max_four min_four   -- for this text's walks alone
set_option linter.unusedVariables false
set_option linter.unusedSimpArgs false

/-! ### hourglassref22_Text: function 32 -/
mutual
def hourglassref22_Text.l0 : Nat → List (S51) → ByteArray → Int → Option (ByteArray)
  | 0, _, _, _ => none
  | k + 1, x0, x3, x4 => if x4 < (x0.length : Int) then (if 0 ≤ x4 then (if ((rd_T51 x0 x4).f0) < 1 then (hourglassref22_Text.j1 k x0 x3 x4 true) else (hourglassref22_Text.j1 k x0 x3 x4 (decide (((rd_T51 x0 x4).f0) > 7)))) else (none)) else (some x3)
def hourglassref22_Text.j1 : Nat → List (S51) → ByteArray → Int → Bool → Option (ByteArray)
  | 0, _, _, _, _ => none
  | k + 1, x0, x3, x4, x24 => if x24 = true then (some (⟨#[]⟩ : ByteArray)) else (if x4 > 0 then (if x3.size + 2 ≤ 9223372036854775807 then (hourglassref22_Text.j2 k x0 (x3 ++ (⟨#[59, 32]⟩ : ByteArray)) x4) else (none)) else (hourglassref22_Text.j2 k x0 x3 x4))
def hourglassref22_Text.j2 : Nat → List (S51) → ByteArray → Int → Option (ByteArray)
  | 0, _, _, _ => none
  | k + 1, x0, x3, x4 => if 0 ≤ x4 then (if x4 < (x0.length : Int) then ((hourglassref22_Verb.f ((rd_T51 x0 x4).f0)).bind fun t344 => (if x3.size + t344.size ≤ 9223372036854775807 then ((hourglassref22_Numbers.f ((rd_T51 x0 x4).f0)).bind fun t346 => (if t346 ≥ 1 then (if (x3 ++ t344).size + 1 ≤ 9223372036854775807 then ((hourglassref06_Digits.f ((rd_T51 x0 x4).f1)).bind fun t348 => (if ((x3 ++ t344) ++ (⟨#[32]⟩ : ByteArray)).size + t348.size ≤ 9223372036854775807 then (hourglassref22_Text.j3 k x0 (((x3 ++ t344) ++ (⟨#[32]⟩ : ByteArray)) ++ t348) x4) else (none))) else (none)) else (hourglassref22_Text.j3 k x0 (x3 ++ t344) x4))) else (none))) else (none)) else (none)
def hourglassref22_Text.j3 : Nat → List (S51) → ByteArray → Int → Option (ByteArray)
  | 0, _, _, _ => none
  | k + 1, x0, x3, x4 => if 0 ≤ x4 then (if x4 < (x0.length : Int) then ((hourglassref22_Numbers.f ((rd_T51 x0 x4).f0)).bind fun t350 => (if t350 = 2 then (if x3.size + 1 ≤ 9223372036854775807 then ((hourglassref06_Digits.f ((rd_T51 x0 x4).f2)).bind fun t352 => (if (x3 ++ (⟨#[32]⟩ : ByteArray)).size + t352.size ≤ 9223372036854775807 then (hourglassref22_Text.l0 k x0 ((x3 ++ (⟨#[32]⟩ : ByteArray)) ++ t352) (wrap64 (x4 + 1))) else (none))) else (none)) else (hourglassref22_Text.l0 k x0 x3 (wrap64 (x4 + 1))))) else (none)) else (none)
end
def hourglassref22_Text.f (k : Nat) (l0 : List (S51)) : Option (ByteArray) := hourglassref22_Text.l0 k l0 (⟨#[]⟩ : ByteArray) 0
theorem hourglassref22_Text.mono_l : ∀ k, (∀ y0 y1 y2, LeO (hourglassref22_Text.l0 k y0 y1 y2) (hourglassref22_Text.l0 (k + 1) y0 y1 y2)) ∧ (∀ y0 y1 y2 y3, LeO (hourglassref22_Text.j1 k y0 y1 y2 y3) (hourglassref22_Text.j1 (k + 1) y0 y1 y2 y3)) ∧ (∀ y0 y1 y2, LeO (hourglassref22_Text.j2 k y0 y1 y2) (hourglassref22_Text.j2 (k + 1) y0 y1 y2)) ∧ (∀ y0 y1 y2, LeO (hourglassref22_Text.j3 k y0 y1 y2) (hourglassref22_Text.j3 (k + 1) y0 y1 y2))
  | 0 => ⟨fun _ _ _ r h => by simp [hourglassref22_Text.l0] at h, fun _ _ _ _ r h => by simp [hourglassref22_Text.j1] at h, fun _ _ _ r h => by simp [hourglassref22_Text.j2] at h, fun _ _ _ r h => by simp [hourglassref22_Text.j3] at h⟩
  | k + 1 => by
    obtain ⟨ih0, ih1, ih2, ih3⟩ := hourglassref22_Text.mono_l k
    refine ⟨?_, ?_, ?_, ?_⟩
    · intro y0 y1 y2
      unfold hourglassref22_Text.l0
      repeat' first
      | (with_reducible exact ih0 _ _ _)
      | (with_reducible exact ih1 _ _ _ _)
      | (with_reducible exact ih2 _ _ _)
      | (with_reducible exact ih3 _ _ _)
      | (with_reducible exact LeO.refl _)
      | (with_reducible exact LeO.none _)
      | (with_reducible refine LeO.ite ?_ ?_)
      | (with_reducible refine LeO.bind ?_ (fun _ => ?_))
      | exact ih0 _ _ _
      | exact ih1 _ _ _ _
      | exact ih2 _ _ _
      | exact ih3 _ _ _
      | exact LeO.none _
      | refine LeO.ite ?_ ?_
      | refine LeO.bind ?_ (fun _ => ?_)
    · intro y0 y1 y2 y3
      unfold hourglassref22_Text.j1
      repeat' first
      | (with_reducible exact ih0 _ _ _)
      | (with_reducible exact ih1 _ _ _ _)
      | (with_reducible exact ih2 _ _ _)
      | (with_reducible exact ih3 _ _ _)
      | (with_reducible exact LeO.refl _)
      | (with_reducible exact LeO.none _)
      | (with_reducible refine LeO.ite ?_ ?_)
      | (with_reducible refine LeO.bind ?_ (fun _ => ?_))
      | exact ih0 _ _ _
      | exact ih1 _ _ _ _
      | exact ih2 _ _ _
      | exact ih3 _ _ _
      | exact LeO.none _
      | refine LeO.ite ?_ ?_
      | refine LeO.bind ?_ (fun _ => ?_)
    · intro y0 y1 y2
      unfold hourglassref22_Text.j2
      repeat' first
      | (with_reducible exact ih0 _ _ _)
      | (with_reducible exact ih1 _ _ _ _)
      | (with_reducible exact ih2 _ _ _)
      | (with_reducible exact ih3 _ _ _)
      | (with_reducible exact LeO.refl _)
      | (with_reducible exact LeO.none _)
      | (with_reducible refine LeO.ite ?_ ?_)
      | (with_reducible refine LeO.bind ?_ (fun _ => ?_))
      | exact ih0 _ _ _
      | exact ih1 _ _ _ _
      | exact ih2 _ _ _
      | exact ih3 _ _ _
      | exact LeO.none _
      | refine LeO.ite ?_ ?_
      | refine LeO.bind ?_ (fun _ => ?_)
    · intro y0 y1 y2
      unfold hourglassref22_Text.j3
      repeat' first
      | (with_reducible exact ih0 _ _ _)
      | (with_reducible exact ih1 _ _ _ _)
      | (with_reducible exact ih2 _ _ _)
      | (with_reducible exact ih3 _ _ _)
      | (with_reducible exact LeO.refl _)
      | (with_reducible exact LeO.none _)
      | (with_reducible refine LeO.ite ?_ ?_)
      | (with_reducible refine LeO.bind ?_ (fun _ => ?_))
      | exact ih0 _ _ _
      | exact ih1 _ _ _ _
      | exact ih2 _ _ _
      | exact ih3 _ _ _
      | exact LeO.none _
      | refine LeO.ite ?_ ?_
      | refine LeO.bind ?_ (fun _ => ?_)
theorem hourglassref22_Text.mono : ∀ a0 k, LeO (hourglassref22_Text.f k a0) (hourglassref22_Text.f (k + 1) a0) := by
  intro a0 k
  obtain ⟨ih0, ih1, ih2, ih3⟩ := hourglassref22_Text.mono_l k
  unfold hourglassref22_Text.f
  repeat' first
      | (with_reducible exact ih0 _ _ _)
      | (with_reducible exact ih1 _ _ _ _)
      | (with_reducible exact ih2 _ _ _)
      | (with_reducible exact ih3 _ _ _)
      | (with_reducible exact LeO.refl _)
      | (with_reducible exact LeO.none _)
      | (with_reducible refine LeO.ite ?_ ?_)
      | (with_reducible refine LeO.bind ?_ (fun _ => ?_))
      | exact ih0 _ _ _
      | exact ih1 _ _ _ _
      | exact ih2 _ _ _
      | exact ih3 _ _ _
      | exact LeO.none _
      | refine LeO.ite ?_ ?_
      | refine LeO.bind ?_ (fun _ => ?_)
set_option maxHeartbeats 8000000 in
set_option maxRecDepth 100000 in
theorem hourglassref22_Text.calls (k : Nat) (A0 : Option Addr) (c0 : Nat) (l0 : List (S51)) (r : ByteArray) (w : World) (hr0 : Kd.C k51 w A0 l0.length l0) (hc0 : l0.length ≤ c0) (h : hourglassref22_Text.f k l0 = some r) :
    Calls Tryd.prog 32 #[.slice A0 l0.length c0] w fun e w' => e = .returned (.string r) ∧ Below w.heap.size w w' := by
  have HR0 := Aside0.mk hr0
  have HC0 := Aside0.mk hc0
  clear hr0 hc0
  have HB := Aside0.mk (Below.refl w.heap.size w)
  have H : (hourglassref22_Text.l0 k l0 (⟨#[]⟩ : ByteArray) 0) = some r := h
  clear h
  have H' := Aside0.mk H
  clear H
  go_enter Tryd.func32, Tryd.ntmps32
  go_wp2
  go_loopg [3, 4] k (fun kq v3 v4 w' => ∃ (x3_1 : ByteArray) (x4_1 : Int), v3 = .string x3_1 ∧ v4 = .int .i64 x4_1 ∧ Aside0 (hourglassref22_Text.l0 kq l0 x3_1 x4_1 = some r) ∧ Aside0 (kq ≤ k) ∧ Aside0 (Below w.heap.size w w'))
  case atStart => exact ⟨((⟨#[]⟩ : ByteArray)), (0), (by first | rfl | (simp; done) | (simp [*]; done)), (by first | rfl | (simp; done) | (simp [*]; done)), H', ⟨Nat.le_refl _⟩, ⟨by repeat (first | (with_reducible first | exact HB.out | apply below_alloc | apply pw_below_drewN | apply below_drew1) | exact HB.out)⟩⟩
  case round =>
    clear H'
    obtain ⟨x3_1, x4_1, rfl, rfl, HA, HK1, HB⟩ := hrel
    cases gk with
    | zero => exact absurd HA.out (by simp [hourglassref22_Text.l0])
    | succ k1 =>
      have H := HA.out
      clear HA
      simp only [hourglassref22_Text.l0] at H
      by_cases c2 : x4_1 < (l0.length : Int)
      · rw [if_pos c2] at H
        have c2b0 : decide (x4_1 < (l0.length : Int)) = true := decide_eq_true c2
        clear c2
        have HC3 := Aside0.mk H
        clear H
        go_upto_region 5 with (fail)
        go_cut [24] (fun v24 wc => ∃ (kq : Nat) (x24_2 : Bool), v24 = .bool x24_2 ∧ Aside0 (hourglassref22_Text.j1 kq l0 x3_1 x4_1 x24_2 = some r) ∧ Aside0 (kq ≤ k1) ∧ Aside0 (Below w.heap.size w wc))
        case first =>
          have H := HC3.out
          clear HC3
          by_cases c4 : 0 ≤ x4_1
          · rw [if_pos c4] at H
            have c4b0 : decide (0 ≤ x4_1) = true := decide_eq_true c4
            clear c4
            (first | rw [c4b0] | (simp only [i64_w, i32_w]; rw [c4b0]) | skip)
            by_cases c5 : ((rd_T51 l0 x4_1).f0) < 1
            · rw [if_pos c5] at H
              have c5b0 : decide (((rd_T51 l0 x4_1).f0) < 1) = true := decide_eq_true c5
              clear c5
              have H' := Aside0.mk H
              clear H
              have p341 : 0 ≤ (x4_1 : Int) := of_decide_eq_true (by first | (with_reducible assumption) | assumption)
              have q341 : x4_1 < (l0.length : Int) := of_decide_eq_true (by first | (with_reducible assumption) | assumption)
              obtain ⟨ad341, e341, hx341_0, hx341_1, hx341_2⟩ := at_T51 HR0.out x4_1 p341 q341
              cases e341
              replace hx341_0 := (HB.out.cell (World.block_lt_of_cell? w _ hx341_0)).trans hx341_0
              replace hx341_1 := (HB.out.cell (World.block_lt_of_cell? w _ hx341_1)).trans hx341_1
              replace hx341_2 := (HB.out.cell (World.block_lt_of_cell? w _ hx341_2)).trans hx341_2
              replace p341 := eq_true p341
              replace q341 := eq_true q341
              go_wp2
              go_meet
              case rel => exact ⟨_, (true), (by first | rfl | (simp; done) | (simp [*]; done)), H', ⟨by have := HK1.out; first | omega | exact Nat.le_refl _⟩, ⟨by repeat (first | (with_reducible first | exact HB.out | apply below_alloc | apply pw_below_drewN | apply below_drew1) | exact HB.out)⟩⟩
            · rw [if_neg c5] at H
              have c5b0 : decide (((rd_T51 l0 x4_1).f0) < 1) = false := decide_eq_false c5
              clear c5
              have H' := Aside0.mk H
              clear H
              have p341 : 0 ≤ (x4_1 : Int) := of_decide_eq_true (by first | (with_reducible assumption) | assumption)
              have q341 : x4_1 < (l0.length : Int) := of_decide_eq_true (by first | (with_reducible assumption) | assumption)
              obtain ⟨ad341, e341, hx341_0, hx341_1, hx341_2⟩ := at_T51 HR0.out x4_1 p341 q341
              cases e341
              replace hx341_0 := (HB.out.cell (World.block_lt_of_cell? w _ hx341_0)).trans hx341_0
              replace hx341_1 := (HB.out.cell (World.block_lt_of_cell? w _ hx341_1)).trans hx341_1
              replace hx341_2 := (HB.out.cell (World.block_lt_of_cell? w _ hx341_2)).trans hx341_2
              replace p341 := eq_true p341
              replace q341 := eq_true q341
              have p342 : 0 ≤ (x4_1 : Int) := of_decide_eq_true (by first | (with_reducible assumption) | assumption)
              have q342 : x4_1 < (l0.length : Int) := of_decide_eq_true (by first | (with_reducible assumption) | assumption)
              obtain ⟨ad342, e342, hx342_0, hx342_1, hx342_2⟩ := at_T51 HR0.out x4_1 p342 q342
              obtain rfl : ad341 = ad342 := (by injection e342)
              replace hx342_0 := (HB.out.cell (World.block_lt_of_cell? w _ hx342_0)).trans hx342_0
              replace hx342_1 := (HB.out.cell (World.block_lt_of_cell? w _ hx342_1)).trans hx342_1
              replace hx342_2 := (HB.out.cell (World.block_lt_of_cell? w _ hx342_2)).trans hx342_2
              replace p342 := eq_true p342
              replace q342 := eq_true q342
              go_wp2
              go_meet
              case rel => exact ⟨_, (decide (((rd_T51 l0 x4_1).f0) > 7)), (by first | rfl | (simp; done) | (simp [*]; done)), H', ⟨by have := HK1.out; first | omega | exact Nat.le_refl _⟩, ⟨by repeat (first | (with_reducible first | exact HB.out | apply below_alloc | apply pw_below_drewN | apply below_drew1) | exact HB.out)⟩⟩
          · rw [if_neg c4] at H
            exact absurd H (by simp)
        case rest =>
          clear HC3
          try clear c2
          try clear c2b0
          try clear p2
          try clear c3
          try clear p3
          try clear q3
          try clear hx3
          try clear c4
          try clear c4b0
          try clear c5
          try clear c5b0
          try clear hx341_0
          try clear hx341_1
          try clear hx341_2
          try clear hx342_0
          try clear hx342_1
          try clear hx342_2
          try clear p341
          try clear p342
          try clear q341
          try clear q342
          obtain ⟨kq, x24_2, rfl, HA, HJ2, HB⟩ := hcut
          cases kq with
          | zero => exact absurd HA.out (by simp [hourglassref22_Text.j1])
          | succ kj2 =>
            have H := HA.out
            clear HA
            simp only [hourglassref22_Text.j1] at H
            by_cases c6 : x24_2 = true
            · subst c6
              have H1 : (some (⟨#[]⟩ : ByteArray)) = some r := by rw [if_pos rfl] at H; exact H
              clear H
              have H := H1
              clear H1
              obtain rfl := Option.some.inj H
              go_wp2
              go_ret
              exact ⟨by first | rfl | (simp [errW_none, errW_some] <;> rfl) | (simp [*, errW_none, errW_some] <;> rfl), by repeat (first | (with_reducible first | exact HB.out | apply below_alloc | apply pw_below_drewN | apply below_drew1) | exact HB.out)⟩
            · replace c6 := Bool.eq_false_iff.mpr c6
              subst c6
              have H1 : (if x4_1 > 0 then (if x3_1.size + 2 ≤ 9223372036854775807 then (hourglassref22_Text.j2 kj2 l0 (x3_1 ++ (⟨#[59, 32]⟩ : ByteArray)) x4_1) else (none)) else (hourglassref22_Text.j2 kj2 l0 x3_1 x4_1)) = some r := by rw [if_neg (show ¬ (false = true) by decide)] at H; exact H
              clear H
              have H := H1
              clear H1
              have HC7 := Aside0.mk H
              clear H
              go_upto_if 26 with (fail)
              go_cut [3] (fun v3 wc => ∃ (kq : Nat) (x3_6 : ByteArray), v3 = .string x3_6 ∧ Aside0 (hourglassref22_Text.j2 kq l0 x3_6 x4_1 = some r) ∧ Aside0 (kq ≤ kj2) ∧ Aside0 (Below w.heap.size w wc))
              case first =>
                have H := HC7.out
                clear HC7
                by_cases c8 : x4_1 > 0
                · rw [if_pos c8] at H
                  have c8b0 : decide (0 < x4_1) = true := decide_eq_true c8
                  clear c8
                  (first | rw [c8b0] | (simp only [i64_w, i32_w]; rw [c8b0]) | skip)
                  by_cases c9 : x3_1.size + 2 ≤ 9223372036854775807
                  · rw [if_pos c9] at H
                    have c9b0 := eq_true c9
                    have c9b1 : decide (x3_1.size + 2 ≤ 9223372036854775807) = true := decide_eq_true c9
                    try have c9b2 : (9223372036854775807 < x3_1.size + 2) = False := eq_false (Nat.not_lt.2 c9)
                    have H' := Aside0.mk H
                    clear H
                    go_wp2
                    go_meet
                    case rel => exact ⟨_, (x3_1 ++ (⟨#[59, 32]⟩ : ByteArray)), (by first | rfl | (simp; done) | (simp [*]; done)), H', ⟨by have := HK1.out; have := HJ2.out; first | omega | exact Nat.le_refl _⟩, ⟨by repeat (first | (with_reducible first | exact HB.out | apply below_alloc | apply pw_below_drewN | apply below_drew1) | exact HB.out)⟩⟩
                  · rw [if_neg c9] at H
                    exact absurd H (by simp)
                · rw [if_neg c8] at H
                  have c8b0 : decide (0 < x4_1) = false := decide_eq_false c8
                  clear c8
                  (first | rw [c8b0] | (simp only [i64_w, i32_w]; rw [c8b0]) | skip)
                  have H' := Aside0.mk H
                  clear H
                  go_wp2
                  go_meet
                  case rel => exact ⟨_, (x3_1), (by first | rfl | (simp; done) | (simp [*]; done)), H', ⟨by have := HK1.out; have := HJ2.out; first | omega | exact Nat.le_refl _⟩, ⟨by repeat (first | (with_reducible first | exact HB.out | apply below_alloc | apply pw_below_drewN | apply below_drew1) | exact HB.out)⟩⟩
              case rest =>
                clear HC7
                try clear c2
                try clear c2b0
                try clear p2
                try clear c3
                try clear p3
                try clear q3
                try clear hx3
                try clear c4
                try clear c4b0
                try clear c5
                try clear c5b0
                try clear c6
                try clear c8
                try clear c8b0
                try clear c9
                try clear c9b0
                try clear c9b1
                try clear c9b2
                try clear hx341_0
                try clear hx341_1
                try clear hx341_2
                try clear hx342_0
                try clear hx342_1
                try clear hx342_2
                try clear p2
                try clear p3
                try clear p341
                try clear p342
                try clear q3
                try clear q341
                try clear q342
                obtain ⟨kq, x3_6, rfl, HA, HJ6, HB⟩ := hcut
                cases kq with
                | zero => exact absurd HA.out (by simp [hourglassref22_Text.j2])
                | succ kj6 =>
                  have H := HA.out
                  clear HA
                  simp only [hourglassref22_Text.j2] at H
                  by_cases c10 : 0 ≤ x4_1
                  · rw [if_pos c10] at H
                    have c10b0 : decide (0 ≤ x4_1) = true := decide_eq_true c10
                    clear c10
                    by_cases c11 : x4_1 < (l0.length : Int)
                    · rw [if_pos c11] at H
                      have c11b0 : decide (x4_1 < (l0.length : Int)) = true := decide_eq_true c11
                      clear c11
                      replace H := Option.bind_eq_some_iff.mp H
                      obtain ⟨t344, A120, H⟩ := H
                      replace H : (if x3_6.size + t344.size ≤ 9223372036854775807 then ((hourglassref22_Numbers.f ((rd_T51 l0 x4_1).f0)).bind fun t346 => (if t346 ≥ 1 then (if (x3_6 ++ t344).size + 1 ≤ 9223372036854775807 then ((hourglassref06_Digits.f ((rd_T51 l0 x4_1).f1)).bind fun t348 => (if ((x3_6 ++ t344) ++ (⟨#[32]⟩ : ByteArray)).size + t348.size ≤ 9223372036854775807 then (hourglassref22_Text.j3 kj6 l0 (((x3_6 ++ t344) ++ (⟨#[32]⟩ : ByteArray)) ++ t348) x4_1) else (none))) else (none)) else (hourglassref22_Text.j3 kj6 l0 (x3_6 ++ t344) x4_1))) else (none)) = some r := H
                      have A12 := Aside0.mk A120
                      clear A120
                      by_cases c13 : x3_6.size + t344.size ≤ 9223372036854775807
                      · rw [if_pos c13] at H
                        have c13b0 := eq_true c13
                        have c13b1 : decide (x3_6.size + t344.size ≤ 9223372036854775807) = true := decide_eq_true c13
                        try have c13b2 : (9223372036854775807 < x3_6.size + t344.size) = False := eq_false (Nat.not_lt.2 c13)
                        replace H := Option.bind_eq_some_iff.mp H
                        obtain ⟨t346, A140, H⟩ := H
                        replace H : (if t346 ≥ 1 then (if (x3_6 ++ t344).size + 1 ≤ 9223372036854775807 then ((hourglassref06_Digits.f ((rd_T51 l0 x4_1).f1)).bind fun t348 => (if ((x3_6 ++ t344) ++ (⟨#[32]⟩ : ByteArray)).size + t348.size ≤ 9223372036854775807 then (hourglassref22_Text.j3 kj6 l0 (((x3_6 ++ t344) ++ (⟨#[32]⟩ : ByteArray)) ++ t348) x4_1) else (none))) else (none)) else (hourglassref22_Text.j3 kj6 l0 (x3_6 ++ t344) x4_1)) = some r := H
                        have A14 := Aside0.mk A140
                        clear A140
                        have HC15 := Aside0.mk H
                        clear H
                        have p343 : 0 ≤ (x4_1 : Int) := of_decide_eq_true (by first | (with_reducible assumption) | assumption)
                        have q343 : x4_1 < (l0.length : Int) := of_decide_eq_true (by first | (with_reducible assumption) | assumption)
                        obtain ⟨ad343, e343, hx343_0, hx343_1, hx343_2⟩ := at_T51 HR0.out x4_1 p343 q343
                        cases e343
                        replace hx343_0 := (HB.out.cell (World.block_lt_of_cell? w _ hx343_0)).trans hx343_0
                        replace hx343_1 := (HB.out.cell (World.block_lt_of_cell? w _ hx343_1)).trans hx343_1
                        replace hx343_2 := (HB.out.cell (World.block_lt_of_cell? w _ hx343_2)).trans hx343_2
                        replace p343 := eq_true p343
                        replace q343 := eq_true q343
                        go_upto_if 43 with (first | ((with_reducible refine gate_callee (f := 62) rfl ?_); refine goesL_ (some 35) rfl rfl Tryd.func62 (by kernel_rfl) rfl #[.int .i64 ((rd_T51 l0 x4_1).f0)] rfl (by (try simp only [List.map_toArray, List.map_cons, List.map_nil]); first | done | rfl | (simp only [List.length_drop, List.length_take]; rfl)) ?_; (with_reducible refine (hourglassref22_Verb.calls ((rd_T51 l0 x4_1).f0) t344 _ A12.out).mono ?_); rintro e w16 ⟨rfl, hb⟩; refine ⟨_, rfl, ?_⟩; have n0_ := Aside0.mk (below_step (by repeat (first | (with_reducible first | exact HB.out | apply below_alloc | apply pw_below_drewN | apply below_drew1) | exact HB.out)) hb); clear HB; have HB := n0_; clear n0_; (try clear hb); (try clear hb2); (try clear hk); (try clear hi); have p345 : 0 ≤ (x4_1 : Int) := of_decide_eq_true (by first | (with_reducible assumption) | assumption); have q345 : x4_1 < (l0.length : Int) := of_decide_eq_true (by first | (with_reducible assumption) | assumption); obtain ⟨ad345, e345, hx345_0, hx345_1, hx345_2⟩ := at_T51 HR0.out x4_1 p345 q345; obtain rfl : ad343 = ad345 := (by injection e345); replace hx345_0 := (HB.out.cell (World.block_lt_of_cell? w _ hx345_0)).trans hx345_0; replace hx345_1 := (HB.out.cell (World.block_lt_of_cell? w _ hx345_1)).trans hx345_1; replace hx345_2 := (HB.out.cell (World.block_lt_of_cell? w _ hx345_2)).trans hx345_2; replace p345 := eq_true p345; replace q345 := eq_true q345) | ((with_reducible refine gate_callee (f := 63) rfl ?_); refine goesL_ (some 42) rfl rfl Tryd.func63 (by kernel_rfl) rfl #[.int .i64 ((rd_T51 l0 x4_1).f0)] rfl (by (try simp only [List.map_toArray, List.map_cons, List.map_nil]); first | done | rfl | (simp only [List.length_drop, List.length_take]; rfl)) ?_; (with_reducible refine (hourglassref22_Numbers.calls ((rd_T51 l0 x4_1).f0) t346 _ A14.out).mono ?_); rintro e w' ⟨rfl, ⟨nd, rfl⟩⟩; refine ⟨_, rfl, ?_⟩))
                        (try simp only [Act.put, List.setIfInBounds_toArray, List.set_cons_zero, List.set_cons_succ])
                        go_cut [3] (fun v3 wc => ∃ (kq : Nat) (x3_14 : ByteArray), v3 = .string x3_14 ∧ Aside0 (hourglassref22_Text.j3 kq l0 x3_14 x4_1 = some r) ∧ Aside0 (kq ≤ kj6) ∧ Aside0 (Below w.heap.size w wc))
                        case first =>
                          have H := HC15.out
                          clear HC15
                          by_cases c17 : t346 ≥ 1
                          · rw [if_pos c17] at H
                            have c17b0 : decide (1 ≤ t346) = true := decide_eq_true c17
                            clear c17
                            (first | rw [c17b0] | (simp only [i64_w, i32_w]; rw [c17b0]) | skip)
                            by_cases c18 : (x3_6 ++ t344).size + 1 ≤ 9223372036854775807
                            · rw [if_pos c18] at H
                              have c18b0 := eq_true c18
                              have c18b1 : decide ((x3_6 ++ t344).size + 1 ≤ 9223372036854775807) = true := decide_eq_true c18
                              try have c18b2 : (9223372036854775807 < (x3_6 ++ t344).size + 1) = False := eq_false (Nat.not_lt.2 c18)
                              have c18s_ : (9223372036854775807 < x3_6.size + t344.size + 1) = False := eq_false (by have z_ := c18; simp only [ByteArray.size_append] at z_; omega)
                              replace H := Option.bind_eq_some_iff.mp H
                              obtain ⟨t348, A190, H⟩ := H
                              replace H : (if ((x3_6 ++ t344) ++ (⟨#[32]⟩ : ByteArray)).size + t348.size ≤ 9223372036854775807 then (hourglassref22_Text.j3 kj6 l0 (((x3_6 ++ t344) ++ (⟨#[32]⟩ : ByteArray)) ++ t348) x4_1) else (none)) = some r := H
                              have A19 := Aside0.mk A190
                              clear A190
                              by_cases c20 : ((x3_6 ++ t344) ++ (⟨#[32]⟩ : ByteArray)).size + t348.size ≤ 9223372036854775807
                              · rw [if_pos c20] at H
                                have c20b0 := eq_true c20
                                have c20b1 : decide (((x3_6 ++ t344) ++ (⟨#[32]⟩ : ByteArray)).size + t348.size ≤ 9223372036854775807) = true := decide_eq_true c20
                                try have c20b2 : (9223372036854775807 < ((x3_6 ++ t344) ++ (⟨#[32]⟩ : ByteArray)).size + t348.size) = False := eq_false (Nat.not_lt.2 c20)
                                have c20s_ : (9223372036854775807 < x3_6.size + t344.size + 1 + t348.size) = False := eq_false (by have z_ := c20; simp only [ByteArray.size_append] at z_; have e0_ : (⟨#[32]⟩ : ByteArray).size = 1 := rfl; rw [e0_] at z_; omega)
                                have H' := Aside0.mk H
                                clear H
                                have p347 : 0 ≤ (x4_1 : Int) := of_decide_eq_true (by first | (with_reducible assumption) | assumption)
                                have q347 : x4_1 < (l0.length : Int) := of_decide_eq_true (by first | (with_reducible assumption) | assumption)
                                obtain ⟨ad347, e347, hx347_0, hx347_1, hx347_2⟩ := at_T51 HR0.out x4_1 p347 q347
                                obtain rfl : ad343 = ad347 := (by injection e347)
                                replace hx347_0 := (HB.out.cell (World.block_lt_of_cell? w _ hx347_0)).trans hx347_0
                                replace hx347_1 := (HB.out.cell (World.block_lt_of_cell? w _ hx347_1)).trans hx347_1
                                replace hx347_2 := (HB.out.cell (World.block_lt_of_cell? w _ hx347_2)).trans hx347_2
                                replace p347 := eq_true p347
                                replace q347 := eq_true q347
                                go_wp2_with (first | ((with_reducible refine gate_callee (f := 53) rfl ?_); refine goesL_ (some 51) rfl rfl Tryd.func53 (by kernel_rfl) rfl #[.int .i64 ((rd_T51 l0 x4_1).f1)] rfl (by (try simp only [List.map_toArray, List.map_cons, List.map_nil]); first | done | rfl | (simp only [List.length_drop, List.length_take]; rfl)) ?_; (with_reducible refine (hourglassref06_Digits.calls ((rd_T51 l0 x4_1).f1) t348 _ A19.out).mono ?_); rintro e w21 ⟨rfl, hb⟩; refine ⟨_, rfl, ?_⟩; have n0_ := Aside0.mk (below_step (by repeat (first | (with_reducible first | exact HB.out | apply below_alloc | apply pw_below_drewN | apply below_drew1) | exact HB.out)) hb); clear HB; have HB := n0_; clear n0_; (try clear hb); (try clear hb2); (try clear hk); (try clear hi)))
                                go_meet
                                case rel => exact ⟨_, (((x3_6 ++ t344) ++ (⟨#[32]⟩ : ByteArray)) ++ t348), (by first | rfl | (simp; done) | (simp [*]; done)), H', ⟨by have := HK1.out; have := HJ2.out; have := HJ6.out; first | omega | exact Nat.le_refl _⟩, ⟨by repeat (first | (with_reducible first | exact HB.out | apply below_alloc | apply pw_below_drewN | apply below_drew1) | exact HB.out)⟩⟩
                              · rw [if_neg c20] at H
                                exact absurd H (by simp)
                            · rw [if_neg c18] at H
                              exact absurd H (by simp)
                          · rw [if_neg c17] at H
                            have c17b0 : decide (1 ≤ t346) = false := decide_eq_false c17
                            clear c17
                            (first | rw [c17b0] | (simp only [i64_w, i32_w]; rw [c17b0]) | skip)
                            have H' := Aside0.mk H
                            clear H
                            go_wp2
                            go_meet
                            case rel => exact ⟨_, (x3_6 ++ t344), (by first | rfl | (simp; done) | (simp [*]; done)), H', ⟨by have := HK1.out; have := HJ2.out; have := HJ6.out; first | omega | exact Nat.le_refl _⟩, ⟨by repeat (first | (with_reducible first | exact HB.out | apply below_alloc | apply pw_below_drewN | apply below_drew1) | exact HB.out)⟩⟩
                        case rest =>
                          clear HC15
                          try clear c1
                          try clear c2
                          try clear c2b0
                          try clear p2
                          try clear c3
                          try clear p3
                          try clear q3
                          try clear hx3
                          try clear c4
                          try clear c4b0
                          try clear c5
                          try clear c5b0
                          try clear c6
                          try clear c8
                          try clear c8b0
                          try clear c9
                          try clear c9b0
                          try clear c9b1
                          try clear c9b2
                          try clear c10
                          try clear c10b0
                          try clear c11
                          try clear c11b0
                          try clear c13
                          try clear c13b0
                          try clear c13b1
                          try clear c13b2
                          try clear c17
                          try clear c17b0
                          try clear c18
                          try clear c18b0
                          try clear c18b1
                          try clear c18b2
                          try clear c20
                          try clear c20b0
                          try clear c20b1
                          try clear c20b2
                          try clear hx341_0
                          try clear hx341_1
                          try clear hx341_2
                          try clear hx342_0
                          try clear hx342_1
                          try clear hx342_2
                          try clear hx343_0
                          try clear hx343_1
                          try clear hx343_2
                          try clear hx345_0
                          try clear hx345_1
                          try clear hx345_2
                          try clear hx347_0
                          try clear hx347_1
                          try clear hx347_2
                          try clear p2
                          try clear p3
                          try clear p341
                          try clear p342
                          try clear p343
                          try clear p345
                          try clear p347
                          try clear q3
                          try clear q341
                          try clear q342
                          try clear q343
                          try clear q345
                          try clear q347
                          obtain ⟨kq, x3_14, rfl, HA, HJ14, HB⟩ := hcut
                          cases kq with
                          | zero => exact absurd HA.out (by simp [hourglassref22_Text.j3])
                          | succ kj14 =>
                            have H := HA.out
                            clear HA
                            simp only [hourglassref22_Text.j3] at H
                            by_cases c22 : 0 ≤ x4_1
                            · rw [if_pos c22] at H
                              have c22b0 : decide (0 ≤ x4_1) = true := decide_eq_true c22
                              clear c22
                              by_cases c23 : x4_1 < (l0.length : Int)
                              · rw [if_pos c23] at H
                                have c23b0 : decide (x4_1 < (l0.length : Int)) = true := decide_eq_true c23
                                clear c23
                                replace H := Option.bind_eq_some_iff.mp H
                                obtain ⟨t350, A240, H⟩ := H
                                replace H : (if t350 = 2 then (if x3_14.size + 1 ≤ 9223372036854775807 then ((hourglassref06_Digits.f ((rd_T51 l0 x4_1).f2)).bind fun t352 => (if (x3_14 ++ (⟨#[32]⟩ : ByteArray)).size + t352.size ≤ 9223372036854775807 then (hourglassref22_Text.l0 kj14 l0 ((x3_14 ++ (⟨#[32]⟩ : ByteArray)) ++ t352) (wrap64 (x4_1 + 1))) else (none))) else (none)) else (hourglassref22_Text.l0 kj14 l0 x3_14 (wrap64 (x4_1 + 1)))) = some r := H
                                have A24 := Aside0.mk A240
                                clear A240
                                by_cases c25 : t350 = 2
                                · rw [if_pos c25] at H
                                  have c25b0 : (t350 == 2) = true := beq_iff_eq.mpr c25
                                  have c25b1 : (t350 != 2) = false := bne_eq_false_iff_eq.mpr c25
                                  clear c25
                                  by_cases c26 : x3_14.size + 1 ≤ 9223372036854775807
                                  · rw [if_pos c26] at H
                                    have c26b0 := eq_true c26
                                    have c26b1 : decide (x3_14.size + 1 ≤ 9223372036854775807) = true := decide_eq_true c26
                                    try have c26b2 : (9223372036854775807 < x3_14.size + 1) = False := eq_false (Nat.not_lt.2 c26)
                                    replace H := Option.bind_eq_some_iff.mp H
                                    obtain ⟨t352, A270, H⟩ := H
                                    replace H : (if (x3_14 ++ (⟨#[32]⟩ : ByteArray)).size + t352.size ≤ 9223372036854775807 then (hourglassref22_Text.l0 kj14 l0 ((x3_14 ++ (⟨#[32]⟩ : ByteArray)) ++ t352) (wrap64 (x4_1 + 1))) else (none)) = some r := H
                                    have A27 := Aside0.mk A270
                                    clear A270
                                    by_cases c28 : (x3_14 ++ (⟨#[32]⟩ : ByteArray)).size + t352.size ≤ 9223372036854775807
                                    · rw [if_pos c28] at H
                                      have c28b0 := eq_true c28
                                      have c28b1 : decide ((x3_14 ++ (⟨#[32]⟩ : ByteArray)).size + t352.size ≤ 9223372036854775807) = true := decide_eq_true c28
                                      try have c28b2 : (9223372036854775807 < (x3_14 ++ (⟨#[32]⟩ : ByteArray)).size + t352.size) = False := eq_false (Nat.not_lt.2 c28)
                                      have c28s_ : (9223372036854775807 < x3_14.size + 1 + t352.size) = False := eq_false (by have z_ := c28; simp only [ByteArray.size_append] at z_; have e0_ : (⟨#[32]⟩ : ByteArray).size = 1 := rfl; rw [e0_] at z_; omega)
                                      have H' := Aside0.mk H
                                      clear H
                                      have p349 : 0 ≤ (x4_1 : Int) := of_decide_eq_true (by first | (with_reducible assumption) | assumption)
                                      have q349 : x4_1 < (l0.length : Int) := of_decide_eq_true (by first | (with_reducible assumption) | assumption)
                                      obtain ⟨ad349, e349, hx349_0, hx349_1, hx349_2⟩ := at_T51 HR0.out x4_1 p349 q349
                                      obtain rfl : ad343 = ad349 := (by injection e349)
                                      replace hx349_0 := (HB.out.cell (World.block_lt_of_cell? w _ hx349_0)).trans hx349_0
                                      replace hx349_1 := (HB.out.cell (World.block_lt_of_cell? w _ hx349_1)).trans hx349_1
                                      replace hx349_2 := (HB.out.cell (World.block_lt_of_cell? w _ hx349_2)).trans hx349_2
                                      replace p349 := eq_true p349
                                      replace q349 := eq_true q349
                                      go_wp2_with (first | ((with_reducible refine gate_callee (f := 63) rfl ?_); refine goesL_ (some 58) rfl rfl Tryd.func63 (by kernel_rfl) rfl #[.int .i64 ((rd_T51 l0 x4_1).f0)] rfl (by (try simp only [List.map_toArray, List.map_cons, List.map_nil]); first | done | rfl | (simp only [List.length_drop, List.length_take]; rfl)) ?_; (with_reducible refine (hourglassref22_Numbers.calls ((rd_T51 l0 x4_1).f0) t350 _ A24.out).mono ?_); rintro e w' ⟨rfl, ⟨nd, rfl⟩⟩; refine ⟨_, rfl, ?_⟩; have p351 : 0 ≤ (x4_1 : Int) := of_decide_eq_true (by first | (with_reducible assumption) | assumption); have q351 : x4_1 < (l0.length : Int) := of_decide_eq_true (by first | (with_reducible assumption) | assumption); obtain ⟨ad351, e351, hx351_0, hx351_1, hx351_2⟩ := at_T51 HR0.out x4_1 p351 q351; obtain rfl : ad343 = ad351 := (by injection e351); replace hx351_0 := (HB.out.cell (World.block_lt_of_cell? w _ hx351_0)).trans hx351_0; replace hx351_1 := (HB.out.cell (World.block_lt_of_cell? w _ hx351_1)).trans hx351_1; replace hx351_2 := (HB.out.cell (World.block_lt_of_cell? w _ hx351_2)).trans hx351_2; replace p351 := eq_true p351; replace q351 := eq_true q351) | ((with_reducible refine gate_callee (f := 53) rfl ?_); refine goesL_ (some 67) rfl rfl Tryd.func53 (by kernel_rfl) rfl #[.int .i64 ((rd_T51 l0 x4_1).f2)] rfl (by (try simp only [List.map_toArray, List.map_cons, List.map_nil]); first | done | rfl | (simp only [List.length_drop, List.length_take]; rfl)) ?_; (with_reducible refine (hourglassref06_Digits.calls ((rd_T51 l0 x4_1).f2) t352 _ A27.out).mono ?_); rintro e w29 ⟨rfl, hb⟩; refine ⟨_, rfl, ?_⟩; have n0_ := Aside0.mk (below_step (by repeat (first | (with_reducible first | exact HB.out | apply below_alloc | apply pw_below_drewN | apply below_drew1) | exact HB.out)) hb); clear HB; have HB := n0_; clear n0_; (try clear hb); (try clear hb2); (try clear hk); (try clear hi)))
                                      go_roundg kj14
                                      case measure => have := HK1.out; have := HJ2.out; have := HJ6.out; have := HJ14.out; omega
                                      case rel => exact ⟨((x3_14 ++ (⟨#[32]⟩ : ByteArray)) ++ t352), (wrap64 (x4_1 + 1)), (by first | rfl | (simp; done) | (simp [*]; done)), (by first | rfl | (simp; done) | (simp [*]; done)), H', ⟨by have := HK1.out; have := HJ2.out; have := HJ6.out; have := HJ14.out; omega⟩, ⟨by repeat (first | (with_reducible first | exact HB.out | apply below_alloc | apply pw_below_drewN | apply below_drew1) | exact HB.out)⟩⟩
                                    · rw [if_neg c28] at H
                                      exact absurd H (by simp)
                                  · rw [if_neg c26] at H
                                    exact absurd H (by simp)
                                · rw [if_neg c25] at H
                                  have c25b0 : (t350 == 2) = false := beq_eq_false_iff_ne.mpr c25
                                  have c25b1 : (t350 != 2) = true := bne_iff_ne.mpr c25
                                  have H' := Aside0.mk H
                                  clear H
                                  have p349 : 0 ≤ (x4_1 : Int) := of_decide_eq_true (by first | (with_reducible assumption) | assumption)
                                  have q349 : x4_1 < (l0.length : Int) := of_decide_eq_true (by first | (with_reducible assumption) | assumption)
                                  obtain ⟨ad349, e349, hx349_0, hx349_1, hx349_2⟩ := at_T51 HR0.out x4_1 p349 q349
                                  obtain rfl : ad343 = ad349 := (by injection e349)
                                  replace hx349_0 := (HB.out.cell (World.block_lt_of_cell? w _ hx349_0)).trans hx349_0
                                  replace hx349_1 := (HB.out.cell (World.block_lt_of_cell? w _ hx349_1)).trans hx349_1
                                  replace hx349_2 := (HB.out.cell (World.block_lt_of_cell? w _ hx349_2)).trans hx349_2
                                  replace p349 := eq_true p349
                                  replace q349 := eq_true q349
                                  go_wp2_with (first | ((with_reducible refine gate_callee (f := 63) rfl ?_); refine goesL_ (some 58) rfl rfl Tryd.func63 (by kernel_rfl) rfl #[.int .i64 ((rd_T51 l0 x4_1).f0)] rfl (by (try simp only [List.map_toArray, List.map_cons, List.map_nil]); first | done | rfl | (simp only [List.length_drop, List.length_take]; rfl)) ?_; (with_reducible refine (hourglassref22_Numbers.calls ((rd_T51 l0 x4_1).f0) t350 _ A24.out).mono ?_); rintro e w' ⟨rfl, ⟨nd, rfl⟩⟩; refine ⟨_, rfl, ?_⟩))
                                  go_roundg kj14
                                  case measure => have := HK1.out; have := HJ2.out; have := HJ6.out; have := HJ14.out; omega
                                  case rel => exact ⟨(x3_14), (wrap64 (x4_1 + 1)), (by first | rfl | (simp; done) | (simp [*]; done)), (by first | rfl | (simp; done) | (simp [*]; done)), H', ⟨by have := HK1.out; have := HJ2.out; have := HJ6.out; have := HJ14.out; omega⟩, ⟨by repeat (first | (with_reducible first | exact HB.out | apply below_alloc | apply pw_below_drewN | apply below_drew1) | exact HB.out)⟩⟩
                              · rw [if_neg c23] at H
                                exact absurd H (by simp)
                            · rw [if_neg c22] at H
                              exact absurd H (by simp)
                      · rw [if_neg c13] at H
                        exact absurd H (by simp)
                    · rw [if_neg c11] at H
                      exact absurd H (by simp)
                  · rw [if_neg c10] at H
                    exact absurd H (by simp)
      · rw [if_neg c2] at H
        have c2b0 : decide (x4_1 < (l0.length : Int)) = false := decide_eq_false c2
        clear c2
        obtain rfl := Option.some.inj H
        go_wp2
        go_ret
        exact ⟨by first | rfl | (simp [errW_none, errW_some] <;> rfl) | (simp [*, errW_none, errW_some] <;> rfl), by repeat (first | (with_reducible first | exact HB.out | apply below_alloc | apply pw_below_drewN | apply below_drew1) | exact HB.out)⟩

end Go.Proofs.YthfjjdkaplibmaaDoor.Pr
