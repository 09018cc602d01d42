/- My texts Pr4, Pr6, Dig, Names, Hand1, put together by wip/pack.py. -/
import Derived.Test.YthfjjdkaplibmaaDoorGB
import Derived.Outline
import Derived.Lib.AppendIntMem
import Derived.Lib.Hide
import Derived.OwnWalk

-- Written by wip/pr.py over the translation. Lean checks it.
namespace Go.Proofs.YthfjjdkaplibmaaDoor.Pr
open Go.RowKit Go.Proofs.YthfjjdkaplibmaaDoorW.PrintWords Go.Proofs.YthfjjdkaplibmaaDoorW.PrintLast Go.Proofs.YthfjjdkaplibmaaDoorW.PrintMore
attribute [local go_sem] max2_int min2_int max_two min_two max_three min_three max_four min_four   -- for this text's walks alone
set_option linter.unusedVariables false
set_option linter.unusedSimpArgs false

/-! ### script_has: function 48 -/
def script_has.j0 : Nat → Int → Bool → Option (Int)
  | 0, _, _ => none
  | k + 1, x3, x4 => if x4 = true then (some 2) else (if x3 = 8 then (some 3) else (if x3 = 9 then (some 4) else (some 1)))
def script_has.f (k : Nat) (a0 : Int) : Option (Int) := if a0 = 2 then (script_has.j0 k a0 (a0 == 2)) else (if a0 = 4 then (script_has.j0 k a0 (a0 == 4)) else (script_has.j0 k a0 (a0 == 10)))
theorem script_has.mono_l : ∀ k, (∀ y0 y1, LeO (script_has.j0 k y0 y1) (script_has.j0 (k + 1) y0 y1))
  | 0 => fun _ _ r h => by simp [script_has.j0] at h
  | k + 1 => by
    have ih0 := script_has.mono_l k
    · intro y0 y1
      unfold script_has.j0
      repeat' first
      | (with_reducible exact ih0 _ _)
      | (with_reducible exact LeO.refl _)
      | (with_reducible exact LeO.none _)
      | (with_reducible refine LeO.ite ?_ ?_)
      | (with_reducible refine LeO.bind ?_ (fun _ => ?_))
      | exact ih0 _ _
      | exact LeO.none _
      | refine LeO.ite ?_ ?_
      | refine LeO.bind ?_ (fun _ => ?_)
theorem script_has.mono : ∀ a0 k, LeO (script_has.f k a0) (script_has.f (k + 1) a0) := by
  intro a0 k
  have ih0 := script_has.mono_l k
  unfold script_has.f
  repeat' first
      | (with_reducible exact ih0 _ _)
      | (with_reducible exact LeO.refl _)
      | (with_reducible exact LeO.none _)
      | (with_reducible refine LeO.ite ?_ ?_)
      | (with_reducible refine LeO.bind ?_ (fun _ => ?_))
      | exact ih0 _ _
      | exact LeO.none _
      | refine LeO.ite ?_ ?_
      | refine LeO.bind ?_ (fun _ => ?_)
set_option maxHeartbeats 8000000 in
set_option maxRecDepth 100000 in
theorem script_has.calls (k : Nat) (a0 : Int) (r : Int) (w : World) (h : script_has.f k a0 = some r) :
    Calls Tryd.prog 48 #[.int .i64 a0] w fun e w' => e = .returned (.int .i64 r) ∧ Drawn0 w w' := by
  have H : (if a0 = 2 then (script_has.j0 k a0 (a0 == 2)) else (if a0 = 4 then (script_has.j0 k a0 (a0 == 4)) else (script_has.j0 k a0 (a0 == 10)))) = some r := h
  clear h
  have HC2 := Aside0.mk H
  clear H
  go_enter Tryd.func48, Tryd.ntmps48
  go_upto_if 4 with (fail)
  go_cut [4] (fun v4 wc => ∃ (kq : Nat) (x4_1 : Bool), v4 = .bool x4_1 ∧ Aside0 (script_has.j0 kq a0 x4_1 = some r) ∧ Aside0 (kq ≤ k) ∧ Drawn0 w wc)
  case first =>
    have H := HC2.out
    clear HC2
    by_cases c3 : a0 = 2
    · rw [if_pos c3] at H
      have c3b0 : (a0 == 2) = true := beq_iff_eq.mpr c3
      have c3b1 : (a0 != 2) = false := bne_eq_false_iff_eq.mpr c3
      clear c3
      (first | rw [c3b0] | (simp only [i64_w, i32_w]; rw [c3b0]) | skip)
      have H' := Aside0.mk H
      clear H
      go_wp2
      go_meet
      case rel => exact ⟨_, ((a0 == 2)), (by first | rfl | (simp; done) | (simp [*]; done)), H', ⟨by first | omega | exact Nat.le_refl _⟩, by repeat (first | exact Drawn0.refl _ | apply Drawn0.step)⟩
    · rw [if_neg c3] at H
      have c3b0 : (a0 == 2) = false := beq_eq_false_iff_ne.mpr c3
      have c3b1 : (a0 != 2) = true := bne_iff_ne.mpr c3
      (first | rw [c3b0] | (simp only [i64_w, i32_w]; rw [c3b0]) | skip)
      by_cases c4 : a0 = 4
      · rw [if_pos c4] at H
        have c4b0 : (a0 == 4) = true := beq_iff_eq.mpr c4
        have c4b1 : (a0 != 4) = false := bne_eq_false_iff_eq.mpr c4
        clear c4
        have H' := Aside0.mk H
        clear H
        go_wp2
        go_meet
        case rel => exact ⟨_, ((a0 == 4)), (by first | rfl | (simp; done) | (simp [*]; done)), H', ⟨by first | omega | exact Nat.le_refl _⟩, by repeat (first | exact Drawn0.refl _ | apply Drawn0.step)⟩
      · rw [if_neg c4] at H
        have c4b0 : (a0 == 4) = false := beq_eq_false_iff_ne.mpr c4
        have c4b1 : (a0 != 4) = true := bne_iff_ne.mpr c4
        have H' := Aside0.mk H
        clear H
        go_wp2
        go_meet
        case rel => exact ⟨_, ((a0 == 10)), (by first | rfl | (simp; done) | (simp [*]; done)), H', ⟨by first | omega | exact Nat.le_refl _⟩, by repeat (first | exact Drawn0.refl _ | apply Drawn0.step)⟩
  case rest =>
    clear HC2
    try clear p2
    try clear c3
    try clear c3b0
    try clear c3b1
    try clear c4
    try clear c4b0
    try clear c4b1
    obtain ⟨kq, x4_1, rfl, HA, HJ1, ⟨mc1, rfl⟩⟩ := hcut
    cases kq with
    | zero => exact absurd HA.out (by simp [script_has.j0])
    | succ kj1 =>
      have H := HA.out
      clear HA
      simp only [script_has.j0] at H
      by_cases c5 : x4_1 = true
      · subst c5
        have H1 : (some 2) = some r := by rw [if_pos rfl] at H; exact H
        clear H
        have H := H1
        clear H1
        obtain rfl := Option.some.inj H
        go_wp2
        go_ret
        exact ⟨by first | rfl | (simp; done) | (simp [*]; done), by repeat (first | exact Drawn0.refl _ | apply Drawn0.step)⟩
      · replace c5 := Bool.eq_false_iff.mpr c5
        subst c5
        have H1 : (if a0 = 8 then (some 3) else (if a0 = 9 then (some 4) else (some 1))) = some r := by rw [if_neg (show ¬ (false = true) by decide)] at H; exact H
        clear H
        have H := H1
        clear H1
        by_cases c6 : a0 = 8
        · rw [if_pos c6] at H
          have c6b0 : (a0 == 8) = true := beq_iff_eq.mpr c6
          have c6b1 : (a0 != 8) = false := bne_eq_false_iff_eq.mpr c6
          clear c6
          obtain rfl := Option.some.inj H
          go_wp2
          go_ret
          exact ⟨by first | rfl | (simp; done) | (simp [*]; done), by repeat (first | exact Drawn0.refl _ | apply Drawn0.step)⟩
        · rw [if_neg c6] at H
          have c6b0 : (a0 == 8) = false := beq_eq_false_iff_ne.mpr c6
          have c6b1 : (a0 != 8) = true := bne_iff_ne.mpr c6
          by_cases c7 : a0 = 9
          · rw [if_pos c7] at H
            have c7b0 : (a0 == 9) = true := beq_iff_eq.mpr c7
            have c7b1 : (a0 != 9) = false := bne_eq_false_iff_eq.mpr c7
            clear c7
            obtain rfl := Option.some.inj H
            go_wp2
            go_ret
            exact ⟨by first | rfl | (simp; done) | (simp [*]; done), by repeat (first | exact Drawn0.refl _ | apply Drawn0.step)⟩
          · rw [if_neg c7] at H
            have c7b0 : (a0 == 9) = false := beq_eq_false_iff_ne.mpr c7
            have c7b1 : (a0 != 9) = true := bne_iff_ne.mpr c7
            obtain rfl := Option.some.inj H
            go_wp2
            go_ret
            exact ⟨by first | rfl | (simp; done) | (simp [*]; done), by repeat (first | exact Drawn0.refl _ | apply Drawn0.step)⟩

/-! ### script_words: function 41 -/
def script_words.f  : Option (List ByteArray) := some (([(⟨#[]⟩ : ByteArray), (⟨#[116, 105, 99, 107]⟩ : ByteArray), (⟨#[115, 104, 105, 102, 116]⟩ : ByteArray), (⟨#[116, 105, 109, 101, 114]⟩ : ByteArray), (⟨#[114, 117, 110]⟩ : ByteArray), (⟨#[100, 101, 108, 105, 118, 101, 114]⟩ : ByteArray), (⟨#[100, 114, 111, 112]⟩ : ByteArray), (⟨#[116, 119, 105, 99, 101]⟩ : ByteArray), (⟨#[104, 117, 114, 116]⟩ : ByteArray), (⟨#[105, 115, 115, 117, 101]⟩ : ByteArray), (⟨#[99, 97, 110, 99, 101, 108]⟩ : ByteArray), (⟨#[99, 114, 97, 115, 104]⟩ : ByteArray)] : List ByteArray))
set_option maxHeartbeats 8000000 in
set_option maxRecDepth 100000 in
theorem script_words.calls  (r : List ByteArray) (w : World) (h : script_words.f  = some r) :
    Calls Tryd.prog 41 #[] w fun e w' => ∃ v0_ : Value, e = .returned (v0_) ∧ Kd.R Kd.string 9 w' w.heap.size (fun _ => True) v0_ r ∧ Below w.heap.size w w' := by
  have HB := Aside0.mk (Below.refl w.heap.size w)
  have H : (some (([(⟨#[]⟩ : ByteArray), (⟨#[116, 105, 99, 107]⟩ : ByteArray), (⟨#[115, 104, 105, 102, 116]⟩ : ByteArray), (⟨#[116, 105, 109, 101, 114]⟩ : ByteArray), (⟨#[114, 117, 110]⟩ : ByteArray), (⟨#[100, 101, 108, 105, 118, 101, 114]⟩ : ByteArray), (⟨#[100, 114, 111, 112]⟩ : ByteArray), (⟨#[116, 119, 105, 99, 101]⟩ : ByteArray), (⟨#[104, 117, 114, 116]⟩ : ByteArray), (⟨#[105, 115, 115, 117, 101]⟩ : ByteArray), (⟨#[99, 97, 110, 99, 101, 108]⟩ : ByteArray), (⟨#[99, 114, 97, 115, 104]⟩ : ByteArray)] : List ByteArray))) = some r := h
  clear h
  obtain ⟨y101, hy101⟩ : ∃ y_ : List ByteArray, y_ = (([(⟨#[]⟩ : ByteArray), (⟨#[116, 105, 99, 107]⟩ : ByteArray), (⟨#[115, 104, 105, 102, 116]⟩ : ByteArray), (⟨#[116, 105, 109, 101, 114]⟩ : ByteArray), (⟨#[114, 117, 110]⟩ : ByteArray), (⟨#[100, 101, 108, 105, 118, 101, 114]⟩ : ByteArray), (⟨#[100, 114, 111, 112]⟩ : ByteArray), (⟨#[116, 119, 105, 99, 101]⟩ : ByteArray), (⟨#[104, 117, 114, 116]⟩ : ByteArray), (⟨#[105, 115, 115, 117, 101]⟩ : ByteArray), (⟨#[99, 97, 110, 99, 101, 108]⟩ : ByteArray), (⟨#[99, 114, 97, 115, 104]⟩ : ByteArray)] : List ByteArray)) := ⟨_, rfl⟩
  replace H : (some y101) = some r := by first | (rw [hy101]; with_reducible exact H) | (have H2_ := (Option.bind_some _ _).symm.trans H; rw [hy101]; with_reducible exact H2_) | (have H2_ := (Option.bind_some _ _).symm.trans H; with_reducible exact H2_) | with_reducible exact H | (rw [hy101]; exact H) | exact H
  have Ny101 := Aside0.mk hy101
  clear hy101
  obtain rfl := Option.some.inj H
  go_enter Tryd.func41, Tryd.ntmps41
  go_wp2_with (first | ((with_reducible refine gate_dst (N := 1) rfl ?_); refine Kd.R_lit Kd.string _ 9 ?hg (N := 1) ?hd (xs := ([(⟨#[]⟩ : ByteArray), (⟨#[116, 105, 99, 107]⟩ : ByteArray), (⟨#[115, 104, 105, 102, 116]⟩ : ByteArray), (⟨#[116, 105, 109, 101, 114]⟩ : ByteArray), (⟨#[114, 117, 110]⟩ : ByteArray), (⟨#[100, 101, 108, 105, 118, 101, 114]⟩ : ByteArray), (⟨#[100, 114, 111, 112]⟩ : ByteArray), (⟨#[116, 119, 105, 99, 101]⟩ : ByteArray), (⟨#[104, 117, 114, 116]⟩ : ByteArray), (⟨#[105, 115, 115, 117, 101]⟩ : ByteArray), (⟨#[99, 97, 110, 99, 101, 108]⟩ : ByteArray), (⟨#[99, 114, 97, 115, 104]⟩ : ByteArray)] : List ByteArray)) (inner := [.string (⟨#[]⟩ : ByteArray), .string (⟨#[116, 105, 99, 107]⟩ : ByteArray), .string (⟨#[115, 104, 105, 102, 116]⟩ : ByteArray), .string (⟨#[116, 105, 109, 101, 114]⟩ : ByteArray), .string (⟨#[114, 117, 110]⟩ : ByteArray), .string (⟨#[100, 101, 108, 105, 118, 101, 114]⟩ : ByteArray), .string (⟨#[100, 114, 111, 112]⟩ : ByteArray), .string (⟨#[116, 119, 105, 99, 101]⟩ : ByteArray), .string (⟨#[104, 117, 114, 116]⟩ : ByteArray), .string (⟨#[105, 115, 115, 117, 101]⟩ : ByteArray), .string (⟨#[99, 97, 110, 99, 101, 108]⟩ : ByteArray), .string (⟨#[99, 114, 97, 115, 104]⟩ : ByteArray)]) (ok := fun _ => True) (okp := fun _ => True) ?hr ?hp (fun _ hk => hk) trivial (Below.refl _ _) (Nat.le_refl _) (by simp) ?_; (case hd => rfl); (case hg => rfl); (case hr => first | (go_simp; done) | (go_simp; rfl)); (case hp => exact (Reps.one (show Kd.M Kd.string _ _ _ (⟨#[]⟩ : ByteArray) [.string (⟨#[]⟩ : ByteArray)] from rfl) (Reps.one (show Kd.M Kd.string _ _ _ (⟨#[116, 105, 99, 107]⟩ : ByteArray) [.string (⟨#[116, 105, 99, 107]⟩ : ByteArray)] from rfl) (Reps.one (show Kd.M Kd.string _ _ _ (⟨#[115, 104, 105, 102, 116]⟩ : ByteArray) [.string (⟨#[115, 104, 105, 102, 116]⟩ : ByteArray)] from rfl) (Reps.one (show Kd.M Kd.string _ _ _ (⟨#[116, 105, 109, 101, 114]⟩ : ByteArray) [.string (⟨#[116, 105, 109, 101, 114]⟩ : ByteArray)] from rfl) (Reps.one (show Kd.M Kd.string _ _ _ (⟨#[114, 117, 110]⟩ : ByteArray) [.string (⟨#[114, 117, 110]⟩ : ByteArray)] from rfl) (Reps.one (show Kd.M Kd.string _ _ _ (⟨#[100, 101, 108, 105, 118, 101, 114]⟩ : ByteArray) [.string (⟨#[100, 101, 108, 105, 118, 101, 114]⟩ : ByteArray)] from rfl) (Reps.one (show Kd.M Kd.string _ _ _ (⟨#[100, 114, 111, 112]⟩ : ByteArray) [.string (⟨#[100, 114, 111, 112]⟩ : ByteArray)] from rfl) (Reps.one (show Kd.M Kd.string _ _ _ (⟨#[116, 119, 105, 99, 101]⟩ : ByteArray) [.string (⟨#[116, 119, 105, 99, 101]⟩ : ByteArray)] from rfl) (Reps.one (show Kd.M Kd.string _ _ _ (⟨#[104, 117, 114, 116]⟩ : ByteArray) [.string (⟨#[104, 117, 114, 116]⟩ : ByteArray)] from rfl) (Reps.one (show Kd.M Kd.string _ _ _ (⟨#[105, 115, 115, 117, 101]⟩ : ByteArray) [.string (⟨#[105, 115, 115, 117, 101]⟩ : ByteArray)] from rfl) (Reps.one (show Kd.M Kd.string _ _ _ (⟨#[99, 97, 110, 99, 101, 108]⟩ : ByteArray) [.string (⟨#[99, 97, 110, 99, 101, 108]⟩ : ByteArray)] from rfl) (Reps.one (show Kd.M Kd.string _ _ _ (⟨#[99, 114, 97, 115, 104]⟩ : ByteArray) [.string (⟨#[99, 114, 97, 115, 104]⟩ : ByteArray)] from rfl) (Reps.none _ _)))))))))))))); intro v102 w1 ho2 hb hg_ hnew_; clear hg_ hnew_; (first | rw [← Ny101.out] at ho2 | (simp only [Int.reduceToNat] at ho2; rw [← Ny101.out] at ho2)); have n0_ := Aside0.mk (Kd.R_lower ho2 (below_size (by repeat (first | (with_reducible first | exact HB.out | apply below_alloc | apply pw_below_drewN | apply below_drew1) | exact HB.out)))); have n1_ := Aside0.mk (below_step (by repeat (first | (with_reducible first | exact HB.out | apply below_alloc | apply pw_below_drewN | apply below_drew1) | exact HB.out)) hb); clear HB; have HO103 := n0_; have HB := n1_; clear n0_ n1_; clear hb ho2))
  go_ret
  exact ⟨_, by first | rfl | (simp [errW_none, errW_some] <;> rfl) | (simp [*, errW_none, errW_some] <;> rfl), by (with_reducible repeat (first | apply Kd.R_alloc | apply Kd.R_drewN | apply Kd.R_drew)); exact HO103.out, by repeat (first | (with_reducible first | exact HB.out | apply below_alloc | apply pw_below_drewN | apply below_drew1) | exact HB.out)⟩

/-! ### script_is: function 47 -/
def script_is.f (a0 : Int) : Option (Bool) := if a0 ≥ 1 then (some (decide (a0 ≤ 11))) else (some false)
set_option maxHeartbeats 8000000 in
set_option maxRecDepth 100000 in
theorem script_is.calls (a0 : Int) (r : Bool) (w : World) (h : script_is.f a0 = some r) :
    Calls Tryd.prog 47 #[.int .i64 a0] w fun e w' => e = .returned (.bool r) ∧ Drawn0 w w' := by
  have H : (if a0 ≥ 1 then (some (decide (a0 ≤ 11))) else (some false)) = some r := h
  clear h
  by_cases c2 : a0 ≥ 1
  · rw [if_pos c2] at H
    have c2b0 : decide (1 ≤ a0) = true := decide_eq_true c2
    clear c2
    obtain rfl := Option.some.inj H
    go_enter Tryd.func47, Tryd.ntmps47
    go_wp2
    go_ret
    exact ⟨by first | rfl | (simp; done) | (simp [*]; done), by repeat (first | exact Drawn0.refl _ | apply Drawn0.step)⟩
  · rw [if_neg c2] at H
    have c2b0 : decide (1 ≤ a0) = false := decide_eq_false c2
    clear c2
    obtain rfl := Option.some.inj H
    go_enter Tryd.func47, Tryd.ntmps47
    go_wp2
    go_ret
    exact ⟨by first | rfl | (simp; done) | (simp [*]; done), by repeat (first | exact Drawn0.refl _ | apply Drawn0.step)⟩


/-! ### slices_Index_string_string: function 40 -/
def slices_Index_string_string.l0 : Nat → List ByteArray → ByteArray → Int → Int → Option (Int)
  | 0, _, _, _, _ => none
  | k + 1, x0, x1, x7, x8 => if x8 < x7 then (if 0 ≤ x8 then (if x8 < (x0.length : Int) then (if x1.toList = (rdOf ByteArray.empty x0 x8).toList then (some x8) else (slices_Index_string_string.l0 k x0 x1 x7 (wrap64 (x8 + 1)))) else (none)) else (none)) else (some (-1))
def slices_Index_string_string.f (k : Nat) (l0 : List ByteArray) (a1 : ByteArray) : Option (Int) := slices_Index_string_string.l0 k l0 a1 (l0.length : Int) 0
theorem slices_Index_string_string.mono_l : ∀ k, (∀ y0 y1 y2 y3, LeO (slices_Index_string_string.l0 k y0 y1 y2 y3) (slices_Index_string_string.l0 (k + 1) y0 y1 y2 y3))
  | 0 => fun _ _ _ _ r h => by simp [slices_Index_string_string.l0] at h
  | k + 1 => by
    have ih0 := slices_Index_string_string.mono_l k
    · intro y0 y1 y2 y3
      unfold slices_Index_string_string.l0
      repeat' first
      | (with_reducible exact ih0 _ _ _ _)
      | (with_reducible exact LeO.refl _)
      | (with_reducible exact LeO.none _)
      | (with_reducible refine LeO.ite ?_ ?_)
      | (with_reducible refine LeO.bind ?_ (fun _ => ?_))
      | exact ih0 _ _ _ _
      | exact LeO.none _
      | refine LeO.ite ?_ ?_
      | refine LeO.bind ?_ (fun _ => ?_)
theorem slices_Index_string_string.mono : ∀ a0 a1 k, LeO (slices_Index_string_string.f k a0 a1) (slices_Index_string_string.f (k + 1) a0 a1) := by
  intro a0 a1 k
  have ih0 := slices_Index_string_string.mono_l k
  unfold slices_Index_string_string.f
  repeat' first
      | (with_reducible exact ih0 _ _ _ _)
      | (with_reducible exact LeO.refl _)
      | (with_reducible exact LeO.none _)
      | (with_reducible refine LeO.ite ?_ ?_)
      | (with_reducible refine LeO.bind ?_ (fun _ => ?_))
      | exact ih0 _ _ _ _
      | exact LeO.none _
      | refine LeO.ite ?_ ?_
      | refine LeO.bind ?_ (fun _ => ?_)
set_option maxHeartbeats 8000000 in
set_option maxRecDepth 100000 in
theorem slices_Index_string_string.calls (k : Nat) (A0 : Option Addr) (c0 : Nat) (l0 : List ByteArray) (a1 : ByteArray) (r : Int) (w : World) (hr0 : Kd.C Kd.string w A0 l0.length l0) (hc0 : l0.length ≤ c0) (h : slices_Index_string_string.f k l0 a1 = some r) :
    Calls Tryd.prog 40 #[.slice A0 l0.length c0, .string a1] w fun e w' => e = .returned (.int .i64 r) ∧ Drawn0 w w' := by
  have HR0 := Aside0.mk hr0
  have HC0 := Aside0.mk hc0
  clear hr0 hc0
  have H : (slices_Index_string_string.l0 k l0 a1 (l0.length : Int) 0) = some r := h
  clear h
  have H' := Aside0.mk H
  clear H
  go_enter Tryd.func40, Tryd.ntmps40
  go_wp2
  go_loopg [8] k (fun kq v8 w' => ∃ (x8_1 : Int), v8 = .int .i64 x8_1 ∧ Aside0 (slices_Index_string_string.l0 kq l0 a1 (l0.length : Int) x8_1 = some r) ∧ Aside0 (kq ≤ k) ∧ Drawn0 w w')
  case atStart => exact ⟨(0), (by first | rfl | (simp; done) | (simp [*]; done)), H', ⟨Nat.le_refl _⟩, by repeat (first | exact Drawn0.refl _ | apply Drawn0.step)⟩
  case round =>
    clear H'
    try clear p2
    obtain ⟨x8_1, rfl, HA, HK1, ⟨m1, rfl⟩⟩ := hrel
    cases gk with
    | zero => exact absurd HA.out (by simp [slices_Index_string_string.l0])
    | succ k1 =>
      have H := HA.out
      clear HA
      simp only [slices_Index_string_string.l0] at H
      by_cases c3 : x8_1 < (l0.length : Int)
      · rw [if_pos c3] at H
        have c3b0 : decide (x8_1 < (l0.length : Int)) = true := decide_eq_true c3
        clear c3
        by_cases c4 : 0 ≤ x8_1
        · rw [if_pos c4] at H
          have c4b0 : decide (0 ≤ x8_1) = true := decide_eq_true c4
          clear c4
          by_cases c5 : x8_1 < (l0.length : Int)
          · rw [if_pos c5] at H
            have c5b0 : decide (x8_1 < (l0.length : Int)) = true := decide_eq_true c5
            clear c5
            by_cases c6 : a1.toList = (rdOf ByteArray.empty l0 x8_1).toList
            · rw [if_pos c6] at H
              have c6b0 : (a1.toList == (rdOf ByteArray.empty l0 x8_1).toList) = true := beq_iff_eq.mpr c6
              have c6b1 : (a1.toList != (rdOf ByteArray.empty l0 x8_1).toList) = false := bne_eq_false_iff_eq.mpr c6
              clear c6
              obtain rfl := Option.some.inj H
              have p104 : 0 ≤ (x8_1 : Int) := of_decide_eq_true (by first | (with_reducible assumption) | assumption)
              have q104 : x8_1 < (l0.length : Int) := of_decide_eq_true (by first | (with_reducible assumption) | assumption)
              obtain ⟨ad104, e104, hx104_0⟩ := Kd.at_string HR0.out x8_1 p104 q104
              cases e104
              replace p104 := eq_true p104
              replace q104 := eq_true q104
              go_wp2
              go_ret
              exact ⟨by first | rfl | (simp; done) | (simp [*]; done), by repeat (first | exact Drawn0.refl _ | apply Drawn0.step)⟩
            · rw [if_neg c6] at H
              have c6b0 : (a1.toList == (rdOf ByteArray.empty l0 x8_1).toList) = false := beq_eq_false_iff_ne.mpr c6
              have c6b1 : (a1.toList != (rdOf ByteArray.empty l0 x8_1).toList) = true := bne_iff_ne.mpr c6
              have H' := Aside0.mk H
              clear H
              have p104 : 0 ≤ (x8_1 : Int) := of_decide_eq_true (by first | (with_reducible assumption) | assumption)
              have q104 : x8_1 < (l0.length : Int) := of_decide_eq_true (by first | (with_reducible assumption) | assumption)
              obtain ⟨ad104, e104, hx104_0⟩ := Kd.at_string HR0.out x8_1 p104 q104
              cases e104
              replace p104 := eq_true p104
              replace q104 := eq_true q104
              go_wp2
              go_roundg k1
              case measure => have := HK1.out; omega
              case rel => exact ⟨(wrap64 (x8_1 + 1)), (by first | rfl | (simp; done) | (simp [*]; done)), H', ⟨by have := HK1.out; omega⟩, by repeat (first | exact Drawn0.refl _ | apply Drawn0.step)⟩
          · rw [if_neg c5] at H
            exact absurd H (by simp)
        · rw [if_neg c4] at H
          exact absurd H (by simp)
      · rw [if_neg c3] at H
        have c3b0 : decide (x8_1 < (l0.length : Int)) = false := decide_eq_false c3
        clear c3
        obtain rfl := Option.some.inj H
        go_wp2
        go_ret
        exact ⟨by first | rfl | (simp; done) | (simp [*]; done), by repeat (first | exact Drawn0.refl _ | apply Drawn0.step)⟩

/-! ### program_counts: function 56 -/
def program_counts.j0 : Nat → Int → Bool → Option (Int)
  | 0, _, _ => none
  | k + 1, x3, x4 => if x4 = true then (some 1) else (if x3 = 2 then (some 2) else (some 0))
def program_counts.f (k : Nat) (a0 : Int) : Option (Int) := if a0 = 1 then (program_counts.j0 k a0 (a0 == 1)) else (if a0 = 5 then (program_counts.j0 k a0 (a0 == 5)) else (if a0 = 6 then (program_counts.j0 k a0 (a0 == 6)) else (program_counts.j0 k a0 (a0 == 7))))
theorem program_counts.mono_l : ∀ k, (∀ y0 y1, LeO (program_counts.j0 k y0 y1) (program_counts.j0 (k + 1) y0 y1))
  | 0 => fun _ _ r h => by simp [program_counts.j0] at h
  | k + 1 => by
    have ih0 := program_counts.mono_l k
    · intro y0 y1
      unfold program_counts.j0
      repeat' first
      | (with_reducible exact ih0 _ _)
      | (with_reducible exact LeO.refl _)
      | (with_reducible exact LeO.none _)
      | (with_reducible refine LeO.ite ?_ ?_)
      | (with_reducible refine LeO.bind ?_ (fun _ => ?_))
      | exact ih0 _ _
      | exact LeO.none _
      | refine LeO.ite ?_ ?_
      | refine LeO.bind ?_ (fun _ => ?_)
theorem program_counts.mono : ∀ a0 k, LeO (program_counts.f k a0) (program_counts.f (k + 1) a0) := by
  intro a0 k
  have ih0 := program_counts.mono_l k
  unfold program_counts.f
  repeat' first
      | (with_reducible exact ih0 _ _)
      | (with_reducible exact LeO.refl _)
      | (with_reducible exact LeO.none _)
      | (with_reducible refine LeO.ite ?_ ?_)
      | (with_reducible refine LeO.bind ?_ (fun _ => ?_))
      | exact ih0 _ _
      | exact LeO.none _
      | refine LeO.ite ?_ ?_
      | refine LeO.bind ?_ (fun _ => ?_)
set_option maxHeartbeats 8000000 in
set_option maxRecDepth 100000 in
theorem program_counts.calls (k : Nat) (a0 : Int) (r : Int) (w : World) (h : program_counts.f k a0 = some r) :
    Calls Tryd.prog 56 #[.int .i64 a0] w fun e w' => e = .returned (.int .i64 r) ∧ Drawn0 w w' := by
  have H : (if a0 = 1 then (program_counts.j0 k a0 (a0 == 1)) else (if a0 = 5 then (program_counts.j0 k a0 (a0 == 5)) else (if a0 = 6 then (program_counts.j0 k a0 (a0 == 6)) else (program_counts.j0 k a0 (a0 == 7))))) = some r := h
  clear h
  have HC2 := Aside0.mk H
  clear H
  go_enter Tryd.func56, Tryd.ntmps56
  go_upto_if 4 with (fail)
  go_cut [4] (fun v4 wc => ∃ (kq : Nat) (x4_1 : Bool), v4 = .bool x4_1 ∧ Aside0 (program_counts.j0 kq a0 x4_1 = some r) ∧ Aside0 (kq ≤ k) ∧ Drawn0 w wc)
  case first =>
    have H := HC2.out
    clear HC2
    by_cases c3 : a0 = 1
    · rw [if_pos c3] at H
      have c3b0 : (a0 == 1) = true := beq_iff_eq.mpr c3
      have c3b1 : (a0 != 1) = false := bne_eq_false_iff_eq.mpr c3
      clear c3
      (first | rw [c3b0] | (simp only [i64_w, i32_w]; rw [c3b0]) | skip)
      have H' := Aside0.mk H
      clear H
      go_wp2
      go_meet
      case rel => exact ⟨_, ((a0 == 1)), (by first | rfl | (simp; done) | (simp [*]; done)), H', ⟨by first | omega | exact Nat.le_refl _⟩, by repeat (first | exact Drawn0.refl _ | apply Drawn0.step)⟩
    · rw [if_neg c3] at H
      have c3b0 : (a0 == 1) = false := beq_eq_false_iff_ne.mpr c3
      have c3b1 : (a0 != 1) = true := bne_iff_ne.mpr c3
      (first | rw [c3b0] | (simp only [i64_w, i32_w]; rw [c3b0]) | skip)
      by_cases c4 : a0 = 5
      · rw [if_pos c4] at H
        have c4b0 : (a0 == 5) = true := beq_iff_eq.mpr c4
        have c4b1 : (a0 != 5) = false := bne_eq_false_iff_eq.mpr c4
        clear c4
        have H' := Aside0.mk H
        clear H
        go_wp2
        go_meet
        case rel => exact ⟨_, ((a0 == 5)), (by first | rfl | (simp; done) | (simp [*]; done)), H', ⟨by first | omega | exact Nat.le_refl _⟩, by repeat (first | exact Drawn0.refl _ | apply Drawn0.step)⟩
      · rw [if_neg c4] at H
        have c4b0 : (a0 == 5) = false := beq_eq_false_iff_ne.mpr c4
        have c4b1 : (a0 != 5) = true := bne_iff_ne.mpr c4
        by_cases c5 : a0 = 6
        · rw [if_pos c5] at H
          have c5b0 : (a0 == 6) = true := beq_iff_eq.mpr c5
          have c5b1 : (a0 != 6) = false := bne_eq_false_iff_eq.mpr c5
          clear c5
          have H' := Aside0.mk H
          clear H
          go_wp2
          go_meet
          case rel => exact ⟨_, ((a0 == 6)), (by first | rfl | (simp; done) | (simp [*]; done)), H', ⟨by first | omega | exact Nat.le_refl _⟩, by repeat (first | exact Drawn0.refl _ | apply Drawn0.step)⟩
        · rw [if_neg c5] at H
          have c5b0 : (a0 == 6) = false := beq_eq_false_iff_ne.mpr c5
          have c5b1 : (a0 != 6) = true := bne_iff_ne.mpr c5
          have H' := Aside0.mk H
          clear H
          go_wp2
          go_meet
          case rel => exact ⟨_, ((a0 == 7)), (by first | rfl | (simp; done) | (simp [*]; done)), H', ⟨by first | omega | exact Nat.le_refl _⟩, by repeat (first | exact Drawn0.refl _ | apply Drawn0.step)⟩
  case rest =>
    clear HC2
    try clear p2
    try clear c3
    try clear c3b0
    try clear c3b1
    try clear c4
    try clear c4b0
    try clear c4b1
    try clear c5
    try clear c5b0
    try clear c5b1
    obtain ⟨kq, x4_1, rfl, HA, HJ1, ⟨mc1, rfl⟩⟩ := hcut
    cases kq with
    | zero => exact absurd HA.out (by simp [program_counts.j0])
    | succ kj1 =>
      have H := HA.out
      clear HA
      simp only [program_counts.j0] at H
      by_cases c6 : x4_1 = true
      · subst c6
        have H1 : (some 1) = some r := by rw [if_pos rfl] at H; exact H
        clear H
        have H := H1
        clear H1
        obtain rfl := Option.some.inj H
        go_wp2
        go_ret
        exact ⟨by first | rfl | (simp; done) | (simp [*]; done), by repeat (first | exact Drawn0.refl _ | apply Drawn0.step)⟩
      · replace c6 := Bool.eq_false_iff.mpr c6
        subst c6
        have H1 : (if a0 = 2 then (some 2) else (some 0)) = some r := by rw [if_neg (show ¬ (false = true) by decide)] at H; exact H
        clear H
        have H := H1
        clear H1
        by_cases c7 : a0 = 2
        · rw [if_pos c7] at H
          have c7b0 : (a0 == 2) = true := beq_iff_eq.mpr c7
          have c7b1 : (a0 != 2) = false := bne_eq_false_iff_eq.mpr c7
          clear c7
          obtain rfl := Option.some.inj H
          go_wp2
          go_ret
          exact ⟨by first | rfl | (simp; done) | (simp [*]; done), by repeat (first | exact Drawn0.refl _ | apply Drawn0.step)⟩
        · rw [if_neg c7] at H
          have c7b0 : (a0 == 2) = false := beq_eq_false_iff_ne.mpr c7
          have c7b1 : (a0 != 2) = true := bne_iff_ne.mpr c7
          obtain rfl := Option.some.inj H
          go_wp2
          go_ret
          exact ⟨by first | rfl | (simp; done) | (simp [*]; done), by repeat (first | exact Drawn0.refl _ | apply Drawn0.step)⟩

/-! ### program_verbs: function 60 -/
def program_verbs.f  : Option (List ByteArray) := some (([(⟨#[]⟩ : ByteArray), (⟨#[119, 111, 114, 107]⟩ : ByteArray), (⟨#[115, 112, 97, 119, 110]⟩ : ByteArray), (⟨#[106, 111, 105, 110]⟩ : ByteArray), (⟨#[104, 101, 97, 100]⟩ : ByteArray), (⟨#[97, 110, 115, 119, 101, 114]⟩ : ByteArray), (⟨#[102, 97, 105, 108]⟩ : ByteArray), (⟨#[114, 101, 102, 117, 115, 101]⟩ : ByteArray)] : List ByteArray))
set_option maxHeartbeats 8000000 in
set_option maxRecDepth 100000 in
theorem program_verbs.calls  (r : List ByteArray) (w : World) (h : program_verbs.f  = some r) :
    Calls Tryd.prog 60 #[] w fun e w' => ∃ v0_ : Value, e = .returned (v0_) ∧ Kd.R Kd.string 9 w' w.heap.size (fun _ => True) v0_ r ∧ Below w.heap.size w w' := by
  have HB := Aside0.mk (Below.refl w.heap.size w)
  have H : (some (([(⟨#[]⟩ : ByteArray), (⟨#[119, 111, 114, 107]⟩ : ByteArray), (⟨#[115, 112, 97, 119, 110]⟩ : ByteArray), (⟨#[106, 111, 105, 110]⟩ : ByteArray), (⟨#[104, 101, 97, 100]⟩ : ByteArray), (⟨#[97, 110, 115, 119, 101, 114]⟩ : ByteArray), (⟨#[102, 97, 105, 108]⟩ : ByteArray), (⟨#[114, 101, 102, 117, 115, 101]⟩ : ByteArray)] : List ByteArray))) = some r := h
  clear h
  obtain ⟨y105, hy105⟩ : ∃ y_ : List ByteArray, y_ = (([(⟨#[]⟩ : ByteArray), (⟨#[119, 111, 114, 107]⟩ : ByteArray), (⟨#[115, 112, 97, 119, 110]⟩ : ByteArray), (⟨#[106, 111, 105, 110]⟩ : ByteArray), (⟨#[104, 101, 97, 100]⟩ : ByteArray), (⟨#[97, 110, 115, 119, 101, 114]⟩ : ByteArray), (⟨#[102, 97, 105, 108]⟩ : ByteArray), (⟨#[114, 101, 102, 117, 115, 101]⟩ : ByteArray)] : List ByteArray)) := ⟨_, rfl⟩
  replace H : (some y105) = some r := by first | (rw [hy105]; with_reducible exact H) | (have H2_ := (Option.bind_some _ _).symm.trans H; rw [hy105]; with_reducible exact H2_) | (have H2_ := (Option.bind_some _ _).symm.trans H; with_reducible exact H2_) | with_reducible exact H | (rw [hy105]; exact H) | exact H
  have Ny105 := Aside0.mk hy105
  clear hy105
  obtain rfl := Option.some.inj H
  go_enter Tryd.func60, Tryd.ntmps60
  go_wp2_with (first | ((with_reducible refine gate_dst (N := 1) rfl ?_); refine Kd.R_lit Kd.string _ 9 ?hg (N := 1) ?hd (xs := ([(⟨#[]⟩ : ByteArray), (⟨#[119, 111, 114, 107]⟩ : ByteArray), (⟨#[115, 112, 97, 119, 110]⟩ : ByteArray), (⟨#[106, 111, 105, 110]⟩ : ByteArray), (⟨#[104, 101, 97, 100]⟩ : ByteArray), (⟨#[97, 110, 115, 119, 101, 114]⟩ : ByteArray), (⟨#[102, 97, 105, 108]⟩ : ByteArray), (⟨#[114, 101, 102, 117, 115, 101]⟩ : ByteArray)] : List ByteArray)) (inner := [.string (⟨#[]⟩ : ByteArray), .string (⟨#[119, 111, 114, 107]⟩ : ByteArray), .string (⟨#[115, 112, 97, 119, 110]⟩ : ByteArray), .string (⟨#[106, 111, 105, 110]⟩ : ByteArray), .string (⟨#[104, 101, 97, 100]⟩ : ByteArray), .string (⟨#[97, 110, 115, 119, 101, 114]⟩ : ByteArray), .string (⟨#[102, 97, 105, 108]⟩ : ByteArray), .string (⟨#[114, 101, 102, 117, 115, 101]⟩ : ByteArray)]) (ok := fun _ => True) (okp := fun _ => True) ?hr ?hp (fun _ hk => hk) trivial (Below.refl _ _) (Nat.le_refl _) (by simp) ?_; (case hd => rfl); (case hg => rfl); (case hr => first | (go_simp; done) | (go_simp; rfl)); (case hp => exact (Reps.one (show Kd.M Kd.string _ _ _ (⟨#[]⟩ : ByteArray) [.string (⟨#[]⟩ : ByteArray)] from rfl) (Reps.one (show Kd.M Kd.string _ _ _ (⟨#[119, 111, 114, 107]⟩ : ByteArray) [.string (⟨#[119, 111, 114, 107]⟩ : ByteArray)] from rfl) (Reps.one (show Kd.M Kd.string _ _ _ (⟨#[115, 112, 97, 119, 110]⟩ : ByteArray) [.string (⟨#[115, 112, 97, 119, 110]⟩ : ByteArray)] from rfl) (Reps.one (show Kd.M Kd.string _ _ _ (⟨#[106, 111, 105, 110]⟩ : ByteArray) [.string (⟨#[106, 111, 105, 110]⟩ : ByteArray)] from rfl) (Reps.one (show Kd.M Kd.string _ _ _ (⟨#[104, 101, 97, 100]⟩ : ByteArray) [.string (⟨#[104, 101, 97, 100]⟩ : ByteArray)] from rfl) (Reps.one (show Kd.M Kd.string _ _ _ (⟨#[97, 110, 115, 119, 101, 114]⟩ : ByteArray) [.string (⟨#[97, 110, 115, 119, 101, 114]⟩ : ByteArray)] from rfl) (Reps.one (show Kd.M Kd.string _ _ _ (⟨#[102, 97, 105, 108]⟩ : ByteArray) [.string (⟨#[102, 97, 105, 108]⟩ : ByteArray)] from rfl) (Reps.one (show Kd.M Kd.string _ _ _ (⟨#[114, 101, 102, 117, 115, 101]⟩ : ByteArray) [.string (⟨#[114, 101, 102, 117, 115, 101]⟩ : ByteArray)] from rfl) (Reps.none _ _)))))))))); intro v106 w1 ho2 hb hg_ hnew_; clear hg_ hnew_; (first | rw [← Ny105.out] at ho2 | (simp only [Int.reduceToNat] at ho2; rw [← Ny105.out] at ho2)); have n0_ := Aside0.mk (Kd.R_lower ho2 (below_size (by repeat (first | (with_reducible first | exact HB.out | apply below_alloc | apply pw_below_drewN | apply below_drew1) | exact HB.out)))); have n1_ := Aside0.mk (below_step (by repeat (first | (with_reducible first | exact HB.out | apply below_alloc | apply pw_below_drewN | apply below_drew1) | exact HB.out)) hb); clear HB; have HO107 := n0_; have HB := n1_; clear n0_ n1_; clear hb ho2))
  go_ret
  exact ⟨_, by first | rfl | (simp [errW_none, errW_some] <;> rfl) | (simp [*, errW_none, errW_some] <;> rfl), by (with_reducible repeat (first | apply Kd.R_alloc | apply Kd.R_drewN | apply Kd.R_drew)); exact HO107.out, by repeat (first | (with_reducible first | exact HB.out | apply below_alloc | apply pw_below_drewN | apply below_drew1) | exact HB.out)⟩

end Go.Proofs.YthfjjdkaplibmaaDoor.Pr

-- Written by wip/pr.py over the translation. Lean checks it.
namespace Go.Proofs.YthfjjdkaplibmaaDoor.Pr
open Go.RowKit Go.Proofs.YthfjjdkaplibmaaDoorW.PrintWords Go.Proofs.YthfjjdkaplibmaaDoorW.PrintLast Go.Proofs.YthfjjdkaplibmaaDoorW.PrintMore
attribute [local go_sem] max2_int min2_int max_two min_two max_three min_three max_four min_four   -- for this text's walks alone
set_option linter.unusedVariables false
set_option linter.unusedSimpArgs false

/-! ### hourglassref30_Word: function 43 -/
def hourglassref30_Word.f (a0 : Int) : Option (ByteArray) := (some (([(⟨#[116, 105, 99, 107]⟩ : ByteArray), (⟨#[115, 104, 105, 102, 116]⟩ : ByteArray), (⟨#[116, 105, 109, 101, 114]⟩ : ByteArray), (⟨#[114, 117, 110]⟩ : ByteArray), (⟨#[100, 101, 108, 105, 118, 101, 114]⟩ : ByteArray), (⟨#[100, 114, 111, 112]⟩ : ByteArray), (⟨#[116, 119, 105, 99, 101]⟩ : ByteArray), (⟨#[104, 117, 114, 116]⟩ : ByteArray), (⟨#[105, 115, 115, 117, 101]⟩ : ByteArray), (⟨#[99, 97, 110, 99, 101, 108]⟩ : ByteArray), (⟨#[99, 114, 97, 115, 104]⟩ : ByteArray)] : List ByteArray) : List ByteArray)).bind fun y121 => (if 0 ≤ (wrap64 (a0 - 1)) then (if (wrap64 (a0 - 1)) < (y121.length : Int) then (some (rdOf ByteArray.empty y121 (wrap64 (a0 - 1)))) else (none)) else (none))
set_option maxHeartbeats 8000000 in
set_option maxRecDepth 100000 in
theorem hourglassref30_Word.calls (a0 : Int) (r : ByteArray) (w : World) (h : hourglassref30_Word.f a0 = some r) :
    Calls Tryd.prog 43 #[.int .i64 a0] w fun e w' => e = .returned (.string r) ∧ Below w.heap.size w w' := by
  have HB := Aside0.mk (Below.refl w.heap.size w)
  have H : ((some (([(⟨#[116, 105, 99, 107]⟩ : ByteArray), (⟨#[115, 104, 105, 102, 116]⟩ : ByteArray), (⟨#[116, 105, 109, 101, 114]⟩ : ByteArray), (⟨#[114, 117, 110]⟩ : ByteArray), (⟨#[100, 101, 108, 105, 118, 101, 114]⟩ : ByteArray), (⟨#[100, 114, 111, 112]⟩ : ByteArray), (⟨#[116, 119, 105, 99, 101]⟩ : ByteArray), (⟨#[104, 117, 114, 116]⟩ : ByteArray), (⟨#[105, 115, 115, 117, 101]⟩ : ByteArray), (⟨#[99, 97, 110, 99, 101, 108]⟩ : ByteArray), (⟨#[99, 114, 97, 115, 104]⟩ : ByteArray)] : List ByteArray) : List ByteArray)).bind fun y121 => (if 0 ≤ (wrap64 (a0 - 1)) then (if (wrap64 (a0 - 1)) < (y121.length : Int) then (some (rdOf ByteArray.empty y121 (wrap64 (a0 - 1)))) else (none)) else (none))) = some r := h
  clear h
  obtain ⟨y121, hy121⟩ : ∃ y_ : List ByteArray, y_ = (([(⟨#[116, 105, 99, 107]⟩ : ByteArray), (⟨#[115, 104, 105, 102, 116]⟩ : ByteArray), (⟨#[116, 105, 109, 101, 114]⟩ : ByteArray), (⟨#[114, 117, 110]⟩ : ByteArray), (⟨#[100, 101, 108, 105, 118, 101, 114]⟩ : ByteArray), (⟨#[100, 114, 111, 112]⟩ : ByteArray), (⟨#[116, 119, 105, 99, 101]⟩ : ByteArray), (⟨#[104, 117, 114, 116]⟩ : ByteArray), (⟨#[105, 115, 115, 117, 101]⟩ : ByteArray), (⟨#[99, 97, 110, 99, 101, 108]⟩ : ByteArray), (⟨#[99, 114, 97, 115, 104]⟩ : ByteArray)] : List ByteArray)) := ⟨_, rfl⟩
  replace H : (if 0 ≤ (wrap64 (a0 - 1)) then (if (wrap64 (a0 - 1)) < (y121.length : Int) then (some (rdOf ByteArray.empty y121 (wrap64 (a0 - 1)))) else (none)) else (none)) = some r := by first | (rw [hy121]; with_reducible exact H) | (have H2_ := (Option.bind_some _ _).symm.trans H; rw [hy121]; with_reducible exact H2_) | (have H2_ := (Option.bind_some _ _).symm.trans H; with_reducible exact H2_) | with_reducible exact H | (rw [hy121]; exact H) | exact H
  have Ny121 := Aside0.mk hy121
  clear hy121
  obtain ⟨ji2, hji2⟩ : ∃ j_ : Int, (wrap64 (a0 - 1)) = j_ := ⟨_, rfl⟩
  replace H : (if 0 ≤ (ji2) then (if (ji2) < (y121.length : Int) then (some (rdOf ByteArray.empty y121 (ji2))) else (none)) else (none)) = some r := by first | (rw [hji2] at H; exact H) | (simp only [hji2] at H ⊢; exact H)
  have hji2w : (IntKind.i64.wrap (a0 - 1)) = ji2 := (i64_w _).trans hji2
  by_cases c3 : 0 ≤ (ji2)
  · rw [if_pos c3] at H
    have c3b0 : decide (0 ≤ (ji2)) = true := decide_eq_true c3
    clear c3
    by_cases c4 : (ji2) < (y121.length : Int)
    · rw [if_pos c4] at H
      have c4b0 : decide ((ji2) < (y121.length : Int)) = true := decide_eq_true c4
      clear c4
      obtain rfl := Option.some.inj H
      go_enter Tryd.func43, Tryd.ntmps43
      go_wp2_with (first | ((with_reducible refine gate_dst (N := 4) rfl ?_); refine Kd.R_lit Kd.string _ 9 ?hg (N := 4) ?hd (xs := ([(⟨#[116, 105, 99, 107]⟩ : ByteArray), (⟨#[115, 104, 105, 102, 116]⟩ : ByteArray), (⟨#[116, 105, 109, 101, 114]⟩ : ByteArray), (⟨#[114, 117, 110]⟩ : ByteArray), (⟨#[100, 101, 108, 105, 118, 101, 114]⟩ : ByteArray), (⟨#[100, 114, 111, 112]⟩ : ByteArray), (⟨#[116, 119, 105, 99, 101]⟩ : ByteArray), (⟨#[104, 117, 114, 116]⟩ : ByteArray), (⟨#[105, 115, 115, 117, 101]⟩ : ByteArray), (⟨#[99, 97, 110, 99, 101, 108]⟩ : ByteArray), (⟨#[99, 114, 97, 115, 104]⟩ : ByteArray)] : List ByteArray)) (inner := [.string (⟨#[116, 105, 99, 107]⟩ : ByteArray), .string (⟨#[115, 104, 105, 102, 116]⟩ : ByteArray), .string (⟨#[116, 105, 109, 101, 114]⟩ : ByteArray), .string (⟨#[114, 117, 110]⟩ : ByteArray), .string (⟨#[100, 101, 108, 105, 118, 101, 114]⟩ : ByteArray), .string (⟨#[100, 114, 111, 112]⟩ : ByteArray), .string (⟨#[116, 119, 105, 99, 101]⟩ : ByteArray), .string (⟨#[104, 117, 114, 116]⟩ : ByteArray), .string (⟨#[105, 115, 115, 117, 101]⟩ : ByteArray), .string (⟨#[99, 97, 110, 99, 101, 108]⟩ : ByteArray), .string (⟨#[99, 114, 97, 115, 104]⟩ : ByteArray)]) (ok := fun _ => True) (okp := fun _ => True) ?hr ?hp (fun _ hk => hk) trivial (Below.refl _ _) (Nat.le_refl _) (by simp) ?_; (case hd => rfl); (case hg => rfl); (case hr => first | (go_simp; done) | (go_simp; rfl)); (case hp => exact (Reps.one (show Kd.M Kd.string _ _ _ (⟨#[116, 105, 99, 107]⟩ : ByteArray) [.string (⟨#[116, 105, 99, 107]⟩ : ByteArray)] from rfl) (Reps.one (show Kd.M Kd.string _ _ _ (⟨#[115, 104, 105, 102, 116]⟩ : ByteArray) [.string (⟨#[115, 104, 105, 102, 116]⟩ : ByteArray)] from rfl) (Reps.one (show Kd.M Kd.string _ _ _ (⟨#[116, 105, 109, 101, 114]⟩ : ByteArray) [.string (⟨#[116, 105, 109, 101, 114]⟩ : ByteArray)] from rfl) (Reps.one (show Kd.M Kd.string _ _ _ (⟨#[114, 117, 110]⟩ : ByteArray) [.string (⟨#[114, 117, 110]⟩ : ByteArray)] from rfl) (Reps.one (show Kd.M Kd.string _ _ _ (⟨#[100, 101, 108, 105, 118, 101, 114]⟩ : ByteArray) [.string (⟨#[100, 101, 108, 105, 118, 101, 114]⟩ : ByteArray)] from rfl) (Reps.one (show Kd.M Kd.string _ _ _ (⟨#[100, 114, 111, 112]⟩ : ByteArray) [.string (⟨#[100, 114, 111, 112]⟩ : ByteArray)] from rfl) (Reps.one (show Kd.M Kd.string _ _ _ (⟨#[116, 119, 105, 99, 101]⟩ : ByteArray) [.string (⟨#[116, 119, 105, 99, 101]⟩ : ByteArray)] from rfl) (Reps.one (show Kd.M Kd.string _ _ _ (⟨#[104, 117, 114, 116]⟩ : ByteArray) [.string (⟨#[104, 117, 114, 116]⟩ : ByteArray)] from rfl) (Reps.one (show Kd.M Kd.string _ _ _ (⟨#[105, 115, 115, 117, 101]⟩ : ByteArray) [.string (⟨#[105, 115, 115, 117, 101]⟩ : ByteArray)] from rfl) (Reps.one (show Kd.M Kd.string _ _ _ (⟨#[99, 97, 110, 99, 101, 108]⟩ : ByteArray) [.string (⟨#[99, 97, 110, 99, 101, 108]⟩ : ByteArray)] from rfl) (Reps.one (show Kd.M Kd.string _ _ _ (⟨#[99, 114, 97, 115, 104]⟩ : ByteArray) [.string (⟨#[99, 114, 97, 115, 104]⟩ : ByteArray)] from rfl) (Reps.none _ _))))))))))))); intro v122 w5 ho6 hb hg_ hnew_; clear hg_ hnew_; (first | rw [← Ny121.out] at ho6 | (simp only [Int.reduceToNat] at ho6; rw [← Ny121.out] at ho6)); have n0_ := Aside0.mk (Kd.R_lower ho6 (below_size (by repeat (first | (with_reducible first | exact HB.out | apply below_alloc | apply pw_below_drewN | apply below_drew1) | exact HB.out)))); have n1_ := Aside0.mk (below_step (by repeat (first | (with_reducible first | exact HB.out | apply below_alloc | apply pw_below_drewN | apply below_drew1) | exact HB.out)) hb); clear HB; have HO123 := n0_; have HB := n1_; clear n0_ n1_; clear hb ho6; obtain ⟨Ao7, co7, eo7⟩ := Kd.R_slice HO123.out; subst eo7; have p124 : 0 ≤ ((ji2) : Int) := of_decide_eq_true (by first | (with_reducible assumption) | assumption); have q124 : (ji2) < (y121.length : Int) := of_decide_eq_true (by first | (with_reducible assumption) | assumption); obtain ⟨ad124, e124, hx124_0⟩ := Kd.at_string (Kd.R_reads' HO123.out).2.2 (ji2) p124 q124; cases e124; replace p124 := eq_true p124; replace q124 := eq_true q124))
      go_ret
      exact ⟨by first | rfl | (simp [errW_none, errW_some] <;> rfl) | (simp only [← hji2]; first | rfl | (simp [errW_none, errW_some] <;> rfl)) | (simp [*, errW_none, errW_some] <;> rfl), by repeat (first | (with_reducible first | exact HB.out | apply below_alloc | apply pw_below_drewN | apply below_drew1) | exact HB.out)⟩
    · rw [if_neg c4] at H
      exact absurd H (by simp)
  · rw [if_neg c3] at H
    exact absurd H (by simp)

/-! ### hourglassref30_Count: function 44 -/
def hourglassref30_Count.f (a0 : Int) : Option (Int) := (some (([1, 2, 1, 2, 1, 1, 1, 3, 4, 2, 1] : List Int) : List Int)).bind fun y125 => (if 0 ≤ (wrap64 (a0 - 1)) then (if (wrap64 (a0 - 1)) < (y125.length : Int) then (some (rd y125 (wrap64 (a0 - 1)))) else (none)) else (none))
set_option maxHeartbeats 8000000 in
set_option maxRecDepth 100000 in
theorem hourglassref30_Count.calls (a0 : Int) (r : Int) (w : World) (h : hourglassref30_Count.f a0 = some r) :
    Calls Tryd.prog 44 #[.int .i64 a0] w fun e w' => e = .returned (.int .i64 r) ∧ Below w.heap.size w w' := by
  have HB := Aside0.mk (Below.refl w.heap.size w)
  have H : ((some (([1, 2, 1, 2, 1, 1, 1, 3, 4, 2, 1] : List Int) : List Int)).bind fun y125 => (if 0 ≤ (wrap64 (a0 - 1)) then (if (wrap64 (a0 - 1)) < (y125.length : Int) then (some (rd y125 (wrap64 (a0 - 1)))) else (none)) else (none))) = some r := h
  clear h
  obtain ⟨y125, hy125⟩ : ∃ y_ : List Int, y_ = (([1, 2, 1, 2, 1, 1, 1, 3, 4, 2, 1] : List Int)) := ⟨_, rfl⟩
  replace H : (if 0 ≤ (wrap64 (a0 - 1)) then (if (wrap64 (a0 - 1)) < (y125.length : Int) then (some (rd y125 (wrap64 (a0 - 1)))) else (none)) else (none)) = some r := by first | (rw [hy125]; with_reducible exact H) | (have H2_ := (Option.bind_some _ _).symm.trans H; rw [hy125]; with_reducible exact H2_) | (have H2_ := (Option.bind_some _ _).symm.trans H; with_reducible exact H2_) | with_reducible exact H | (rw [hy125]; exact H) | exact H
  have Ny125 := Aside0.mk hy125
  clear hy125
  obtain ⟨ji2, hji2⟩ : ∃ j_ : Int, (wrap64 (a0 - 1)) = j_ := ⟨_, rfl⟩
  replace H : (if 0 ≤ (ji2) then (if (ji2) < (y125.length : Int) then (some (rd y125 (ji2))) else (none)) else (none)) = some r := by first | (rw [hji2] at H; exact H) | (simp only [hji2] at H ⊢; exact H)
  have hji2w : (IntKind.i64.wrap (a0 - 1)) = ji2 := (i64_w _).trans hji2
  by_cases c3 : 0 ≤ (ji2)
  · rw [if_pos c3] at H
    have c3b0 : decide (0 ≤ (ji2)) = true := decide_eq_true c3
    clear c3
    by_cases c4 : (ji2) < (y125.length : Int)
    · rw [if_pos c4] at H
      have c4b0 : decide ((ji2) < (y125.length : Int)) = true := decide_eq_true c4
      clear c4
      obtain rfl := Option.some.inj H
      go_enter Tryd.func44, Tryd.ntmps44
      go_wp2_with (first | ((with_reducible refine gate_dst (N := 4) rfl ?_); refine Kd.R_lit (Kd.int .i64) _ 3 ?hg (N := 4) ?hd (xs := ([1, 2, 1, 2, 1, 1, 1, 3, 4, 2, 1] : List Int)) (inner := [.int .i64 1, .int .i64 2, .int .i64 1, .int .i64 2, .int .i64 1, .int .i64 1, .int .i64 1, .int .i64 3, .int .i64 4, .int .i64 2, .int .i64 1]) (ok := fun _ => True) (okp := fun _ => True) ?hr ?hp (fun _ hk => hk) trivial (Below.refl _ _) (Nat.le_refl _) (by simp) ?_; (case hd => rfl); (case hg => rfl); (case hr => first | (go_simp; done) | (go_simp; rfl)); (case hp => exact (Reps.one (show Kd.M (Kd.int .i64) _ _ _ 1 [.int .i64 1] from rfl) (Reps.one (show Kd.M (Kd.int .i64) _ _ _ 2 [.int .i64 2] from rfl) (Reps.one (show Kd.M (Kd.int .i64) _ _ _ 1 [.int .i64 1] from rfl) (Reps.one (show Kd.M (Kd.int .i64) _ _ _ 2 [.int .i64 2] from rfl) (Reps.one (show Kd.M (Kd.int .i64) _ _ _ 1 [.int .i64 1] from rfl) (Reps.one (show Kd.M (Kd.int .i64) _ _ _ 1 [.int .i64 1] from rfl) (Reps.one (show Kd.M (Kd.int .i64) _ _ _ 1 [.int .i64 1] from rfl) (Reps.one (show Kd.M (Kd.int .i64) _ _ _ 3 [.int .i64 3] from rfl) (Reps.one (show Kd.M (Kd.int .i64) _ _ _ 4 [.int .i64 4] from rfl) (Reps.one (show Kd.M (Kd.int .i64) _ _ _ 2 [.int .i64 2] from rfl) (Reps.one (show Kd.M (Kd.int .i64) _ _ _ 1 [.int .i64 1] from rfl) (Reps.none _ _))))))))))))); intro v126 w5 ho6 hb hg_ hnew_; clear hg_ hnew_; (first | rw [← Ny125.out] at ho6 | (simp only [Int.reduceToNat] at ho6; rw [← Ny125.out] at ho6)); have n0_ := Aside0.mk (Kd.R_lower ho6 (below_size (by repeat (first | (with_reducible first | exact HB.out | apply below_alloc | apply pw_below_drewN | apply below_drew1) | exact HB.out)))); have n1_ := Aside0.mk (below_step (by repeat (first | (with_reducible first | exact HB.out | apply below_alloc | apply pw_below_drewN | apply below_drew1) | exact HB.out)) hb); clear HB; have HO127 := n0_; have HB := n1_; clear n0_ n1_; clear hb ho6; obtain ⟨Ao7, co7, eo7⟩ := Kd.R_slice HO127.out; subst eo7; have p128 : 0 ≤ ((ji2) : Int) := of_decide_eq_true (by first | (with_reducible assumption) | assumption); have q128 : (ji2) < (y125.length : Int) := of_decide_eq_true (by first | (with_reducible assumption) | assumption); obtain ⟨ad128, e128, hx128_0⟩ := Kd.at_int (Kd.R_reads' HO127.out).2.2 (ji2) p128 q128; cases e128; replace p128 := eq_true p128; replace q128 := eq_true q128))
      go_ret
      exact ⟨by first | rfl | (simp [errW_none, errW_some] <;> rfl) | (simp only [← hji2]; first | rfl | (simp [errW_none, errW_some] <;> rfl)) | (simp [*, errW_none, errW_some] <;> rfl), by repeat (first | (with_reducible first | exact HB.out | apply below_alloc | apply pw_below_drewN | apply below_drew1) | exact HB.out)⟩
    · rw [if_neg c4] at H
      exact absurd H (by simp)
  · rw [if_neg c3] at H
    exact absurd H (by simp)

end Go.Proofs.YthfjjdkaplibmaaDoor.Pr

namespace Go.Proofs.YthfjjdkaplibmaaDoor.Pr
open Go.RowKit Go.Proofs.YthfjjdkaplibmaaDoorW.PrintWords Go.Proofs.YthfjjdkaplibmaaDoorW.PrintLast Go.Proofs.YthfjjdkaplibmaaDoorW.PrintMore
attribute [local go_sem] max2_int min2_int max_two min_two max_three min_three max_four min_four
set_option linter.unusedVariables false
set_option linter.unusedSimpArgs false
/-! ### digK: function 53 -/
def digK.f : Nat → Int → Option (ByteArray)
  | 0, _ => none
  | k + 1, a0 => if a0 < 0 then (if a0 > (-10) then ((digK.f k (wrap64 (-a0))).bind fun t129 => (if 1 + t129.size ≤ 9223372036854775807 then (some ((⟨#[45]⟩ : ByteArray) ++ t129)) else (none))) else ((digK.f k (wrap64 (-(wrap64 (Int.tdiv a0 10))))).bind fun t130 => (if 1 + t130.size ≤ 9223372036854775807 then ((digK.f k (wrap64 (-(Int.tmod a0 10)))).bind fun t131 => (if ((⟨#[45]⟩ : ByteArray) ++ t130).size + t131.size ≤ 9223372036854775807 then (some (((⟨#[45]⟩ : ByteArray) ++ t130) ++ t131)) else (none))) else (none)))) else (if a0 < 10 then (if 0 ≤ a0 then (if a0 ≤ (wrap64 (a0 + 1)) then (if (wrap64 (a0 + 1)) ≤ 10 then (some ((⟨#[48, 49, 50, 51, 52, 53, 54, 55, 56, 57]⟩ : ByteArray).extract (a0 : Int).toNat ((wrap64 (a0 + 1)) : Int).toNat)) else (none)) else (none)) else (none)) else ((digK.f k (wrap64 (Int.tdiv a0 10))).bind fun t132 => (if 0 ≤ (Int.tmod a0 10) then (if (Int.tmod a0 10) ≤ (wrap64 ((Int.tmod a0 10) + 1)) then (if (wrap64 ((Int.tmod a0 10) + 1)) ≤ 10 then (if t132.size + ((⟨#[48, 49, 50, 51, 52, 53, 54, 55, 56, 57]⟩ : ByteArray).extract ((Int.tmod a0 10) : Int).toNat ((wrap64 ((Int.tmod a0 10) + 1)) : Int).toNat).size ≤ 9223372036854775807 then (some (t132 ++ ((⟨#[48, 49, 50, 51, 52, 53, 54, 55, 56, 57]⟩ : ByteArray).extract ((Int.tmod a0 10) : Int).toNat ((wrap64 ((Int.tmod a0 10) + 1)) : Int).toNat))) else (none)) else (none)) else (none)) else (none))))
theorem digK.mono_l : ∀ k, (∀ y0, LeO (digK.f k y0) (digK.f (k + 1) y0))
  | 0 => fun _ r h => by simp [digK.f] at h
  | k + 1 => by
    have ih0 := digK.mono_l k
    · intro y0
      unfold digK.f
      repeat' first
      | (with_reducible exact ih0 _)
      | (with_reducible exact LeO.refl _)
      | (with_reducible exact LeO.none _)
      | (with_reducible refine LeO.ite ?_ ?_)
      | (with_reducible refine LeO.bind ?_ (fun _ => ?_))
      | exact ih0 _
      | exact LeO.none _
      | refine LeO.ite ?_ ?_
      | refine LeO.bind ?_ (fun _ => ?_)
theorem digK.mono : ∀ a0 k, LeO (digK.f k a0) (digK.f (k + 1) a0) := by
  intro a0 k
  have ih0 := digK.mono_l k
  exact ih0 a0
def digK.T7 : Bool × List (List Nat × List Nat) := (true, [([], []), ([0], [0]), ([1], [1]), ([], []), ([3], [3]), ([], []), ([5], [5]), ([6], [6]), ([4, 7], [4, 7]), ([2, 8], [2, 8]), ([9, 2, 0, 1, 2, 3, 4, 5, 6, 7, 8, 9], [9])])
def digK.B7 : List Nat := [0, 1, 3, 0, 8, 0, 32, 96, 248, 511, 1023]
theorem digK.tab7 : rtab .any (opsOf Tryd.f53 7) = digK.T7 := by kernel_rfl
theorem digK.bits7 : waitsOk digK.T7.2 digK.B7 = true := by kernel_rfl
set_option maxHeartbeats 8000000 in
set_option maxRecDepth 100000 in
theorem digK.calls (k : Nat) : ∀ (a0 : Int) (r : ByteArray) (w : World) (h : digK.f k a0 = some r),
    Calls Tryd.prog 53 #[.int .i64 a0] w fun e w' => e = .returned (.string r) ∧ Below w.heap.size w w' := by
  induction k using Nat.strongRecOn with
  | _ k ih =>
  intro a0 r w h
  cases k with
  | zero => exact absurd h (by simp [digK.f])
  | succ k =>
  simp only [digK.f] at h
  have HB := Aside0.mk (Below.refl w.heap.size w)
  have H : (if a0 < 0 then (if a0 > (-10) then ((digK.f k (wrap64 (-a0))).bind fun t129 => (if 1 + t129.size ≤ 9223372036854775807 then (some ((⟨#[45]⟩ : ByteArray) ++ t129)) else (none))) else ((digK.f k (wrap64 (-(wrap64 (Int.tdiv a0 10))))).bind fun t130 => (if 1 + t130.size ≤ 9223372036854775807 then ((digK.f k (wrap64 (-(Int.tmod a0 10)))).bind fun t131 => (if ((⟨#[45]⟩ : ByteArray) ++ t130).size + t131.size ≤ 9223372036854775807 then (some (((⟨#[45]⟩ : ByteArray) ++ t130) ++ t131)) else (none))) else (none)))) else (if a0 < 10 then (if 0 ≤ a0 then (if a0 ≤ (wrap64 (a0 + 1)) then (if (wrap64 (a0 + 1)) ≤ 10 then (some ((⟨#[48, 49, 50, 51, 52, 53, 54, 55, 56, 57]⟩ : ByteArray).extract (a0 : Int).toNat ((wrap64 (a0 + 1)) : Int).toNat)) else (none)) else (none)) else (none)) else ((digK.f k (wrap64 (Int.tdiv a0 10))).bind fun t132 => (if 0 ≤ (Int.tmod a0 10) then (if (Int.tmod a0 10) ≤ (wrap64 ((Int.tmod a0 10) + 1)) then (if (wrap64 ((Int.tmod a0 10) + 1)) ≤ 10 then (if t132.size + ((⟨#[48, 49, 50, 51, 52, 53, 54, 55, 56, 57]⟩ : ByteArray).extract ((Int.tmod a0 10) : Int).toNat ((wrap64 ((Int.tmod a0 10) + 1)) : Int).toNat).size ≤ 9223372036854775807 then (some (t132 ++ ((⟨#[48, 49, 50, 51, 52, 53, 54, 55, 56, 57]⟩ : ByteArray).extract ((Int.tmod a0 10) : Int).toNat ((wrap64 ((Int.tmod a0 10) + 1)) : Int).toNat))) else (none)) else (none)) else (none)) else (none))))) = some r := h
  clear h
  by_cases c2 : a0 < 0
  · rw [if_pos c2] at H
    have c2b0 : decide (a0 < 0) = true := decide_eq_true c2
    clear c2
    by_cases c3 : a0 > (-10)
    · rw [if_pos c3] at H
      have c3b0 : decide ((-10) < a0) = true := decide_eq_true c3
      clear c3
      replace H := Option.bind_eq_some_iff.mp H
      obtain ⟨t129, A40, H⟩ := H
      replace H : (if 1 + t129.size ≤ 9223372036854775807 then (some ((⟨#[45]⟩ : ByteArray) ++ t129)) else (none)) = some r := H
      have A4 := Aside0.mk A40
      clear A40
      by_cases c5 : 1 + t129.size ≤ 9223372036854775807
      · rw [if_pos c5] at H
        have c5b0 := eq_true c5
        have c5b1 : decide (1 + t129.size ≤ 9223372036854775807) = true := decide_eq_true c5
        try have c5b2 : (9223372036854775807 < 1 + t129.size) = False := eq_false (Nat.not_lt.2 c5)
        obtain rfl := Option.some.inj H
        go_enter Tryd.func53, Tryd.ntmps53
        go_wp2_with (first | ((with_reducible refine gate_callee (f := 53) rfl ?_); refine goesL_ (some 9) rfl rfl Tryd.func53 (by kernel_rfl) rfl #[.int .i64 (wrap64 (-a0))] rfl (by (try simp only [List.map_toArray, List.map_cons, List.map_nil]); first | done | rfl | (simp only [List.length_drop, List.length_take]; rfl)) ?_; (with_reducible refine (ih k (by omega) (wrap64 (-a0)) t129 _ A4.out).mono ?_); rintro e w6 ⟨rfl, hb⟩; refine ⟨_, rfl, ?_⟩; have n0_ := Aside0.mk (below_step (by repeat (first | (with_reducible first | exact HB.out | apply below_alloc | apply pw_below_drewN | apply below_drew1) | exact HB.out)) hb); clear HB; have HB := n0_; clear n0_; (try clear hb); (try clear hb2); (try clear hk); (try clear hi)))
        go_ret
        exact ⟨by first | rfl | (simp [errW_none, errW_some] <;> rfl) | (simp [*, errW_none, errW_some] <;> rfl), by repeat (first | (with_reducible first | exact HB.out | apply below_alloc | apply pw_below_drewN | apply below_drew1) | exact HB.out)⟩
      · rw [if_neg c5] at H
        exact absurd H (by simp)
    · rw [if_neg c3] at H
      have c3b0 : decide ((-10) < a0) = false := decide_eq_false c3
      clear c3
      replace H := Option.bind_eq_some_iff.mp H
      obtain ⟨t130, A70, H⟩ := H
      replace H : (if 1 + t130.size ≤ 9223372036854775807 then ((digK.f k (wrap64 (-(Int.tmod a0 10)))).bind fun t131 => (if ((⟨#[45]⟩ : ByteArray) ++ t130).size + t131.size ≤ 9223372036854775807 then (some (((⟨#[45]⟩ : ByteArray) ++ t130) ++ t131)) else (none))) else (none)) = some r := H
      have A7 := Aside0.mk A70
      clear A70
      by_cases c8 : 1 + t130.size ≤ 9223372036854775807
      · rw [if_pos c8] at H
        have c8b0 := eq_true c8
        have c8b1 : decide (1 + t130.size ≤ 9223372036854775807) = true := decide_eq_true c8
        try have c8b2 : (9223372036854775807 < 1 + t130.size) = False := eq_false (Nat.not_lt.2 c8)
        replace H := Option.bind_eq_some_iff.mp H
        obtain ⟨t131, A90, H⟩ := H
        replace H : (if ((⟨#[45]⟩ : ByteArray) ++ t130).size + t131.size ≤ 9223372036854775807 then (some (((⟨#[45]⟩ : ByteArray) ++ t130) ++ t131)) else (none)) = some r := H
        have A9 := Aside0.mk A90
        clear A90
        by_cases c10 : ((⟨#[45]⟩ : ByteArray) ++ t130).size + t131.size ≤ 9223372036854775807
        · rw [if_pos c10] at H
          have c10b0 := eq_true c10
          have c10b1 : decide (((⟨#[45]⟩ : ByteArray) ++ t130).size + t131.size ≤ 9223372036854775807) = true := decide_eq_true c10
          try have c10b2 : (9223372036854775807 < ((⟨#[45]⟩ : ByteArray) ++ t130).size + t131.size) = False := eq_false (Nat.not_lt.2 c10)
          have q10_ : (9223372036854775807 < 1 + t130.size + t131.size) = False := eq_false (by have z_ := c10; rw [ByteArray.size_append] at z_; have e_ : (⟨#[45]⟩ : ByteArray).size = 1 := rfl; rw [e_] at z_; omega)
          have q11_ : (9223372036854775807 < t130.size + 1 + t131.size) = False := eq_false (by have z_ := c10; rw [ByteArray.size_append] at z_; have e_ : (⟨#[45]⟩ : ByteArray).size = 1 := rfl; rw [e_] at z_; omega)
          obtain rfl := Option.some.inj H
          go_enter Tryd.func53, Tryd.ntmps53
          go_wp2_with (first | ((with_reducible refine gate_callee (f := 53) rfl ?_); refine goesL_ (some 14) rfl rfl Tryd.func53 (by kernel_rfl) rfl #[.int .i64 (wrap64 (-(wrap64 (Int.tdiv a0 10))))] rfl (by (try simp only [List.map_toArray, List.map_cons, List.map_nil]); first | done | rfl | (simp only [List.length_drop, List.length_take]; rfl)) ?_; (with_reducible refine (ih k (by omega) (wrap64 (-(wrap64 (Int.tdiv a0 10)))) t130 _ A7.out).mono ?_); rintro e w11 ⟨rfl, hb⟩; refine ⟨_, rfl, ?_⟩; have n0_ := Aside0.mk (below_step (by repeat (first | (with_reducible first | exact HB.out | apply below_alloc | apply pw_below_drewN | apply below_drew1) | exact HB.out)) hb); clear HB; have HB := n0_; clear n0_; (try clear hb); (try clear hb2); (try clear hk); (try clear hi)) | ((with_reducible refine gate_callee (f := 53) rfl ?_); refine goesL_ (some 19) rfl rfl Tryd.func53 (by kernel_rfl) rfl #[.int .i64 (wrap64 (-(Int.tmod a0 10)))] rfl (by (try simp only [List.map_toArray, List.map_cons, List.map_nil]); first | done | rfl | (simp only [List.length_drop, List.length_take]; rfl)) ?_; (with_reducible refine (ih k (by omega) (wrap64 (-(Int.tmod a0 10))) t131 _ A9.out).mono ?_); rintro e w12 ⟨rfl, hb⟩; refine ⟨_, rfl, ?_⟩; have n0_ := Aside0.mk (below_step (by repeat (first | (with_reducible first | exact HB.out | apply below_alloc | apply pw_below_drewN | apply below_drew1) | exact HB.out)) hb); clear HB; have HB := n0_; clear n0_; (try clear hb); (try clear hb2); (try clear hk); (try clear hi)))
          go_ret
          exact ⟨by first | rfl | (simp [errW_none, errW_some] <;> rfl) | (simp [*, errW_none, errW_some] <;> rfl), by repeat (first | (with_reducible first | exact HB.out | apply below_alloc | apply pw_below_drewN | apply below_drew1) | exact HB.out)⟩
        · rw [if_neg c10] at H
          exact absurd H (by simp)
      · rw [if_neg c8] at H
        exact absurd H (by simp)
  · rw [if_neg c2] at H
    have c2b0 : decide (a0 < 0) = false := decide_eq_false c2
    clear c2
    by_cases c13 : a0 < 10
    · rw [if_pos c13] at H
      have c13b0 : decide (a0 < 10) = true := decide_eq_true c13
      clear c13
      by_cases c14 : 0 ≤ a0
      · rw [if_pos c14] at H
        have c14b0 := eq_true c14
        have c14b1 : decide (0 ≤ a0) = true := decide_eq_true c14
        clear c14
        by_cases c15 : a0 ≤ (wrap64 (a0 + 1))
        · rw [if_pos c15] at H
          have c15b0 := eq_true c15
          have c15b1 : decide (a0 ≤ (wrap64 (a0 + 1))) = true := decide_eq_true c15
          by_cases c16 : (wrap64 (a0 + 1)) ≤ 10
          · rw [if_pos c16] at H
            have c16b0 := eq_true c16
            have c16b1 : decide ((wrap64 (a0 + 1)) ≤ 10) = true := decide_eq_true c16
            obtain rfl := Option.some.inj H
            go_enter Tryd.func53, Tryd.ntmps53
            go_wp2
            go_ret
            exact ⟨by first | rfl | (simp [errW_none, errW_some] <;> rfl) | (simp [*, errW_none, errW_some] <;> rfl), by repeat (first | (with_reducible first | exact HB.out | apply below_alloc | apply pw_below_drewN | apply below_drew1) | exact HB.out)⟩
          · rw [if_neg c16] at H
            exact absurd H (by simp)
        · rw [if_neg c15] at H
          exact absurd H (by simp)
      · rw [if_neg c14] at H
        exact absurd H (by simp)
    · rw [if_neg c13] at H
      have c13b0 : decide (a0 < 10) = false := decide_eq_false c13
      clear c13
      replace H := Option.bind_eq_some_iff.mp H
      obtain ⟨t132, A170, H⟩ := H
      replace H : (if 0 ≤ (Int.tmod a0 10) then (if (Int.tmod a0 10) ≤ (wrap64 ((Int.tmod a0 10) + 1)) then (if (wrap64 ((Int.tmod a0 10) + 1)) ≤ 10 then (if t132.size + ((⟨#[48, 49, 50, 51, 52, 53, 54, 55, 56, 57]⟩ : ByteArray).extract ((Int.tmod a0 10) : Int).toNat ((wrap64 ((Int.tmod a0 10) + 1)) : Int).toNat).size ≤ 9223372036854775807 then (some (t132 ++ ((⟨#[48, 49, 50, 51, 52, 53, 54, 55, 56, 57]⟩ : ByteArray).extract ((Int.tmod a0 10) : Int).toNat ((wrap64 ((Int.tmod a0 10) + 1)) : Int).toNat))) else (none)) else (none)) else (none)) else (none)) = some r := H
      have A17 := Aside0.mk A170
      clear A170
      obtain ⟨ji18, hji18⟩ : ∃ j_ : Int, (Int.tmod a0 10) = j_ := ⟨_, rfl⟩
      replace H : (if 0 ≤ (ji18) then (if (ji18) ≤ (wrap64 ((ji18) + 1)) then (if (wrap64 ((ji18) + 1)) ≤ 10 then (if t132.size + ((⟨#[48, 49, 50, 51, 52, 53, 54, 55, 56, 57]⟩ : ByteArray).extract ((ji18) : Int).toNat ((wrap64 ((ji18) + 1)) : Int).toNat).size ≤ 9223372036854775807 then (some (t132 ++ ((⟨#[48, 49, 50, 51, 52, 53, 54, 55, 56, 57]⟩ : ByteArray).extract ((ji18) : Int).toNat ((wrap64 ((ji18) + 1)) : Int).toNat))) else (none)) else (none)) else (none)) else (none)) = some r := by first | (rw [hji18] at H; exact H) | (simp only [hji18] at H ⊢; exact H)
      (try rw [hji18] at A17)
      by_cases c19 : 0 ≤ (ji18)
      · rw [if_pos c19] at H
        have c19b0 := eq_true c19
        have c19b1 : decide (0 ≤ (ji18)) = true := decide_eq_true c19
        clear c19
        by_cases c20 : (ji18) ≤ (wrap64 ((ji18) + 1))
        · rw [if_pos c20] at H
          have c20b0 := eq_true c20
          have c20b1 : decide ((ji18) ≤ (wrap64 ((ji18) + 1))) = true := decide_eq_true c20
          by_cases c21 : (wrap64 ((ji18) + 1)) ≤ 10
          · rw [if_pos c21] at H
            have c21b0 := eq_true c21
            have c21b1 : decide ((wrap64 ((ji18) + 1)) ≤ 10) = true := decide_eq_true c21
            by_cases c22 : t132.size + ((⟨#[48, 49, 50, 51, 52, 53, 54, 55, 56, 57]⟩ : ByteArray).extract ((ji18) : Int).toNat ((wrap64 ((ji18) + 1)) : Int).toNat).size ≤ 9223372036854775807
            · rw [if_pos c22] at H
              have c22b0 := eq_true c22
              have c22b1 : decide (t132.size + ((⟨#[48, 49, 50, 51, 52, 53, 54, 55, 56, 57]⟩ : ByteArray).extract ((ji18) : Int).toNat ((wrap64 ((ji18) + 1)) : Int).toNat).size ≤ 9223372036854775807) = true := decide_eq_true c22
              try have c22b2 : (9223372036854775807 < t132.size + ((⟨#[48, 49, 50, 51, 52, 53, 54, 55, 56, 57]⟩ : ByteArray).extract ((ji18) : Int).toNat ((wrap64 ((ji18) + 1)) : Int).toNat).size) = False := eq_false (Nat.not_lt.2 c22)
              have q2_ : (9223372036854775807 < t132.size + ((wrap64 (ji18 + 1)).toNat - ji18.toNat)) = False := eq_false (by have z_ := c22; rw [ByteArray.size_extract] at z_; have e_ : (⟨#[48, 49, 50, 51, 52, 53, 54, 55, 56, 57]⟩ : ByteArray).size = 10 := rfl; rw [e_] at z_; omega)
              obtain rfl := Option.some.inj H
              go_enter Tryd.func53, Tryd.ntmps53
              try go_wp2
              have n0_ := Aside0.mk (below_drew1 HB.out)
              clear HB
              have HB := n0_
              clear n0_
              refine start_ (n := 11) (S := fun w' => True) (ds := []) #[false, false, false, false, false, false, false, false, false, false, false] (by kernel_rfl) rfl rfl trivial (fun hHeld => ?_); refine with_tabW digK.tab7 digK.bits7 (fun HT_ HW_ => ?_)
              generalize w.drew = w23 at HB hHeld ⊢
              refine pure_ (i := 0) (N := some 27) (v := ?_) (a' := ?_) #[true, false, false, false, false, false, false, false, false, false, false] rfl rfl (any_of HT_.out (by kernel_rfl)) (fun _ _ _ h => h) (Or.inl ⟨by rfl, ?_⟩) ?_ ?_
              rotate_left
              · intro w'
                go_simp
                with_reducible rfl
              rotate_left
              · simp only [Act.put, List.setIfInBounds_toArray, List.set_cons_zero, List.set_cons_succ, i64_w, i32_w]
                rfl
              refine pure_ (i := 1) (N := some 28) (v := ?_) (a' := ?_) #[true, true, false, false, false, false, false, false, false, false, false] rfl rfl (any_of HT_.out (by kernel_rfl)) (fun _ _ _ h => h) (Or.inl ⟨by rfl, ?_⟩) ?_ ?_
              rotate_left
              · intro w'
                go_simp
                with_reducible rfl
              rotate_left
              · simp only [Act.put, List.setIfInBounds_toArray, List.set_cons_zero, List.set_cons_succ, i64_w, i32_w]
                rfl
              refine pure_ (i := 3) (N := some 30) (v := ?_) (a' := ?_) #[true, true, false, true, false, false, false, false, false, false, false] rfl rfl (any_of HT_.out (by kernel_rfl)) (fun _ _ _ h => h) (Or.inl ⟨by rfl, ?_⟩) ?_ ?_
              rotate_left
              · intro w'
                go_simp
                with_reducible rfl
              rotate_left
              · simp only [Act.put, List.setIfInBounds_toArray, List.set_cons_zero, List.set_cons_succ, i64_w, i32_w]
                rfl
              refine pure_ (i := 4) (N := some 31) (v := ?_) (a' := ?_) #[true, true, false, true, true, false, false, false, false, false, false] rfl rfl (any_of HT_.out (by kernel_rfl)) (fun _ _ _ h => h) (Or.inl ⟨by rfl, ?_⟩) ?_ ?_
              rotate_left
              · intro w'
                go_simp
                with_reducible rfl
              rotate_left
              · simp only [Act.put, List.setIfInBounds_toArray, List.set_cons_zero, List.set_cons_succ, i64_w, i32_w]
                rfl
              refine pure_ (i := 5) (N := some 32) (v := ?_) (a' := ?_) #[true, true, false, true, true, true, false, false, false, false, false] rfl rfl (any_of HT_.out (by kernel_rfl)) (fun _ _ _ h => h) (Or.inl ⟨by rfl, ?_⟩) ?_ ?_
              rotate_left
              · intro w'
                go_simp
                with_reducible rfl
              rotate_left
              · simp only [Act.put, List.setIfInBounds_toArray, List.set_cons_zero, List.set_cons_succ, i64_w, i32_w]
                rfl
              refine pure_ (i := 6) (N := some 33) (v := ?_) (a' := ?_) #[true, true, false, true, true, true, true, false, false, false, false] rfl rfl (any_of HT_.out (by kernel_rfl)) (fun _ _ _ h => h) (Or.inl ⟨by rfl, ?_⟩) ?_ ?_
              rotate_left
              · intro w'
                go_simp
                with_reducible rfl
              rotate_left
              · simp only [Act.put, List.setIfInBounds_toArray, List.set_cons_zero, List.set_cons_succ, i64_w, i32_w]
                rfl
              refine pure_ (i := 7) (N := some 34) (v := ?_) (a' := ?_) #[true, true, false, true, true, true, true, true, false, false, false] rfl rfl (any_of HT_.out (by kernel_rfl)) (fun _ _ _ h => h) (Or.inl ⟨by rfl, ?_⟩) ?_ ?_
              rotate_left
              · intro w'
                go_simp
                with_reducible rfl
              rotate_left
              · simp only [Act.put, List.setIfInBounds_toArray, List.set_cons_zero, List.set_cons_succ, i64_w, i32_w]
                rfl
              refine pure_ (i := 8) (N := some 35) (v := ?_) (a' := ?_) #[true, true, false, true, true, true, true, true, true, false, false] rfl rfl (any_of HT_.out (by kernel_rfl)) (fun _ _ _ h => h) (Or.inl ⟨by rfl, ?_⟩) ?_ ?_
              rotate_left
              · intro w'
                go_simp
                with_reducible rfl
              rotate_left
              · simp only [Act.put, List.setIfInBounds_toArray, List.set_cons_zero, List.set_cons_succ, i64_w, i32_w]
                rfl
              refine one_ (i := 2) (N := some 29) #[true, true, true, true, true, true, true, true, true, false, false] rfl rfl (one_of HT_.out (by kernel_rfl)) (by decide) (fun K hK => ?_)
              refine goes_ Tryd.func53 (by kernel_rfl) rfl #[.int .i64 (wrap64 (Int.tdiv a0 10))] (by rfl) rfl rfl (by (try simp only [List.map_toArray, List.map_cons, List.map_nil]); first | done | rfl | (simp only [List.length_drop, List.length_take]; rfl)) ?_
              with_reducible refine (ih k (by omega) (wrap64 (Int.tdiv a0 10)) t132 _ A17.out).mono ?_
              rintro e w24 ⟨rfl, hb⟩
              refine ⟨_, rfl, ?_⟩
              have n0_ := Aside0.mk (below_step (by repeat (first | (with_reducible first | exact HB.out | apply below_alloc | apply pw_below_drewN | apply below_drew1) | exact HB.out)) hb)
              clear HB
              have HB := n0_
              clear n0_
              (try clear hb)
              (try clear hb2)
              (try clear hk)
              (try clear hi)
              refine hK.out _ _ trivial (fun hHeld => ?_)
              clear hK K
              refine norm_ (a' := ?_) ?_ ?_
              rotate_left
              · show Act.put _ (some 29) _ = _
                simp only [Act.put, List.setIfInBounds_toArray, List.set_cons_zero, List.set_cons_succ, i64_w, i32_w]
                rfl
              refine pure_ (i := 9) (N := some 36) (v := ?_) (a' := ?_) #[true, true, true, true, true, true, true, true, true, true, false] rfl rfl (any_of HT_.out (by kernel_rfl)) (fun _ _ _ h => h) (Or.inl ⟨by rfl, ?_⟩) ?_ ?_
              rotate_left
              · intro w'
                go_simp
                with_reducible rfl
              rotate_left
              · simp only [Act.put, List.setIfInBounds_toArray, List.set_cons_zero, List.set_cons_succ, i64_w, i32_w]
                rfl
              refine pure_ (i := 10) (N := some 2) (v := ?_) (a' := ?_) #[true, true, true, true, true, true, true, true, true, true, true] rfl rfl (any_of HT_.out (by kernel_rfl)) (fun _ _ _ h => h) (Or.inl ⟨by rfl, ?_⟩) ?_ ?_
              rotate_left
              · intro w'
                go_simp
                with_reducible rfl
              rotate_left
              · simp only [Act.put, List.setIfInBounds_toArray, List.set_cons_zero, List.set_cons_succ, i64_w, i32_w]
                rfl
              refine done_ (done_of HT_.out (by kernel_rfl)) ?_
              try go_wp2
              go_ret
              exact ⟨by first | rfl | (simp [errW_none, errW_some] <;> rfl) | (simp only [← hji18]; first | rfl | (simp [errW_none, errW_some] <;> rfl)) | (simp [*, errW_none, errW_some] <;> rfl), by repeat (first | (with_reducible first | exact HB.out | apply below_alloc | apply pw_below_drewN | apply below_drew1) | exact HB.out)⟩
            · rw [if_neg c22] at H
              exact absurd H (by simp)
          · rw [if_neg c21] at H
            exact absurd H (by simp)
        · rw [if_neg c20] at H
          exact absurd H (by simp)
      · rw [if_neg c19] at H
        exact absurd H (by simp)


/-! ### What the digits are -/
theorem w64_of {x : Int} (h0 : -9223372036854775808 ≤ x) (h1 : x ≤ 9223372036854775807) : wrap64 x = x := by unfold wrap64; omega
theorem ba_ext {a b : ByteArray} (h : a.data.toList = b.data.toList) : a = b := by
  cases a; cases b; simp at h; subst h; rfl
theorem ba_append (a b : List UInt8) : (⟨a.toArray⟩ : ByteArray) ++ ⟨b.toArray⟩ = ⟨(a ++ b).toArray⟩ := ba_ext (by simp)
theorem ba_size (l : List UInt8) : (⟨l.toArray⟩ : ByteArray).size = l.length := by simp [ByteArray.size]
theorem digit_cut : ∀ d : Nat, d < 10 → (⟨#[48, 49, 50, 51, 52, 53, 54, 55, 56, 57]⟩ : ByteArray).extract d (d + 1) = ⟨[UInt8.ofNat (48 + d)].toArray⟩ := by
  intro d hd
  match d, hd with
  | 0, _ => rfl
  | 1, _ => rfl
  | 2, _ => rfl
  | 3, _ => rfl
  | 4, _ => rfl
  | 5, _ => rfl
  | 6, _ => rfl
  | 7, _ => rfl
  | 8, _ => rfl
  | 9, _ => rfl
theorem decDigits_len (u : Nat) : (Lib.decDigits u).length ≤ u + 1 := by
  induction u using Nat.strongRecOn with
  | _ u ih =>
    rw [Lib.decDigits]
    split
    · simp
    · have := ih (u / 10) (by omega)
      simp
      omega
theorem digK_nat (u : Nat) : ∀ k, u < k → (u : Int) ≤ 9223372036854775807 → digK.f k u = some ⟨(Lib.decDigits u).toArray⟩ := by
  induction u using Nat.strongRecOn with
  | _ u ih =>
    intro k hk h1
    obtain ⟨k, rfl⟩ : ∃ m, k = m + 1 := ⟨k - 1, by omega⟩
    rw [digK.f, if_neg (by omega), Lib.decDigits]
    by_cases h : u < 10
    · rw [if_pos (by omega), if_pos (by omega), w64_of (by omega) (by omega), if_pos (by omega), if_pos (by omega), dif_pos h]
      rw [show ((u : Int) + 1).toNat = u + 1 from by omega, Int.toNat_natCast, digit_cut u h]
    · rw [if_neg (by omega), dif_neg h]
      have e1 : Int.tdiv (u : Int) 10 = ((u / 10 : Nat) : Int) := by rw [Int.tdiv_eq_ediv_of_nonneg (by omega)]; omega
      have e2 : Int.tmod (u : Int) 10 = ((u % 10 : Nat) : Int) := by rw [Int.tmod_eq_emod_of_nonneg (by omega)]; omega
      rw [e1, e2, w64_of (x := ((u / 10 : Nat) : Int)) (by omega) (by omega), ih (u / 10) (by omega) k (by omega) (by omega), Option.bind_some, w64_of (x := ((u % 10 : Nat) : Int) + 1) (by omega) (by omega),
        if_pos (by omega), if_pos (by omega), if_pos (by omega), show (((u % 10 : Nat) : Int) + 1).toNat = u % 10 + 1 from by omega, Int.toNat_natCast, digit_cut (u % 10) (by omega), ba_append, ba_size, ba_size]
      have := decDigits_len (u / 10)
      rw [if_pos (by simp; omega)]
theorem digK_of (n : Int) (h0 : -9223372036854775808 ≤ n) (h1 : n ≤ 9223372036854775807) : ∃ k, digK.f k n = some (itoaB n) := by
  unfold itoaB Lib.itoa
  by_cases h : n < 0
  · obtain ⟨m, rfl⟩ : ∃ m : Nat, n = -(m : Int) := ⟨n.natAbs, by omega⟩
    refine ⟨m + 2, ?_⟩
    have em : (-(m : Int)).natAbs = m := by omega
    rw [if_pos h, digK.f, if_pos h, em]
    by_cases h2 : -(m : Int) > -10
    · rw [if_pos h2, show - -(m : Int) = m from by omega, w64_of (by omega) (by omega), digK_nat m (m + 1) (by omega) (by omega), Option.bind_some, show (⟨#[45]⟩ : ByteArray) = ⟨[45].toArray⟩ from rfl, ba_append, ba_size]
      have := decDigits_len m
      rw [if_pos (by omega)]
      rfl
    · rw [if_neg h2]
      have e1 : Int.tdiv (-(m : Int)) 10 = -((m / 10 : Nat) : Int) := by rw [Int.neg_tdiv, Int.tdiv_eq_ediv_of_nonneg (by omega)]; omega
      have e2 : Int.tmod (-(m : Int)) 10 = -((m % 10 : Nat) : Int) := by rw [Int.neg_tmod, Int.tmod_eq_emod_of_nonneg (by omega)]; omega
      have hl := decDigits_len (m / 10)
      rw [e1, e2, w64_of (x := -((m / 10 : Nat) : Int)) (by omega) (by omega), show - -((m / 10 : Nat) : Int) = ((m / 10 : Nat) : Int) from by omega, show - -((m % 10 : Nat) : Int) = ((m % 10 : Nat) : Int) from by omega,
        w64_of (x := ((m / 10 : Nat) : Int)) (by omega) (by omega), w64_of (x := ((m % 10 : Nat) : Int)) (by omega) (by omega), digK_nat (m / 10) (m + 1) (by omega) (by omega), Option.bind_some, ba_size, if_pos (by omega),
        digK_nat (m % 10) (m + 1) (by omega) (by omega), Option.bind_some, show (⟨#[45]⟩ : ByteArray) = ⟨[45].toArray⟩ from rfl, ba_append, ba_append, ba_size, ba_size]
      have e3 : Lib.decDigits m = Lib.decDigits (m / 10) ++ Lib.decDigits (m % 10) := by
        rw [Lib.decDigits, dif_neg (show ¬ m < 10 by omega), Lib.decDigits.eq_1 (m % 10), dif_pos (show m % 10 < 10 by omega)]
      have hl2 := decDigits_len (m % 10)
      rw [if_pos (by simp; omega), e3]
      simp
  · obtain ⟨m, rfl⟩ : ∃ m : Nat, n = m := ⟨n.toNat, by omega⟩
    exact ⟨m + 1, by rw [if_neg h, Int.toNat_natCast]; exact digK_nat m (m + 1) (by omega) h1⟩
theorem hourglassref06_Digits.calls (a0 : Int) (r : ByteArray) (w : World) (h : hourglassref06_Digits.f a0 = some r) :
    Calls Tryd.prog 53 #[.int .i64 a0] w fun e w' => e = .returned (.string r) ∧ Below w.heap.size w w' := by
  unfold hourglassref06_Digits.f at h
  split at h
  · rename_i hb
    obtain ⟨k, hk⟩ := digK_of a0 hb.1 hb.2
    exact digK.calls k a0 r w (hk.trans h)
  · cases h
end Go.Proofs.YthfjjdkaplibmaaDoor.Pr

namespace Go.Proofs.YthfjjdkaplibmaaDoor.Pr
open Go.RowKit Go.Proofs.YthfjjdkaplibmaaDoorW.PrintWords
set_option maxRecDepth 100000 in
theorem code_names_calls (w : World) :
    Calls Tryd.prog 78 #[] w fun e w' => (∃ v, e = .returned v) ∧ Below w.heap.size w w' := by
  go_enter Tryd.func78, Tryd.ntmps78
  go_wp2
  refine bodyPost_ret (v := .agg #[.string ⟨#[79, 75]⟩, .string ⟨#[67, 65, 78, 67, 69, 76, 76, 69, 68]⟩, .string ⟨#[85, 78, 75, 78, 79, 87, 78]⟩, .string ⟨#[73, 78, 86, 65, 76, 73, 68, 95, 65, 82, 71, 85, 77, 69, 78, 84]⟩, .string ⟨#[68, 69, 65, 68, 76, 73, 78, 69, 95, 69, 88, 67, 69, 69, 68, 69, 68]⟩, .string ⟨#[78, 79, 84, 95, 70, 79, 85, 78, 68]⟩, .string ⟨#[65, 76, 82, 69, 65, 68, 89, 95, 69, 88, 73, 83, 84, 83]⟩, .string ⟨#[80, 69, 82, 77, 73, 83, 83, 73, 79, 78, 95, 68, 69, 78, 73, 69, 68]⟩, .string ⟨#[82, 69, 83, 79, 85, 82, 67, 69, 95, 69, 88, 72, 65, 85, 83, 84, 69, 68]⟩, .string ⟨#[70, 65, 73, 76, 69, 68, 95, 80, 82, 69, 67, 79, 78, 68, 73, 84, 73, 79, 78]⟩, .string ⟨#[65, 66, 79, 82, 84, 69, 68]⟩, .string ⟨#[79, 85, 84, 95, 79, 70, 95, 82, 65, 78, 71, 69]⟩, .string ⟨#[85, 78, 73, 77, 80, 76, 69, 77, 69, 78, 84, 69, 68]⟩, .string ⟨#[73, 78, 84, 69, 82, 78, 65, 76]⟩, .string ⟨#[85, 78, 65, 86, 65, 73, 76, 65, 66, 76, 69]⟩, .string ⟨#[68, 65, 84, 65, 95, 76, 79, 83, 83]⟩, .string ⟨#[85, 78, 65, 85, 84, 72, 69, 78, 84, 73, 67, 65, 84, 69, 68]⟩]) (by simp [results, go_sem]) rfl ?_
  exact ⟨⟨_, rfl⟩, (Below.refl _ _).alloc (Nat.le_refl _) _⟩
end Go.Proofs.YthfjjdkaplibmaaDoor.Pr

namespace Go.Proofs.YthfjjdkaplibmaaDoor.Pr
open Go.RowKit Go.Proofs.YthfjjdkaplibmaaDoorW.PrintWords Go.Proofs.YthfjjdkaplibmaaDoorW.PrintLast Go.Proofs.YthfjjdkaplibmaaDoorW.PrintMore
set_option linter.unusedVariables false
set_option linter.unusedSimpArgs false

theorem strconv_Itoa.calls (a0 : Int) (r : ByteArray) (w : World) (h : strconv_Itoa.f a0 = some r) (hE : Env w) :
    Calls Tryd.prog 49 #[.int .i64 a0] w fun e w' => e = .returned (.string r) ∧ Below w.heap.size w w' := by
  unfold strconv_Itoa.f at h
  split at h
  · rename_i hb
    refine (Tryd.strconv_Itoa a0 hb.1 hb.2 w hE.tab).mono ?_
    rintro e w' ⟨rfl, k, os, rfl⟩
    obtain rfl := Option.some.inj h
    exact ⟨rfl, Lib.below_grow _ _ (Nat.le_refl _) k os⟩
  · cases h

theorem strings_Join.calls (A0 : Option Addr) (c0 : Nat) (l0 : List ByteArray) (a1 : ByteArray) (r : ByteArray) (w : World) (hr0 : Kd.C Kd.string w A0 l0.length l0) (hc0 : l0.length ≤ c0) (h : strings_Join.f l0 a1 = some r) :
    Calls Tryd.prog 61 #[.slice A0 l0.length c0, .string a1] w fun e w' => e = .returned (.string r) ∧ Below w.heap.size w w' := by
  unfold strings_Join.f at h
  split at h
  · rename_i hb
    obtain rfl := Option.some.inj h
    cases l0 with
    | nil =>
      refine (Tryd.strings_Join_none A0 c0 a1 w).mono ?_
      rintro e w' ⟨rfl, rfl⟩
      exact ⟨rfl, Below.refl _ _⟩
    | cons x l =>
      obtain ⟨_, hm, hc⟩ := hr0
      obtain ⟨ad, rfl, hcell⟩ := hc (by simp)
      have hcell' : ∀ j p, (x :: l)[j]? = some p → w.cell? (ad.add j) = some (.string p) := by
        intro j p hp
        obtain ⟨c, hl, hR, hcc⟩ := hcell j p hp
        have hR' : c = [.string p] := hR
        subst hR'
        have := hcc 0 _ rfl
        simpa [Kd.string, Kd.scalar] using this
      have h0 := hcell' 0 x rfl
      have hs : ad.spot = none := by
        rw [show ad.add 0 = ad from by simp [Addr.add]] at h0
        unfold World.cell? at h0
        split at h0
        · cases hsp : ad.spot with
          | none => rfl
          | some q => rw [hsp] at h0; simp at h0
        · cases h0
      obtain ⟨b, o, sp⟩ := ad
      simp only at hs
      subst hs
      have hadd : ∀ j, (⟨b, o, none⟩ : Addr).add j = ⟨b, o + j, none⟩ := by intro j; unfold Addr.add; split <;> simp_all
      refine (Tryd.strings_Join b o c0 (x :: l) a1 w (fun j p hp => by rw [← hadd]; exact hcell' j p hp) (by rw [hadd] at h0; exact lt_of_cell' h0) hb.1 hc0 hb.2).mono ?_
      rintro e w' ⟨rfl, hb'⟩
      exact ⟨rfl, hb'⟩
  · cases h

theorem code_Right.calls (a0 : Int) (r : Bool) (w : World) (h : code_Right.f a0 = some r) :
    Calls Tryd.prog 57 #[.int .i64 a0] w fun e w' => e = .returned (.bool r) ∧ Below w.heap.size w w' := by
  obtain rfl := Option.some.inj h
  by_cases h0 : 0 ≤ a0
  · by_cases h1 : a0 < 17
    · have k0 : decide (0 ≤ a0) = true := decide_eq_true h0
      have k1 : decide (a0 < 17) = true := decide_eq_true h1
      rw [show decide (0 ≤ a0 ∧ a0 < 17) = true from decide_eq_true ⟨h0, h1⟩]
      go_enter Tryd.func57, Tryd.ntmps57
      go_wp2_with (go_at_call 78; refine (code_names_calls _).mono ?_; rintro e w' ⟨⟨v, rfl⟩, hb⟩)
      go_ret
      exact ⟨rfl, hb⟩
    · have k0 : decide (0 ≤ a0) = true := decide_eq_true h0
      have k1 : decide (a0 < 17) = false := decide_eq_false h1
      rw [show decide (0 ≤ a0 ∧ a0 < 17) = false from decide_eq_false (fun h => h1 h.2)]
      go_enter Tryd.func57, Tryd.ntmps57
      go_wp2_with (go_at_call 78; refine (code_names_calls _).mono ?_; rintro e w' ⟨⟨v, rfl⟩, hb⟩)
      go_ret
      exact ⟨rfl, hb⟩
  · have k0 : decide (0 ≤ a0) = false := decide_eq_false h0
    rw [show decide (0 ≤ a0 ∧ a0 < 17) = false from decide_eq_false (fun h => h0 h.1)]
    go_enter Tryd.func57, Tryd.ntmps57
    go_wp2
    go_ret
    exact ⟨rfl, Below.refl _ _⟩

theorem script_has_f (a : Int) : script_has.f 2 a = some (sHas a : Int) := by
  unfold script_has.f sHas
  by_cases h2 : a = 2
  · subst h2; rfl
  · by_cases h4 : a = 4
    · subst h4; rfl
    · by_cases h10 : a = 10
      · subst h10; rfl
      · rw [if_neg h2, if_neg h4]
        have e : (a == 10) = false := by simp [h10]
        rw [e]
        simp [script_has.j0, h2, h4, h10]
        by_cases h8 : a = 8
        · subst h8; rfl
        · by_cases h9 : a = 9
          · subst h9; rfl
          · simp [h8, h9]
theorem script_is_f (a : Int) : script_is.f a = some (decide (1 ≤ a ∧ a ≤ 11)) := by
  unfold script_is.f
  by_cases h : a ≥ 1
  · rw [if_pos h]; congr 1; simp only [decide_eq_decide]; omega
  · rw [if_neg h]; congr 1; symm; simp only [decide_eq_false_iff_not]; omega
theorem script_is_yes (a : Int) (h : 1 ≤ a) (h2 : a ≤ 11) (w : World) : Calls Tryd.prog 47 #[.int .i64 a] w fun e w' => e = .returned (.bool true) ∧ ∃ n, w' = w.drewN n :=
  (script_is.calls a true w (by rw [script_is_f, decide_eq_true ⟨h, h2⟩])).mono fun e w' ⟨he, hw⟩ => ⟨he, hw.out⟩
theorem script_is_no (a : Int) (h : ¬ (1 ≤ a ∧ a ≤ 11)) (w : World) : Calls Tryd.prog 47 #[.int .i64 a] w fun e w' => e = .returned (.bool false) ∧ ∃ n, w' = w.drewN n :=
  (script_is.calls a false w (by rw [script_is_f, decide_eq_false h])).mono fun e w' ⟨he, hw⟩ => ⟨he, hw.out⟩
def sHasI (k : Int) : Int := sHas k
theorem script_has_calls (a : Int) (w : World) : Calls Tryd.prog 48 #[.int .i64 a] w fun e w' => e = .returned (.int .i64 (sHasI a)) ∧ ∃ n, w' = w.drewN n :=
  (script_has.calls 2 a _ w (script_has_f a)).mono fun e w' ⟨he, hw⟩ => ⟨he, hw.out⟩

/-- The i-th number of a step of the kind k: may it be? -/
def okNum (k : Int) (i : Nat) (n : Int) : Bool := inMost n && (decide (i < sHas k) || n == 0)
theorem sHas_pos (k : Int) : 1 ≤ sHas k ∧ sHas k ≤ 4 := by unfold sHas; split <;> (try split) <;> (try split) <;> omega
theorem sRight_eq (k a b c d : Int) (h1 : 1 ≤ k) (h2 : k ≤ 11) : sRight k a b c d = (okNum k 0 a && okNum k 1 b && okNum k 2 c && okNum k 3 d) := by
  have hp := sHas_pos k
  unfold sRight okNum
  rw [decide_eq_true (show 1 ≤ k ∧ k ≤ 11 from ⟨h1, h2⟩), decide_eq_true (show 0 < sHas k by omega)]
  have e1 : decide (1 < sHas k) = decide (2 ≤ sHas k) := by simp only [decide_eq_decide]; omega
  have e2 : decide (2 < sHas k) = decide (3 ≤ sHas k) := by simp only [decide_eq_decide]; omega
  have e3 : decide (3 < sHas k) = decide (4 ≤ sHas k) := by simp only [decide_eq_decide]; omega
  rw [e1, e2, e3]
  cases inMost a <;> cases inMost b <;> cases inMost c <;> cases inMost d <;> simp
/-- The four ways of a number. -/
theorem okNum_ways (k : Int) (i : Nat) (n : Int) :
    (okNum k i n = false ∧ decide (n < -1125899906842624) = true) ∨
    (okNum k i n = false ∧ decide (n < -1125899906842624) = false ∧ decide (1125899906842624 < n) = true) ∨
    (okNum k i n = false ∧ decide (n < -1125899906842624) = false ∧ decide (1125899906842624 < n) = false ∧ decide (sHasI k ≤ i) = true ∧ (n != 0) = true) ∨
    (okNum k i n = true ∧ decide (n < -1125899906842624) = false ∧ decide (1125899906842624 < n) = false ∧ decide (sHasI k ≤ i) = true ∧ (n != 0) = false) ∨
    (okNum k i n = true ∧ decide (n < -1125899906842624) = false ∧ decide (1125899906842624 < n) = false ∧ decide (sHasI k ≤ i) = false) := by
  unfold okNum inMost
  by_cases h1 : n < -1125899906842624
  · exact .inl ⟨by rw [decide_eq_false (show ¬ (-1125899906842624 ≤ n ∧ n ≤ 1125899906842624) by omega)]; rfl, decide_eq_true h1⟩
  · by_cases h2 : 1125899906842624 < n
    · exact .inr (.inl ⟨by rw [decide_eq_false (show ¬ (-1125899906842624 ≤ n ∧ n ≤ 1125899906842624) by omega)]; rfl, decide_eq_false h1, decide_eq_true h2⟩)
    · rw [decide_eq_true (show -1125899906842624 ≤ n ∧ n ≤ 1125899906842624 by omega)]
      have hsi : sHasI k = (sHas k : Int) := rfl
      by_cases h3 : sHasI k ≤ i
      · rw [decide_eq_false (show ¬ i < sHas k by omega), decide_eq_true h3]
        by_cases h4 : n = 0
        · subst h4; exact .inr (.inr (.inr (.inl ⟨by simp, decide_eq_false h1, decide_eq_false h2, rfl, by simp⟩)))
        · exact .inr (.inr (.inl ⟨by simp [h4], decide_eq_false h1, decide_eq_false h2, rfl, by simp [h4]⟩))
      · rw [decide_eq_true (show i < sHas k by omega)]
        exact .inr (.inr (.inr (.inr ⟨by simp, decide_eq_false h1, decide_eq_false h2, decide_eq_false h3⟩)))

def RightTo (k a b c d : Int) : Nat → Prop
  | 0 => True
  | 1 => okNum k 0 a = true
  | 2 => okNum k 0 a = true ∧ okNum k 1 b = true
  | 3 => okNum k 0 a = true ∧ okNum k 1 b = true ∧ okNum k 2 c = true
  | _ => okNum k 0 a = true ∧ okNum k 1 b = true ∧ okNum k 2 c = true ∧ okNum k 3 d = true

set_option maxHeartbeats 1000000 in
theorem script_Right_in (k a b c d : Int) (w : World) (hk : 1 ≤ k) (hk2 : k ≤ 11) :
    Calls Tryd.prog 16 #[.agg #[.int .i64 k, .int .i64 a, .int .i64 b, .int .i64 c, .int .i64 d]] w fun e w' => e = .returned (.bool (sRight k a b c d)) ∧ Below w.heap.size w w' := by
  have hr := Lib.hid (sRight_eq k a b c d hk hk2)
  have i0 : ∀ w, (Instr.index 70 (.agg #[.int .i64 a, .int .i64 b, .int .i64 c, .int .i64 d]) (.int .i64 0)).run Tryd.prog w = .ok (.int .i64 a) w := fun _ => by kernel_rfl
  have i1 : ∀ w, (Instr.index 70 (.agg #[.int .i64 a, .int .i64 b, .int .i64 c, .int .i64 d]) (.int .i64 1)).run Tryd.prog w = .ok (.int .i64 b) w := fun _ => by kernel_rfl
  have i2 : ∀ w, (Instr.index 70 (.agg #[.int .i64 a, .int .i64 b, .int .i64 c, .int .i64 d]) (.int .i64 2)).run Tryd.prog w = .ok (.int .i64 c) w := fun _ => by kernel_rfl
  have i3 : ∀ w, (Instr.index 70 (.agg #[.int .i64 a, .int .i64 b, .int .i64 c, .int .i64 d]) (.int .i64 3)).run Tryd.prog w = .ok (.int .i64 d) w := fun _ => by kernel_rfl
  go_enter Tryd.func16, Tryd.ntmps16
  go_wp2_with (first | (go_at_call 47; refine (script_is_yes k hk hk2 _).mono ?_; rintro e w' ⟨rfl, n1, rfl⟩))
  go_loopw [18] (fun i wr => ∃ j : Nat, j ≤ 4 ∧ i = .int .i64 j ∧ Aside0 (RightTo k a b c d j) ∧ ∃ n, wr = (w.alloc (.cells #[.int .i64 k, .int .i64 a, .int .i64 b, .int .i64 c, .int .i64 d] 24)).drewN n) (fun i _ => 4 - (intOf i).toNat)
  case atStart => exact ⟨0, by omega, rfl, ⟨trivial⟩, n1, rfl⟩
  case round =>
    obtain ⟨j, hj, rfl, hG, n, rfl⟩ := hrel
    have HB : Aside0 (∀ m, Below w.heap.size w ((w.alloc (.cells #[.int .i64 k, .int .i64 a, .int .i64 b, .int .i64 c, .int .i64 d] 24)).drewN m)) := ⟨fun m => pw_below_drewN ((Below.refl _ _).alloc (Nat.le_refl _) _) m⟩
    match j, hj, hG with
    | 0, _, hG =>
      rcases okNum_ways k 0 a with ⟨h0, h1⟩ | ⟨h0, h1, h2⟩ | ⟨h0, h1, h2, h3, h4⟩ | ⟨h0, h1, h2, h3, h4⟩ | ⟨h0, h1, h2, h3⟩
      · have H0 := Lib.hid h0
        clear h0
        (try simp only [Int.cast_ofNat_Int, Int.ofNat_zero, Int.natCast_zero, Int.natCast_one] at h3)
        go_wp2_with (go_at_call 48; refine (script_has_calls k _).mono ?_; rintro e w' ⟨rfl, n2, rfl⟩)
        go_ret
        exact ⟨by rw [hr.out, H0.out]; simp, HB.out _⟩
      · have H0 := Lib.hid h0
        clear h0
        (try simp only [Int.cast_ofNat_Int, Int.ofNat_zero, Int.natCast_zero, Int.natCast_one] at h3)
        go_wp2_with (go_at_call 48; refine (script_has_calls k _).mono ?_; rintro e w' ⟨rfl, n2, rfl⟩)
        go_ret
        exact ⟨by rw [hr.out, H0.out]; simp, HB.out _⟩
      · have H0 := Lib.hid h0
        clear h0
        (try simp only [Int.cast_ofNat_Int, Int.ofNat_zero, Int.natCast_zero, Int.natCast_one] at h3)
        go_wp2_with (go_at_call 48; refine (script_has_calls k _).mono ?_; rintro e w' ⟨rfl, n2, rfl⟩)
        go_ret
        exact ⟨by rw [hr.out, H0.out]; simp, HB.out _⟩
      · have H0 := Lib.hid h0
        clear h0
        (try simp only [Int.cast_ofNat_Int, Int.ofNat_zero, Int.natCast_zero, Int.natCast_one] at h3)
        go_wp2_with (go_at_call 48; refine (script_has_calls k _).mono ?_; rintro e w' ⟨rfl, n2, rfl⟩)
        go_roundw
        case rel => exact ⟨1, by omega, by rfl, ⟨H0.out⟩, _, rfl⟩
        case measure => simp [intOf]
      · have H0 := Lib.hid h0
        clear h0
        (try simp only [Int.cast_ofNat_Int, Int.ofNat_zero, Int.natCast_zero, Int.natCast_one] at h3)
        go_wp2_with (go_at_call 48; refine (script_has_calls k _).mono ?_; rintro e w' ⟨rfl, n2, rfl⟩)
        go_roundw
        case rel => exact ⟨1, by omega, by rfl, ⟨H0.out⟩, _, rfl⟩
        case measure => simp [intOf]
    | 1, _, hG =>
      rcases okNum_ways k 1 b with ⟨h0, h1⟩ | ⟨h0, h1, h2⟩ | ⟨h0, h1, h2, h3, h4⟩ | ⟨h0, h1, h2, h3, h4⟩ | ⟨h0, h1, h2, h3⟩
      · have H0 := Lib.hid h0
        clear h0
        (try simp only [Int.cast_ofNat_Int, Int.ofNat_zero, Int.natCast_zero, Int.natCast_one] at h3)
        go_wp2_with (go_at_call 48; refine (script_has_calls k _).mono ?_; rintro e w' ⟨rfl, n2, rfl⟩)
        go_ret
        exact ⟨by rw [hr.out, H0.out]; simp, HB.out _⟩
      · have H0 := Lib.hid h0
        clear h0
        (try simp only [Int.cast_ofNat_Int, Int.ofNat_zero, Int.natCast_zero, Int.natCast_one] at h3)
        go_wp2_with (go_at_call 48; refine (script_has_calls k _).mono ?_; rintro e w' ⟨rfl, n2, rfl⟩)
        go_ret
        exact ⟨by rw [hr.out, H0.out]; simp, HB.out _⟩
      · have H0 := Lib.hid h0
        clear h0
        (try simp only [Int.cast_ofNat_Int, Int.ofNat_zero, Int.natCast_zero, Int.natCast_one] at h3)
        go_wp2_with (go_at_call 48; refine (script_has_calls k _).mono ?_; rintro e w' ⟨rfl, n2, rfl⟩)
        go_ret
        exact ⟨by rw [hr.out, H0.out]; simp, HB.out _⟩
      · have H0 := Lib.hid h0
        clear h0
        (try simp only [Int.cast_ofNat_Int, Int.ofNat_zero, Int.natCast_zero, Int.natCast_one] at h3)
        go_wp2_with (go_at_call 48; refine (script_has_calls k _).mono ?_; rintro e w' ⟨rfl, n2, rfl⟩)
        go_roundw
        case rel => exact ⟨2, by omega, by rfl, ⟨⟨hG.out, H0.out⟩⟩, _, rfl⟩
        case measure => simp [intOf]
      · have H0 := Lib.hid h0
        clear h0
        (try simp only [Int.cast_ofNat_Int, Int.ofNat_zero, Int.natCast_zero, Int.natCast_one] at h3)
        go_wp2_with (go_at_call 48; refine (script_has_calls k _).mono ?_; rintro e w' ⟨rfl, n2, rfl⟩)
        go_roundw
        case rel => exact ⟨2, by omega, by rfl, ⟨⟨hG.out, H0.out⟩⟩, _, rfl⟩
        case measure => simp [intOf]
    | 2, _, hG =>
      rcases okNum_ways k 2 c with ⟨h0, h1⟩ | ⟨h0, h1, h2⟩ | ⟨h0, h1, h2, h3, h4⟩ | ⟨h0, h1, h2, h3, h4⟩ | ⟨h0, h1, h2, h3⟩
      · have H0 := Lib.hid h0
        clear h0
        (try simp only [Int.cast_ofNat_Int, Int.ofNat_zero, Int.natCast_zero, Int.natCast_one] at h3)
        go_wp2_with (go_at_call 48; refine (script_has_calls k _).mono ?_; rintro e w' ⟨rfl, n2, rfl⟩)
        go_ret
        exact ⟨by rw [hr.out, H0.out]; simp, HB.out _⟩
      · have H0 := Lib.hid h0
        clear h0
        (try simp only [Int.cast_ofNat_Int, Int.ofNat_zero, Int.natCast_zero, Int.natCast_one] at h3)
        go_wp2_with (go_at_call 48; refine (script_has_calls k _).mono ?_; rintro e w' ⟨rfl, n2, rfl⟩)
        go_ret
        exact ⟨by rw [hr.out, H0.out]; simp, HB.out _⟩
      · have H0 := Lib.hid h0
        clear h0
        (try simp only [Int.cast_ofNat_Int, Int.ofNat_zero, Int.natCast_zero, Int.natCast_one] at h3)
        go_wp2_with (go_at_call 48; refine (script_has_calls k _).mono ?_; rintro e w' ⟨rfl, n2, rfl⟩)
        go_ret
        exact ⟨by rw [hr.out, H0.out]; simp, HB.out _⟩
      · have H0 := Lib.hid h0
        clear h0
        (try simp only [Int.cast_ofNat_Int, Int.ofNat_zero, Int.natCast_zero, Int.natCast_one] at h3)
        go_wp2_with (go_at_call 48; refine (script_has_calls k _).mono ?_; rintro e w' ⟨rfl, n2, rfl⟩)
        go_roundw
        case rel => exact ⟨3, by omega, by rfl, ⟨⟨hG.out.1, hG.out.2, H0.out⟩⟩, _, rfl⟩
        case measure => simp [intOf]
      · have H0 := Lib.hid h0
        clear h0
        (try simp only [Int.cast_ofNat_Int, Int.ofNat_zero, Int.natCast_zero, Int.natCast_one] at h3)
        go_wp2_with (go_at_call 48; refine (script_has_calls k _).mono ?_; rintro e w' ⟨rfl, n2, rfl⟩)
        go_roundw
        case rel => exact ⟨3, by omega, by rfl, ⟨⟨hG.out.1, hG.out.2, H0.out⟩⟩, _, rfl⟩
        case measure => simp [intOf]
    | 3, _, hG =>
      rcases okNum_ways k 3 d with ⟨h0, h1⟩ | ⟨h0, h1, h2⟩ | ⟨h0, h1, h2, h3, h4⟩ | ⟨h0, h1, h2, h3, h4⟩ | ⟨h0, h1, h2, h3⟩
      · have H0 := Lib.hid h0
        clear h0
        (try simp only [Int.cast_ofNat_Int, Int.ofNat_zero, Int.natCast_zero, Int.natCast_one] at h3)
        go_wp2_with (go_at_call 48; refine (script_has_calls k _).mono ?_; rintro e w' ⟨rfl, n2, rfl⟩)
        go_ret
        exact ⟨by rw [hr.out, H0.out]; simp, HB.out _⟩
      · have H0 := Lib.hid h0
        clear h0
        (try simp only [Int.cast_ofNat_Int, Int.ofNat_zero, Int.natCast_zero, Int.natCast_one] at h3)
        go_wp2_with (go_at_call 48; refine (script_has_calls k _).mono ?_; rintro e w' ⟨rfl, n2, rfl⟩)
        go_ret
        exact ⟨by rw [hr.out, H0.out]; simp, HB.out _⟩
      · have H0 := Lib.hid h0
        clear h0
        (try simp only [Int.cast_ofNat_Int, Int.ofNat_zero, Int.natCast_zero, Int.natCast_one] at h3)
        go_wp2_with (go_at_call 48; refine (script_has_calls k _).mono ?_; rintro e w' ⟨rfl, n2, rfl⟩)
        go_ret
        exact ⟨by rw [hr.out, H0.out]; simp, HB.out _⟩
      · have H0 := Lib.hid h0
        clear h0
        (try simp only [Int.cast_ofNat_Int, Int.ofNat_zero, Int.natCast_zero, Int.natCast_one] at h3)
        go_wp2_with (go_at_call 48; refine (script_has_calls k _).mono ?_; rintro e w' ⟨rfl, n2, rfl⟩)
        go_roundw
        case rel => exact ⟨4, by omega, by rfl, ⟨⟨hG.out.1, hG.out.2.1, hG.out.2.2, H0.out⟩⟩, _, rfl⟩
        case measure => simp [intOf]
      · have H0 := Lib.hid h0
        clear h0
        (try simp only [Int.cast_ofNat_Int, Int.ofNat_zero, Int.natCast_zero, Int.natCast_one] at h3)
        go_wp2_with (go_at_call 48; refine (script_has_calls k _).mono ?_; rintro e w' ⟨rfl, n2, rfl⟩)
        go_roundw
        case rel => exact ⟨4, by omega, by rfl, ⟨⟨hG.out.1, hG.out.2.1, hG.out.2.2, H0.out⟩⟩, _, rfl⟩
        case measure => simp [intOf]
    | 4, _, hG =>
      go_wp2
      go_ret
      exact ⟨by rw [hr.out, hG.out.1, hG.out.2.1, hG.out.2.2.1, hG.out.2.2.2]; rfl, HB.out _⟩


theorem script_Right.calls (a0_0 : Int) (a0_1 : Int) (a0_2 : Int) (a0_3 : Int) (a0_4 : Int) (r : Bool) (w : World) (h : script_Right.f a0_0 a0_1 a0_2 a0_3 a0_4 = some r) :
    Calls Tryd.prog 16 #[.agg #[.int .i64 a0_0, .int .i64 a0_1, .int .i64 a0_2, .int .i64 a0_3, .int .i64 a0_4]] w fun e w' => e = .returned (.bool r) ∧ Below w.heap.size w w' := by
  obtain rfl := Option.some.inj h
  by_cases hk : 1 ≤ a0_0 ∧ a0_0 ≤ 11
  · exact script_Right_in a0_0 a0_1 a0_2 a0_3 a0_4 w hk.1 hk.2
  · have e : sRight a0_0 a0_1 a0_2 a0_3 a0_4 = false := by unfold sRight; rw [decide_eq_false hk]; simp
    rw [e]
    go_enter Tryd.func16, Tryd.ntmps16
    go_wp2_with (first | (go_at_call 47; refine (script_is_no a0_0 hk _).mono ?_; rintro e w' ⟨rfl, n1, rfl⟩))
    go_ret
    exact ⟨rfl, pw_below_drewN ((Below.refl _ _).alloc (Nat.le_refl _) _) _⟩
end Go.Proofs.YthfjjdkaplibmaaDoor.Pr
