import Derived.Test.YthfjjdkaplibmaaDoorGB
import Derived.Test.YthfjjdkaplibmaaDoorPr18
import Derived.Test.YthfjjdkaplibmaaDoorPr26
import Derived.Test.YthfjjdkaplibmaaDoorHand3
import Derived.Test.YthfjjdkaplibmaaDoorGA
-- Written by wip/pr.py over the translation. Lean checks it.
namespace Go.Proofs.YthfjjdkaplibmaaDoor.Pr
open Go.RowKit Go.Proofs.YthfjjdkaplibmaaDoorW.PrintWords Go.Proofs.YthfjjdkaplibmaaDoorW.PrintLast Go.Proofs.YthfjjdkaplibmaaDoorW.PrintMore
attribute [local go_sem] max2_int min2_int max_two min_two max_three min_three max_four min_four   -- for this text's walks alone
set_option linter.unusedVariables false
set_option linter.unusedSimpArgs false

/-! ### hourglasslaw22_ProgramAll: function 11 -/
def hourglasslaw22_ProgramAll.l0 : Nat → Int → Int → Int → Int → Int → Int → Int → Int → Int → Int → Int → Int → Int → Int → List (List (S51)) → Option (Bool)
  | 0, _, _, _, _, _, _, _, _, _, _, _, _, _, _, _ => none
  | k + 1, x3, x436000, x436001, x436002, x436003, x436004, x436005, x436006, x436007, x436008, x436009, x436010, x436011, x436012, x436013 => if x3 < (x436013.length : Int) then (if 0 ≤ x3 then (if ((rd_L5 x436013 x3).length : Int) > 30 then ((hourglasslaw22_awake.f k).bind fun t438 => (some t438)) else (hourglasslaw22_ProgramAll.l0 k (wrap64 (x3 + 1)) x436000 x436001 x436002 x436003 x436004 x436005 x436006 x436007 x436008 x436009 x436010 x436011 x436012 x436013)) else (none)) else ((program_All.f x436000 x436001 x436002 x436003 x436004 x436005 x436006 x436007 x436008 x436009 x436010 x436011 x436012 x436013).bind fun t439 => ((hourglassref22_All.f k x436000 x436001 x436002 x436003 x436004 x436005 x436006 x436007 x436008 x436009 x436010 x436011 x436012 x436013).bind fun t440 => (if (t439 == t440) = true then ((hourglasslaw22_awake.f k).bind fun t441 => (some t441)) else (some false))))
def hourglasslaw22_ProgramAll.f (k : Nat) (a0_0 : Int) (a0_1 : Int) (a0_2 : Int) (a0_3 : Int) (a0_4 : Int) (a0_5 : Int) (a0_6 : Int) (a0_7 : Int) (a0_8 : Int) (a0_9 : Int) (a0_10 : Int) (a0_11 : Int) (a0_12 : Int) (l0_13 : List (List (S51))) : Option (Bool) := if (l0_13.length : Int) > 20 then ((hourglasslaw22_awake.f k).bind fun t436 => (some t436)) else (hourglasslaw22_ProgramAll.l0 k 0 a0_0 a0_1 a0_2 a0_3 a0_4 a0_5 a0_6 a0_7 a0_8 a0_9 a0_10 a0_11 a0_12 l0_13)
theorem hourglasslaw22_ProgramAll.mono_l : ∀ k, (∀ y0 y1 y2 y3 y4 y5 y6 y7 y8 y9 y10 y11 y12 y13 y14, LeO (hourglasslaw22_ProgramAll.l0 k y0 y1 y2 y3 y4 y5 y6 y7 y8 y9 y10 y11 y12 y13 y14) (hourglasslaw22_ProgramAll.l0 (k + 1) y0 y1 y2 y3 y4 y5 y6 y7 y8 y9 y10 y11 y12 y13 y14))
  | 0 => fun _ _ _ _ _ _ _ _ _ _ _ _ _ _ _ r h => by simp [hourglasslaw22_ProgramAll.l0] at h
  | k + 1 => by
    have ih0 := hourglasslaw22_ProgramAll.mono_l k
    · intro y0 y1 y2 y3 y4 y5 y6 y7 y8 y9 y10 y11 y12 y13 y14
      unfold hourglasslaw22_ProgramAll.l0
      repeat' first
      | (with_reducible exact ih0 _ _ _ _ _ _ _ _ _ _ _ _ _ _ _)
      | (with_reducible exact hourglasslaw22_awake.mono _)
      | (with_reducible exact hourglassref22_All.mono _ _ _ _ _ _ _ _ _ _ _ _ _ _ _)
      | (with_reducible exact LeO.refl _)
      | (with_reducible exact LeO.none _)
      | (with_reducible refine LeO.ite ?_ ?_)
      | (with_reducible refine LeO.bind ?_ (fun _ => ?_))
      | exact ih0 _ _ _ _ _ _ _ _ _ _ _ _ _ _ _
      | exact hourglasslaw22_awake.mono _
      | exact hourglassref22_All.mono _ _ _ _ _ _ _ _ _ _ _ _ _ _ _
      | exact LeO.none _
      | refine LeO.ite ?_ ?_
      | refine LeO.bind ?_ (fun _ => ?_)
theorem hourglasslaw22_ProgramAll.mono : ∀ a0 a1 a2 a3 a4 a5 a6 a7 a8 a9 a10 a11 a12 a13 k, LeO (hourglasslaw22_ProgramAll.f k a0 a1 a2 a3 a4 a5 a6 a7 a8 a9 a10 a11 a12 a13) (hourglasslaw22_ProgramAll.f (k + 1) a0 a1 a2 a3 a4 a5 a6 a7 a8 a9 a10 a11 a12 a13) := by
  intro a0 a1 a2 a3 a4 a5 a6 a7 a8 a9 a10 a11 a12 a13 k
  have ih0 := hourglasslaw22_ProgramAll.mono_l k
  unfold hourglasslaw22_ProgramAll.f
  repeat' first
      | (with_reducible exact ih0 _ _ _ _ _ _ _ _ _ _ _ _ _ _ _)
      | (with_reducible exact hourglasslaw22_awake.mono _)
      | (with_reducible exact hourglassref22_All.mono _ _ _ _ _ _ _ _ _ _ _ _ _ _ _)
      | (with_reducible exact LeO.refl _)
      | (with_reducible exact LeO.none _)
      | (with_reducible refine LeO.ite ?_ ?_)
      | (with_reducible refine LeO.bind ?_ (fun _ => ?_))
      | exact ih0 _ _ _ _ _ _ _ _ _ _ _ _ _ _ _
      | exact hourglasslaw22_awake.mono _
      | exact hourglassref22_All.mono _ _ _ _ _ _ _ _ _ _ _ _ _ _ _
      | exact LeO.none _
      | refine LeO.ite ?_ ?_
      | refine LeO.bind ?_ (fun _ => ?_)
def hourglasslaw22_ProgramAll.T8 : Bool × List (List Nat × List Nat) := (true, [([], []), ([0], [0]), ([], []), ([2, 1], [2]), ([1, 3], [1, 3]), ([4, 3], [4]), ([5, 5], [5]), ([5, 6], [5, 6]), ([7, 6, 0, 1, 2, 3, 4, 5, 6, 7], [7])])
def hourglasslaw22_ProgramAll.B8 : List Nat := [0, 1, 0, 7, 15, 31, 63, 127, 255]
theorem hourglasslaw22_ProgramAll.tab8 : rtab .any (opsOf Tryd.f11 8) = hourglasslaw22_ProgramAll.T8 := by kernel_rfl
theorem hourglasslaw22_ProgramAll.bits8 : waitsOk hourglasslaw22_ProgramAll.T8.2 hourglasslaw22_ProgramAll.B8 = true := by kernel_rfl
set_option maxHeartbeats 8000000 in
set_option maxRecDepth 100000 in
theorem hourglasslaw22_ProgramAll.calls (k : Nat) (a0_0 : Int) (a0_1 : Int) (a0_2 : Int) (a0_3 : Int) (a0_4 : Int) (a0_5 : Int) (a0_6 : Int) (a0_7 : Int) (a0_8 : Int) (a0_9 : Int) (a0_10 : Int) (a0_11 : Int) (a0_12 : Int) (A0_13 : Option Addr) (c0_13 : Nat) (l0_13 : List (List (S51))) (r : Bool) (w : World) (hr0_13 : Kd.C (Kd.slice 51 k51) w A0_13 l0_13.length l0_13) (hc0_13 : l0_13.length ≤ c0_13) (h : hourglasslaw22_ProgramAll.f k a0_0 a0_1 a0_2 a0_3 a0_4 a0_5 a0_6 a0_7 a0_8 a0_9 a0_10 a0_11 a0_12 l0_13 = some r) (hE : Env w) :
    Calls Tryd.prog 11 #[.agg #[.int .i64 a0_0, .int .i64 a0_1, .int .i64 a0_2, .int .i64 a0_3, .int .i64 a0_4, .int .i64 a0_5, .int .i64 a0_6, .int .i64 a0_7, .int .i64 a0_8, .int .i64 a0_9, .int .i64 a0_10, .int .i64 a0_11, .int .i64 a0_12, .slice A0_13 l0_13.length c0_13]] w fun e w' => e = .returned (.bool r) ∧ Below w.heap.size w w' := by
  have HE := Aside0.mk hE
  clear hE
  have hu65 := Tryd.underlying65
  have HR0_13 := Aside0.mk hr0_13
  have HC0_13 := Aside0.mk hc0_13
  clear hr0_13 hc0_13
  have HB := Aside0.mk (Below.refl w.heap.size w)
  have H : (if (l0_13.length : Int) > 20 then ((hourglasslaw22_awake.f k).bind fun t436 => (some t436)) else (hourglasslaw22_ProgramAll.l0 k 0 a0_0 a0_1 a0_2 a0_3 a0_4 a0_5 a0_6 a0_7 a0_8 a0_9 a0_10 a0_11 a0_12 l0_13)) = some r := h
  clear h
  by_cases c2 : (l0_13.length : Int) > 20
  · rw [if_pos c2] at H
    have c2b0 : decide (20 < (l0_13.length : Int)) = true := decide_eq_true c2
    have c2b1 : decide (20 < l0_13.length) = true := decide_eq_true (by omega)
    clear c2
    replace H := Option.bind_eq_some_iff.mp H
    obtain ⟨t436, A30, H⟩ := H
    replace H : (some t436) = some r := H
    have A3 := Aside0.mk A30
    clear A30
    obtain rfl := Option.some.inj H
    go_enter Tryd.func11, Tryd.ntmps11
    go_wp2_with (first | ((with_reducible refine gate_dst (N := 1) rfl ?_); refine box_event ?hg (N := 1) ?hd (cs := #[.int .i64 a0_0, .int .i64 a0_1, .int .i64 a0_2, .int .i64 a0_3, .int .i64 a0_4, .int .i64 a0_5, .int .i64 a0_6, .int .i64 a0_7, .int .i64 a0_8, .int .i64 a0_9, .int .i64 a0_10, .int .i64 a0_11, .int .i64 a0_12, .slice A0_13 l0_13.length c0_13]) (t := 65) ?hr ?_; (case hd => rfl); (case hg => rfl); (case hr => first | (go_simp; done) | (go_simp; rfl)); intro gb435 hg w4 hbox hb; have n0_ := Aside0.mk (below_step (by repeat (first | (with_reducible first | exact HB.out | apply below_alloc | apply pw_below_drewN | apply below_drew1) | exact HB.out)) hb); have n1_ := Aside0.mk (hbox); have n2_ := Aside0.mk ((by rw [hg]; exact (below_size (by repeat (first | (with_reducible first | exact HB.out | apply below_alloc | apply pw_below_drewN | apply below_drew1) | exact HB.out))) : w.heap.size ≤ gb435)); have n3_ := Aside0.mk ((by rw [hg]; exact (below_size (by repeat (first | (with_reducible first | exact HB.out | apply below_alloc | apply pw_below_drewN | apply below_drew1) | exact HB.out))) : w.heap.size ≤ gb435)); clear HB; have HB := n0_; have BK435 := n1_; have GW435 := n2_; have GE435 := n3_; clear n0_ n1_ n2_ n3_; clear hb hbox hg; have hcz5_0 : w4.cell? ⟨gb435, 0, none⟩ = some (.int .i64 a0_0) := (blk_cell BK435.out 0).trans rfl; have hcz5_1 : w4.cell? ⟨gb435, 1, none⟩ = some (.int .i64 a0_1) := (blk_cell BK435.out 1).trans rfl; have hcz5_2 : w4.cell? ⟨gb435, 2, none⟩ = some (.int .i64 a0_2) := (blk_cell BK435.out 2).trans rfl; have hcz5_3 : w4.cell? ⟨gb435, 3, none⟩ = some (.int .i64 a0_3) := (blk_cell BK435.out 3).trans rfl; have hcz5_4 : w4.cell? ⟨gb435, 4, none⟩ = some (.int .i64 a0_4) := (blk_cell BK435.out 4).trans rfl; have hcz5_5 : w4.cell? ⟨gb435, 5, none⟩ = some (.int .i64 a0_5) := (blk_cell BK435.out 5).trans rfl; have hcz5_6 : w4.cell? ⟨gb435, 6, none⟩ = some (.int .i64 a0_6) := (blk_cell BK435.out 6).trans rfl; have hcz5_7 : w4.cell? ⟨gb435, 7, none⟩ = some (.int .i64 a0_7) := (blk_cell BK435.out 7).trans rfl; have hcz5_8 : w4.cell? ⟨gb435, 8, none⟩ = some (.int .i64 a0_8) := (blk_cell BK435.out 8).trans rfl; have hcz5_9 : w4.cell? ⟨gb435, 9, none⟩ = some (.int .i64 a0_9) := (blk_cell BK435.out 9).trans rfl; have hcz5_10 : w4.cell? ⟨gb435, 10, none⟩ = some (.int .i64 a0_10) := (blk_cell BK435.out 10).trans rfl; have hcz5_11 : w4.cell? ⟨gb435, 11, none⟩ = some (.int .i64 a0_11) := (blk_cell BK435.out 11).trans rfl; have hcz5_12 : w4.cell? ⟨gb435, 12, none⟩ = some (.int .i64 a0_12) := (blk_cell BK435.out 12).trans rfl; have hcz5_13 : w4.cell? ⟨gb435, 13, none⟩ = some (.slice A0_13 l0_13.length c0_13) := (blk_cell BK435.out 13).trans rfl; have hfz5_0 := blk_frozen BK435.out 0; have hfz5_1 := blk_frozen BK435.out 1; have hfz5_2 := blk_frozen BK435.out 2; have hfz5_3 := blk_frozen BK435.out 3; have hfz5_4 := blk_frozen BK435.out 4; have hfz5_5 := blk_frozen BK435.out 5; have hfz5_6 := blk_frozen BK435.out 6; have hfz5_7 := blk_frozen BK435.out 7; have hfz5_8 := blk_frozen BK435.out 8; have hfz5_9 := blk_frozen BK435.out 9; have hfz5_10 := blk_frozen BK435.out 10; have hfz5_11 := blk_frozen BK435.out 11; have hfz5_12 := blk_frozen BK435.out 12; have hfz5_13 := blk_frozen BK435.out 13) | ((with_reducible refine gate_callee (f := 24) rfl ?_); refine goesL_ (some 8) rfl rfl Tryd.func24 (by kernel_rfl) rfl #[] rfl (by (try simp only [List.map_toArray, List.map_cons, List.map_nil]); first | done | rfl | (simp only [List.length_drop, List.length_take]; rfl)) ?_; (with_reducible refine (hourglasslaw22_awake.calls k  t436 _ A3.out (Env.below HE.out (by repeat (first | (with_reducible first | exact HB.out | apply below_alloc | apply pw_below_drewN | apply below_drew1 | refine below_set ?_ GE435.out) | exact HB.out)))).mono ?_); rintro e w6 ⟨rfl, hb⟩; refine ⟨_, rfl, ?_⟩; have n0_ := Aside0.mk (blk_below (g := gb435) (o := .cells #[.int .i64 a0_0, .int .i64 a0_1, .int .i64 a0_2, .int .i64 a0_3, .int .i64 a0_4, .int .i64 a0_5, .int .i64 a0_6, .int .i64 a0_7, .int .i64 a0_8, .int .i64 a0_9, .int .i64 a0_10, .int .i64 a0_11, .int .i64 a0_12, .slice A0_13 l0_13.length c0_13] 65 (0, 0)) (by (with_reducible repeat (first | refine blk_drewN ?_ _ | refine blk_drew ?_ | refine blk_alloc ?_ _)); exact BK435.out) hb); have n1_ := Aside0.mk (below_step (by repeat (first | (with_reducible first | exact HB.out | apply below_alloc | apply pw_below_drewN | apply below_drew1 | refine below_set ?_ GE435.out) | exact HB.out)) hb); clear BK435; clear HB; have BK435 := n0_; have HB := n1_; clear n0_ n1_; (try clear hb); (try clear hb2); (try clear hk); (try clear hi)))
    go_ret
    exact ⟨by first | rfl | (simp [errW_none, errW_some] <;> rfl) | (simp [*, errW_none, errW_some] <;> rfl), by repeat (first | (with_reducible first | exact HB.out | apply below_alloc | apply pw_below_drewN | apply below_drew1 | refine below_set ?_ GE435.out) | exact HB.out)⟩
  · rw [if_neg c2] at H
    have c2b0 : decide (20 < (l0_13.length : Int)) = false := decide_eq_false c2
    have c2b1 : decide (20 < l0_13.length) = false := decide_eq_false (by omega)
    clear c2
    have H' := Aside0.mk H
    clear H
    go_enter Tryd.func11, Tryd.ntmps11
    go_wp2_with (first | ((with_reducible refine gate_dst (N := 1) rfl ?_); refine box_event ?hg (N := 1) ?hd (cs := #[.int .i64 a0_0, .int .i64 a0_1, .int .i64 a0_2, .int .i64 a0_3, .int .i64 a0_4, .int .i64 a0_5, .int .i64 a0_6, .int .i64 a0_7, .int .i64 a0_8, .int .i64 a0_9, .int .i64 a0_10, .int .i64 a0_11, .int .i64 a0_12, .slice A0_13 l0_13.length c0_13]) (t := 65) ?hr ?_; (case hd => rfl); (case hg => rfl); (case hr => first | (go_simp; done) | (go_simp; rfl)); intro gb435 hg w7 hbox hb; have n0_ := Aside0.mk (below_step (by repeat (first | (with_reducible first | exact HB.out | apply below_alloc | apply pw_below_drewN | apply below_drew1) | exact HB.out)) hb); have n1_ := Aside0.mk (hbox); have n2_ := Aside0.mk ((by rw [hg]; exact (below_size (by repeat (first | (with_reducible first | exact HB.out | apply below_alloc | apply pw_below_drewN | apply below_drew1) | exact HB.out))) : w.heap.size ≤ gb435)); have n3_ := Aside0.mk ((by rw [hg]; exact (below_size (by repeat (first | (with_reducible first | exact HB.out | apply below_alloc | apply pw_below_drewN | apply below_drew1) | exact HB.out))) : w.heap.size ≤ gb435)); clear HB; have HB := n0_; have BK435 := n1_; have GW435 := n2_; have GE435 := n3_; clear n0_ n1_ n2_ n3_; clear hb hbox hg; have hcz8_0 : w7.cell? ⟨gb435, 0, none⟩ = some (.int .i64 a0_0) := (blk_cell BK435.out 0).trans rfl; have hcz8_1 : w7.cell? ⟨gb435, 1, none⟩ = some (.int .i64 a0_1) := (blk_cell BK435.out 1).trans rfl; have hcz8_2 : w7.cell? ⟨gb435, 2, none⟩ = some (.int .i64 a0_2) := (blk_cell BK435.out 2).trans rfl; have hcz8_3 : w7.cell? ⟨gb435, 3, none⟩ = some (.int .i64 a0_3) := (blk_cell BK435.out 3).trans rfl; have hcz8_4 : w7.cell? ⟨gb435, 4, none⟩ = some (.int .i64 a0_4) := (blk_cell BK435.out 4).trans rfl; have hcz8_5 : w7.cell? ⟨gb435, 5, none⟩ = some (.int .i64 a0_5) := (blk_cell BK435.out 5).trans rfl; have hcz8_6 : w7.cell? ⟨gb435, 6, none⟩ = some (.int .i64 a0_6) := (blk_cell BK435.out 6).trans rfl; have hcz8_7 : w7.cell? ⟨gb435, 7, none⟩ = some (.int .i64 a0_7) := (blk_cell BK435.out 7).trans rfl; have hcz8_8 : w7.cell? ⟨gb435, 8, none⟩ = some (.int .i64 a0_8) := (blk_cell BK435.out 8).trans rfl; have hcz8_9 : w7.cell? ⟨gb435, 9, none⟩ = some (.int .i64 a0_9) := (blk_cell BK435.out 9).trans rfl; have hcz8_10 : w7.cell? ⟨gb435, 10, none⟩ = some (.int .i64 a0_10) := (blk_cell BK435.out 10).trans rfl; have hcz8_11 : w7.cell? ⟨gb435, 11, none⟩ = some (.int .i64 a0_11) := (blk_cell BK435.out 11).trans rfl; have hcz8_12 : w7.cell? ⟨gb435, 12, none⟩ = some (.int .i64 a0_12) := (blk_cell BK435.out 12).trans rfl; have hcz8_13 : w7.cell? ⟨gb435, 13, none⟩ = some (.slice A0_13 l0_13.length c0_13) := (blk_cell BK435.out 13).trans rfl; have hfz8_0 := blk_frozen BK435.out 0; have hfz8_1 := blk_frozen BK435.out 1; have hfz8_2 := blk_frozen BK435.out 2; have hfz8_3 := blk_frozen BK435.out 3; have hfz8_4 := blk_frozen BK435.out 4; have hfz8_5 := blk_frozen BK435.out 5; have hfz8_6 := blk_frozen BK435.out 6; have hfz8_7 := blk_frozen BK435.out 7; have hfz8_8 := blk_frozen BK435.out 8; have hfz8_9 := blk_frozen BK435.out 9; have hfz8_10 := blk_frozen BK435.out 10; have hfz8_11 := blk_frozen BK435.out 11; have hfz8_12 := blk_frozen BK435.out 12; have hfz8_13 := blk_frozen BK435.out 13))
    go_loopg [3] k (fun kq v3 w' => ∃ (x3_1 : Int), v3 = .int .i64 x3_1 ∧ Aside0 (hourglasslaw22_ProgramAll.l0 kq x3_1 a0_0 a0_1 a0_2 a0_3 a0_4 a0_5 a0_6 a0_7 a0_8 a0_9 a0_10 a0_11 a0_12 l0_13 = some r) ∧ Aside0 (kq ≤ k) ∧ Aside0 (w'.heap[gb435]? = some (.cells #[.int .i64 a0_0, .int .i64 a0_1, .int .i64 a0_2, .int .i64 a0_3, .int .i64 a0_4, .int .i64 a0_5, .int .i64 a0_6, .int .i64 a0_7, .int .i64 a0_8, .int .i64 a0_9, .int .i64 a0_10, .int .i64 a0_11, .int .i64 a0_12, (.slice A0_13 l0_13.length c0_13)] 65 (0, 0))) ∧ Aside0 (Below w.heap.size w w'))
    case atStart => exact ⟨(0), (by first | rfl | (simp; done) | (simp [*]; done)), H', ⟨Nat.le_refl _⟩, ⟨by (with_reducible repeat (first | refine blk_drewN ?_ _ | refine blk_drew ?_ | refine blk_alloc ?_ _)); exact BK435.out⟩, ⟨by repeat (first | (with_reducible first | exact HB.out | apply below_alloc | apply pw_below_drewN | apply below_drew1 | refine below_set ?_ GE435.out) | exact HB.out)⟩⟩
    case round =>
      clear H'
      try clear c1
      try clear c2
      try clear c2b0
      try clear c2b1
      try clear p2
      try clear hcz5_0
      try clear hcz5_1
      try clear hcz5_10
      try clear hcz5_11
      try clear hcz5_12
      try clear hcz5_13
      try clear hcz5_2
      try clear hcz5_3
      try clear hcz5_4
      try clear hcz5_5
      try clear hcz5_6
      try clear hcz5_7
      try clear hcz5_8
      try clear hcz5_9
      try clear hcz8_0
      try clear hcz8_1
      try clear hcz8_10
      try clear hcz8_11
      try clear hcz8_12
      try clear hcz8_13
      try clear hcz8_2
      try clear hcz8_3
      try clear hcz8_4
      try clear hcz8_5
      try clear hcz8_6
      try clear hcz8_7
      try clear hcz8_8
      try clear hcz8_9
      try clear hfz5_0
      try clear hfz5_1
      try clear hfz5_10
      try clear hfz5_11
      try clear hfz5_12
      try clear hfz5_13
      try clear hfz5_2
      try clear hfz5_3
      try clear hfz5_4
      try clear hfz5_5
      try clear hfz5_6
      try clear hfz5_7
      try clear hfz5_8
      try clear hfz5_9
      try clear hfz8_0
      try clear hfz8_1
      try clear hfz8_10
      try clear hfz8_11
      try clear hfz8_12
      try clear hfz8_13
      try clear hfz8_2
      try clear hfz8_3
      try clear hfz8_4
      try clear hfz8_5
      try clear hfz8_6
      try clear hfz8_7
      try clear hfz8_8
      try clear hfz8_9
      obtain ⟨x3_1, rfl, HA, HK1, BK435, HB⟩ := hrel
      cases gk with
      | zero => exact absurd HA.out (by simp [hourglasslaw22_ProgramAll.l0])
      | succ k1 =>
        have H := HA.out
        clear HA
        simp only [hourglasslaw22_ProgramAll.l0] at H
        by_cases c9 : x3_1 < (l0_13.length : Int)
        · rw [if_pos c9] at H
          have c9b0 : decide (x3_1 < (l0_13.length : Int)) = true := decide_eq_true c9
          clear c9
          by_cases c10 : 0 ≤ x3_1
          · rw [if_pos c10] at H
            have c10b0 : decide (0 ≤ x3_1) = true := decide_eq_true c10
            clear c10
            by_cases c11 : ((rd_L5 l0_13 x3_1).length : Int) > 30
            · rw [if_pos c11] at H
              have c11b0 : decide (30 < ((rd_L5 l0_13 x3_1).length : Int)) = true := decide_eq_true c11
              have c11b1 : decide (30 < (rd_L5 l0_13 x3_1).length) = true := decide_eq_true (by omega)
              clear c11
              replace H := Option.bind_eq_some_iff.mp H
              obtain ⟨t438, A120, H⟩ := H
              replace H : (some t438) = some r := H
              have A12 := Aside0.mk A120
              clear A120
              obtain rfl := Option.some.inj H
              have hcz13_0 : wr.cell? ⟨gb435, 0, none⟩ = some (.int .i64 a0_0) := (blk_cell BK435.out 0).trans rfl
              have hcz13_1 : wr.cell? ⟨gb435, 1, none⟩ = some (.int .i64 a0_1) := (blk_cell BK435.out 1).trans rfl
              have hcz13_2 : wr.cell? ⟨gb435, 2, none⟩ = some (.int .i64 a0_2) := (blk_cell BK435.out 2).trans rfl
              have hcz13_3 : wr.cell? ⟨gb435, 3, none⟩ = some (.int .i64 a0_3) := (blk_cell BK435.out 3).trans rfl
              have hcz13_4 : wr.cell? ⟨gb435, 4, none⟩ = some (.int .i64 a0_4) := (blk_cell BK435.out 4).trans rfl
              have hcz13_5 : wr.cell? ⟨gb435, 5, none⟩ = some (.int .i64 a0_5) := (blk_cell BK435.out 5).trans rfl
              have hcz13_6 : wr.cell? ⟨gb435, 6, none⟩ = some (.int .i64 a0_6) := (blk_cell BK435.out 6).trans rfl
              have hcz13_7 : wr.cell? ⟨gb435, 7, none⟩ = some (.int .i64 a0_7) := (blk_cell BK435.out 7).trans rfl
              have hcz13_8 : wr.cell? ⟨gb435, 8, none⟩ = some (.int .i64 a0_8) := (blk_cell BK435.out 8).trans rfl
              have hcz13_9 : wr.cell? ⟨gb435, 9, none⟩ = some (.int .i64 a0_9) := (blk_cell BK435.out 9).trans rfl
              have hcz13_10 : wr.cell? ⟨gb435, 10, none⟩ = some (.int .i64 a0_10) := (blk_cell BK435.out 10).trans rfl
              have hcz13_11 : wr.cell? ⟨gb435, 11, none⟩ = some (.int .i64 a0_11) := (blk_cell BK435.out 11).trans rfl
              have hcz13_12 : wr.cell? ⟨gb435, 12, none⟩ = some (.int .i64 a0_12) := (blk_cell BK435.out 12).trans rfl
              have hcz13_13 : wr.cell? ⟨gb435, 13, none⟩ = some (.slice A0_13 l0_13.length c0_13) := (blk_cell BK435.out 13).trans rfl
              have hfz13_0 := blk_frozen BK435.out 0
              have hfz13_1 := blk_frozen BK435.out 1
              have hfz13_2 := blk_frozen BK435.out 2
              have hfz13_3 := blk_frozen BK435.out 3
              have hfz13_4 := blk_frozen BK435.out 4
              have hfz13_5 := blk_frozen BK435.out 5
              have hfz13_6 := blk_frozen BK435.out 6
              have hfz13_7 := blk_frozen BK435.out 7
              have hfz13_8 := blk_frozen BK435.out 8
              have hfz13_9 := blk_frozen BK435.out 9
              have hfz13_10 := blk_frozen BK435.out 10
              have hfz13_11 := blk_frozen BK435.out 11
              have hfz13_12 := blk_frozen BK435.out 12
              have hfz13_13 := blk_frozen BK435.out 13
              have p437 : 0 ≤ (x3_1 : Int) := of_decide_eq_true (by first | (with_reducible assumption) | assumption)
              have q437 : x3_1 < (l0_13.length : Int) := of_decide_eq_true (by first | (with_reducible assumption) | assumption)
              obtain ⟨ad437, A437_0, c437_0, e437, hx437_0, hl437_0, hi437_0⟩ := at_L5 HR0_13.out x3_1 p437 q437
              cases e437
              replace hx437_0 := (HB.out.cell (World.block_lt_of_cell? w _ hx437_0)).trans hx437_0
              have HR437_0 := Aside0.mk hi437_0
              have HC437_0 := Aside0.mk hl437_0
              clear hi437_0 hl437_0
              replace p437 := eq_true p437
              replace q437 := eq_true q437
              go_wp2_with (first | ((with_reducible refine gate_callee (f := 24) rfl ?_); refine goesL_ (some 23) rfl rfl Tryd.func24 (by kernel_rfl) rfl #[] rfl (by (try simp only [List.map_toArray, List.map_cons, List.map_nil]); first | done | rfl | (simp only [List.length_drop, List.length_take]; rfl)) ?_; (with_reducible refine (hourglasslaw22_awake.calls k1  t438 _ A12.out (Env.below HE.out (by repeat (first | (with_reducible first | exact HB.out | apply below_alloc | apply pw_below_drewN | apply below_drew1 | refine below_set ?_ GE435.out) | exact HB.out)))).mono ?_); rintro e w14 ⟨rfl, hb⟩; refine ⟨_, rfl, ?_⟩; have n0_ := Aside0.mk (blk_below (g := gb435) (o := .cells #[.int .i64 a0_0, .int .i64 a0_1, .int .i64 a0_2, .int .i64 a0_3, .int .i64 a0_4, .int .i64 a0_5, .int .i64 a0_6, .int .i64 a0_7, .int .i64 a0_8, .int .i64 a0_9, .int .i64 a0_10, .int .i64 a0_11, .int .i64 a0_12, .slice (some ad437) l0_13.length c0_13] 65 (0, 0)) (by (with_reducible repeat (first | refine blk_drewN ?_ _ | refine blk_drew ?_ | refine blk_alloc ?_ _)); exact BK435.out) hb); have n1_ := Aside0.mk (below_step (by repeat (first | (with_reducible first | exact HB.out | apply below_alloc | apply pw_below_drewN | apply below_drew1 | refine below_set ?_ GE435.out) | exact HB.out)) hb); clear BK435; clear HB; have BK435 := n0_; have HB := n1_; clear n0_ n1_; (try clear hb); (try clear hb2); (try clear hk); (try clear hi)))
              go_ret
              exact ⟨by first | rfl | (simp [errW_none, errW_some] <;> rfl) | (simp [*, errW_none, errW_some] <;> rfl), by repeat (first | (with_reducible first | exact HB.out | apply below_alloc | apply pw_below_drewN | apply below_drew1 | refine below_set ?_ GE435.out) | exact HB.out)⟩
            · rw [if_neg c11] at H
              have c11b0 : decide (30 < ((rd_L5 l0_13 x3_1).length : Int)) = false := decide_eq_false c11
              have c11b1 : decide (30 < (rd_L5 l0_13 x3_1).length) = false := decide_eq_false (by omega)
              clear c11
              have H' := Aside0.mk H
              clear H
              have hcz15_0 : wr.cell? ⟨gb435, 0, none⟩ = some (.int .i64 a0_0) := (blk_cell BK435.out 0).trans rfl
              have hcz15_1 : wr.cell? ⟨gb435, 1, none⟩ = some (.int .i64 a0_1) := (blk_cell BK435.out 1).trans rfl
              have hcz15_2 : wr.cell? ⟨gb435, 2, none⟩ = some (.int .i64 a0_2) := (blk_cell BK435.out 2).trans rfl
              have hcz15_3 : wr.cell? ⟨gb435, 3, none⟩ = some (.int .i64 a0_3) := (blk_cell BK435.out 3).trans rfl
              have hcz15_4 : wr.cell? ⟨gb435, 4, none⟩ = some (.int .i64 a0_4) := (blk_cell BK435.out 4).trans rfl
              have hcz15_5 : wr.cell? ⟨gb435, 5, none⟩ = some (.int .i64 a0_5) := (blk_cell BK435.out 5).trans rfl
              have hcz15_6 : wr.cell? ⟨gb435, 6, none⟩ = some (.int .i64 a0_6) := (blk_cell BK435.out 6).trans rfl
              have hcz15_7 : wr.cell? ⟨gb435, 7, none⟩ = some (.int .i64 a0_7) := (blk_cell BK435.out 7).trans rfl
              have hcz15_8 : wr.cell? ⟨gb435, 8, none⟩ = some (.int .i64 a0_8) := (blk_cell BK435.out 8).trans rfl
              have hcz15_9 : wr.cell? ⟨gb435, 9, none⟩ = some (.int .i64 a0_9) := (blk_cell BK435.out 9).trans rfl
              have hcz15_10 : wr.cell? ⟨gb435, 10, none⟩ = some (.int .i64 a0_10) := (blk_cell BK435.out 10).trans rfl
              have hcz15_11 : wr.cell? ⟨gb435, 11, none⟩ = some (.int .i64 a0_11) := (blk_cell BK435.out 11).trans rfl
              have hcz15_12 : wr.cell? ⟨gb435, 12, none⟩ = some (.int .i64 a0_12) := (blk_cell BK435.out 12).trans rfl
              have hcz15_13 : wr.cell? ⟨gb435, 13, none⟩ = some (.slice A0_13 l0_13.length c0_13) := (blk_cell BK435.out 13).trans rfl
              have hfz15_0 := blk_frozen BK435.out 0
              have hfz15_1 := blk_frozen BK435.out 1
              have hfz15_2 := blk_frozen BK435.out 2
              have hfz15_3 := blk_frozen BK435.out 3
              have hfz15_4 := blk_frozen BK435.out 4
              have hfz15_5 := blk_frozen BK435.out 5
              have hfz15_6 := blk_frozen BK435.out 6
              have hfz15_7 := blk_frozen BK435.out 7
              have hfz15_8 := blk_frozen BK435.out 8
              have hfz15_9 := blk_frozen BK435.out 9
              have hfz15_10 := blk_frozen BK435.out 10
              have hfz15_11 := blk_frozen BK435.out 11
              have hfz15_12 := blk_frozen BK435.out 12
              have hfz15_13 := blk_frozen BK435.out 13
              have p437 : 0 ≤ (x3_1 : Int) := of_decide_eq_true (by first | (with_reducible assumption) | assumption)
              have q437 : x3_1 < (l0_13.length : Int) := of_decide_eq_true (by first | (with_reducible assumption) | assumption)
              obtain ⟨ad437, A437_0, c437_0, e437, hx437_0, hl437_0, hi437_0⟩ := at_L5 HR0_13.out x3_1 p437 q437
              cases e437
              replace hx437_0 := (HB.out.cell (World.block_lt_of_cell? w _ hx437_0)).trans hx437_0
              have HR437_0 := Aside0.mk hi437_0
              have HC437_0 := Aside0.mk hl437_0
              clear hi437_0 hl437_0
              replace p437 := eq_true p437
              replace q437 := eq_true q437
              go_wp2
              go_roundg k1
              case measure => have := HK1.out; omega
              case rel => exact ⟨(wrap64 (x3_1 + 1)), (by first | rfl | (simp; done) | (simp [*]; done)), H', ⟨by have := HK1.out; omega⟩, ⟨by (with_reducible repeat (first | refine blk_drewN ?_ _ | refine blk_drew ?_ | refine blk_alloc ?_ _)); exact BK435.out⟩, ⟨by repeat (first | (with_reducible first | exact HB.out | apply below_alloc | apply pw_below_drewN | apply below_drew1 | refine below_set ?_ GE435.out) | exact HB.out)⟩⟩
          · rw [if_neg c10] at H
            exact absurd H (by simp)
        · rw [if_neg c9] at H
          have c9b0 : decide (x3_1 < (l0_13.length : Int)) = false := decide_eq_false c9
          clear c9
          replace H := Option.bind_eq_some_iff.mp H
          obtain ⟨t439, A160, H⟩ := H
          replace H : ((hourglassref22_All.f k1 a0_0 a0_1 a0_2 a0_3 a0_4 a0_5 a0_6 a0_7 a0_8 a0_9 a0_10 a0_11 a0_12 l0_13).bind fun t440 => (if (t439 == t440) = true then ((hourglasslaw22_awake.f k1).bind fun t441 => (some t441)) else (some false))) = some r := H
          have A16 := Aside0.mk A160
          clear A160
          replace H := Option.bind_eq_some_iff.mp H
          obtain ⟨t440, A170, H⟩ := H
          replace H : (if (t439 == t440) = true then ((hourglasslaw22_awake.f k1).bind fun t441 => (some t441)) else (some false)) = some r := H
          have A17 := Aside0.mk A170
          clear A170
          by_cases c18 : (t439 == t440) = true
          · rw [if_pos c18] at H
            have c18b0 : (t439 == t440) = true := c18
            (try (have c18b1 : decide (t439 = t440) = true := by simpa using c18))
            (try (have c18b2 : (t439 == t440) = true := by simpa using c18))
            clear c18
            replace H := Option.bind_eq_some_iff.mp H
            obtain ⟨t441, A190, H⟩ := H
            replace H : (some t441) = some r := H
            have A19 := Aside0.mk A190
            clear A190
            obtain rfl := Option.some.inj H
            have hcz20_0 : wr.cell? ⟨gb435, 0, none⟩ = some (.int .i64 a0_0) := (blk_cell BK435.out 0).trans rfl
            have hcz20_1 : wr.cell? ⟨gb435, 1, none⟩ = some (.int .i64 a0_1) := (blk_cell BK435.out 1).trans rfl
            have hcz20_2 : wr.cell? ⟨gb435, 2, none⟩ = some (.int .i64 a0_2) := (blk_cell BK435.out 2).trans rfl
            have hcz20_3 : wr.cell? ⟨gb435, 3, none⟩ = some (.int .i64 a0_3) := (blk_cell BK435.out 3).trans rfl
            have hcz20_4 : wr.cell? ⟨gb435, 4, none⟩ = some (.int .i64 a0_4) := (blk_cell BK435.out 4).trans rfl
            have hcz20_5 : wr.cell? ⟨gb435, 5, none⟩ = some (.int .i64 a0_5) := (blk_cell BK435.out 5).trans rfl
            have hcz20_6 : wr.cell? ⟨gb435, 6, none⟩ = some (.int .i64 a0_6) := (blk_cell BK435.out 6).trans rfl
            have hcz20_7 : wr.cell? ⟨gb435, 7, none⟩ = some (.int .i64 a0_7) := (blk_cell BK435.out 7).trans rfl
            have hcz20_8 : wr.cell? ⟨gb435, 8, none⟩ = some (.int .i64 a0_8) := (blk_cell BK435.out 8).trans rfl
            have hcz20_9 : wr.cell? ⟨gb435, 9, none⟩ = some (.int .i64 a0_9) := (blk_cell BK435.out 9).trans rfl
            have hcz20_10 : wr.cell? ⟨gb435, 10, none⟩ = some (.int .i64 a0_10) := (blk_cell BK435.out 10).trans rfl
            have hcz20_11 : wr.cell? ⟨gb435, 11, none⟩ = some (.int .i64 a0_11) := (blk_cell BK435.out 11).trans rfl
            have hcz20_12 : wr.cell? ⟨gb435, 12, none⟩ = some (.int .i64 a0_12) := (blk_cell BK435.out 12).trans rfl
            have hcz20_13 : wr.cell? ⟨gb435, 13, none⟩ = some (.slice A0_13 l0_13.length c0_13) := (blk_cell BK435.out 13).trans rfl
            have hfz20_0 := blk_frozen BK435.out 0
            have hfz20_1 := blk_frozen BK435.out 1
            have hfz20_2 := blk_frozen BK435.out 2
            have hfz20_3 := blk_frozen BK435.out 3
            have hfz20_4 := blk_frozen BK435.out 4
            have hfz20_5 := blk_frozen BK435.out 5
            have hfz20_6 := blk_frozen BK435.out 6
            have hfz20_7 := blk_frozen BK435.out 7
            have hfz20_8 := blk_frozen BK435.out 8
            have hfz20_9 := blk_frozen BK435.out 9
            have hfz20_10 := blk_frozen BK435.out 10
            have hfz20_11 := blk_frozen BK435.out 11
            have hfz20_12 := blk_frozen BK435.out 12
            have hfz20_13 := blk_frozen BK435.out 13
            try go_wp2
            have n0_ := Aside0.mk (blk_drew BK435.out)
            have n1_ := Aside0.mk (below_drew1 HB.out)
            clear BK435
            clear HB
            have BK435 := n0_
            have HB := n1_
            clear n0_ n1_
            refine start_ (n := 9) (S := fun w' => w'.cell? ⟨gb435, 0, none⟩ = some (.int .i64 a0_0) ∧ w'.cell? ⟨gb435, 1, none⟩ = some (.int .i64 a0_1) ∧ w'.cell? ⟨gb435, 2, none⟩ = some (.int .i64 a0_2) ∧ w'.cell? ⟨gb435, 3, none⟩ = some (.int .i64 a0_3) ∧ w'.cell? ⟨gb435, 4, none⟩ = some (.int .i64 a0_4) ∧ w'.cell? ⟨gb435, 5, none⟩ = some (.int .i64 a0_5) ∧ w'.cell? ⟨gb435, 6, none⟩ = some (.int .i64 a0_6) ∧ w'.cell? ⟨gb435, 7, none⟩ = some (.int .i64 a0_7) ∧ w'.cell? ⟨gb435, 8, none⟩ = some (.int .i64 a0_8) ∧ w'.cell? ⟨gb435, 9, none⟩ = some (.int .i64 a0_9) ∧ w'.cell? ⟨gb435, 10, none⟩ = some (.int .i64 a0_10) ∧ w'.cell? ⟨gb435, 11, none⟩ = some (.int .i64 a0_11) ∧ w'.cell? ⟨gb435, 12, none⟩ = some (.int .i64 a0_12) ∧ w'.cell? ⟨gb435, 13, none⟩ = some (.slice A0_13 l0_13.length c0_13)) (ds := []) #[false, false, false, false, false, false, false, false, false] (by kernel_rfl) rfl rfl ⟨(blk_cell BK435.out 0).trans rfl, (blk_cell BK435.out 1).trans rfl, (blk_cell BK435.out 2).trans rfl, (blk_cell BK435.out 3).trans rfl, (blk_cell BK435.out 4).trans rfl, (blk_cell BK435.out 5).trans rfl, (blk_cell BK435.out 6).trans rfl, (blk_cell BK435.out 7).trans rfl, (blk_cell BK435.out 8).trans rfl, (blk_cell BK435.out 9).trans rfl, (blk_cell BK435.out 10).trans rfl, (blk_cell BK435.out 11).trans rfl, (blk_cell BK435.out 12).trans rfl, (blk_cell BK435.out 13).trans rfl⟩ (fun hHeld => ?_); refine with_tabW hourglasslaw22_ProgramAll.tab8 hourglasslaw22_ProgramAll.bits8 (fun HT_ HW_ => ?_)
            generalize wr.drew = w21 at BK435 HB hHeld ⊢
            refine take_ (i := 0) (N := some 24) (v := ?_) (a' := ?_) #[true, false, false, false, false, false, false, false, false] rfl rfl (take_ofW HT_.out HW_.out (by kernel_rfl)) (fun _ _ _ h => h) (Or.inl ⟨by rfl, ?_⟩) hHeld ?_ ?_
            rotate_left
            · rintro w' ⟨s0, s1, s2, s3, s4, s5, s6, s7, s8, s9, s10, s11, s12, s13⟩
              go_simp
              with_reducible rfl
            rotate_left
            · simp only [Act.put, List.setIfInBounds_toArray, List.set_cons_zero, List.set_cons_succ, i64_w, i32_w]
              rfl
            refine take_ (i := 2) (N := some 26) (v := ?_) (a' := ?_) #[true, false, true, false, false, false, false, false, false] rfl rfl (take_ofW HT_.out HW_.out (by kernel_rfl)) (fun _ _ _ h => h) (Or.inl ⟨by rfl, ?_⟩) hHeld ?_ ?_
            rotate_left
            · rintro w' ⟨s0, s1, s2, s3, s4, s5, s6, s7, s8, s9, s10, s11, s12, s13⟩
              go_simp
              with_reducible rfl
            rotate_left
            · simp only [Act.put, List.setIfInBounds_toArray, List.set_cons_zero, List.set_cons_succ, i64_w, i32_w]
              rfl
            refine one_ (i := 1) (N := some 25) #[true, true, true, false, false, false, false, false, false] rfl rfl (one_of HT_.out (by kernel_rfl)) (by decide) (fun K hK => ?_)
            refine goes_ Tryd.func37 (by kernel_rfl) rfl #[.agg #[.int .i64 a0_0, .int .i64 a0_1, .int .i64 a0_2, .int .i64 a0_3, .int .i64 a0_4, .int .i64 a0_5, .int .i64 a0_6, .int .i64 a0_7, .int .i64 a0_8, .int .i64 a0_9, .int .i64 a0_10, .int .i64 a0_11, .int .i64 a0_12, .slice A0_13 l0_13.length c0_13]] (by rfl) rfl rfl (by (try simp only [List.map_toArray, List.map_cons, List.map_nil]); first | done | rfl | (simp only [List.length_drop, List.length_take]; rfl)) ?_
            with_reducible refine (program_All.calls a0_0 a0_1 a0_2 a0_3 a0_4 a0_5 a0_6 a0_7 a0_8 a0_9 a0_10 a0_11 a0_12 _ _ l0_13 t439 _ ?side1 ?side2 A16.out).mono ?_
            (case side1 => repeat (first | exact (Kd.C_below HR0_13.out HB.out) | (with_reducible refine Kd.C_alloc ?_ _) | (with_reducible refine Kd.C_drewN ?_ _) | (with_reducible refine Kd.C_drew ?_)))
            (case side2 => exact HC0_13.out)
            rintro e w22 ⟨rfl, hb⟩
            refine ⟨_, rfl, ?_⟩
            have n0_ := Aside0.mk (blk_below (g := gb435) (o := .cells #[.int .i64 a0_0, .int .i64 a0_1, .int .i64 a0_2, .int .i64 a0_3, .int .i64 a0_4, .int .i64 a0_5, .int .i64 a0_6, .int .i64 a0_7, .int .i64 a0_8, .int .i64 a0_9, .int .i64 a0_10, .int .i64 a0_11, .int .i64 a0_12, .slice A0_13 l0_13.length c0_13] 65 (0, 0)) (by (with_reducible repeat (first | refine blk_drewN ?_ _ | refine blk_drew ?_ | refine blk_alloc ?_ _)); exact BK435.out) hb)
            have n1_ := Aside0.mk (below_step (by repeat (first | (with_reducible first | exact HB.out | apply below_alloc | apply pw_below_drewN | apply below_drew1 | refine below_set ?_ GE435.out) | exact HB.out)) hb)
            clear BK435
            clear HB
            have BK435 := n0_
            have HB := n1_
            clear n0_ n1_
            (try clear hb)
            (try clear hb2)
            (try clear hk)
            (try clear hi)
            refine hK.out _ _ ⟨(blk_cell BK435.out 0).trans rfl, (blk_cell BK435.out 1).trans rfl, (blk_cell BK435.out 2).trans rfl, (blk_cell BK435.out 3).trans rfl, (blk_cell BK435.out 4).trans rfl, (blk_cell BK435.out 5).trans rfl, (blk_cell BK435.out 6).trans rfl, (blk_cell BK435.out 7).trans rfl, (blk_cell BK435.out 8).trans rfl, (blk_cell BK435.out 9).trans rfl, (blk_cell BK435.out 10).trans rfl, (blk_cell BK435.out 11).trans rfl, (blk_cell BK435.out 12).trans rfl, (blk_cell BK435.out 13).trans rfl⟩ (fun hHeld => ?_)
            clear hK K
            refine norm_ (a' := ?_) ?_ ?_
            rotate_left
            · show Act.put _ (some 25) _ = _
              simp only [Act.put, List.setIfInBounds_toArray, List.set_cons_zero, List.set_cons_succ, i64_w, i32_w]
              rfl
            refine one_ (i := 3) (N := some 27) #[true, true, true, true, false, false, false, false, false] rfl rfl (one_of HT_.out (by kernel_rfl)) (by decide) (fun K hK => ?_)
            refine goes_ Tryd.func38 (by kernel_rfl) rfl #[.agg #[.int .i64 a0_0, .int .i64 a0_1, .int .i64 a0_2, .int .i64 a0_3, .int .i64 a0_4, .int .i64 a0_5, .int .i64 a0_6, .int .i64 a0_7, .int .i64 a0_8, .int .i64 a0_9, .int .i64 a0_10, .int .i64 a0_11, .int .i64 a0_12, .slice A0_13 l0_13.length c0_13]] (by rfl) rfl rfl (by (try simp only [List.map_toArray, List.map_cons, List.map_nil]); first | done | rfl | (simp only [List.length_drop, List.length_take]; rfl)) ?_
            with_reducible refine (hourglassref22_All.calls k1 a0_0 a0_1 a0_2 a0_3 a0_4 a0_5 a0_6 a0_7 a0_8 a0_9 a0_10 a0_11 a0_12 _ _ l0_13 t440 _ ?side1 ?side2 A17.out).mono ?_
            (case side1 => repeat (first | exact (Kd.C_below HR0_13.out HB.out) | (with_reducible refine Kd.C_alloc ?_ _) | (with_reducible refine Kd.C_drewN ?_ _) | (with_reducible refine Kd.C_drew ?_)))
            (case side2 => exact HC0_13.out)
            rintro e w23 ⟨rfl, hb⟩
            refine ⟨_, rfl, ?_⟩
            have n0_ := Aside0.mk (blk_below (g := gb435) (o := .cells #[.int .i64 a0_0, .int .i64 a0_1, .int .i64 a0_2, .int .i64 a0_3, .int .i64 a0_4, .int .i64 a0_5, .int .i64 a0_6, .int .i64 a0_7, .int .i64 a0_8, .int .i64 a0_9, .int .i64 a0_10, .int .i64 a0_11, .int .i64 a0_12, .slice A0_13 l0_13.length c0_13] 65 (0, 0)) (by (with_reducible repeat (first | refine blk_drewN ?_ _ | refine blk_drew ?_ | refine blk_alloc ?_ _)); exact BK435.out) hb)
            have n1_ := Aside0.mk (below_step (by repeat (first | (with_reducible first | exact HB.out | apply below_alloc | apply pw_below_drewN | apply below_drew1 | refine below_set ?_ GE435.out) | exact HB.out)) hb)
            clear BK435
            clear HB
            have BK435 := n0_
            have HB := n1_
            clear n0_ n1_
            (try clear hb)
            (try clear hb2)
            (try clear hk)
            (try clear hi)
            refine hK.out _ _ ⟨(blk_cell BK435.out 0).trans rfl, (blk_cell BK435.out 1).trans rfl, (blk_cell BK435.out 2).trans rfl, (blk_cell BK435.out 3).trans rfl, (blk_cell BK435.out 4).trans rfl, (blk_cell BK435.out 5).trans rfl, (blk_cell BK435.out 6).trans rfl, (blk_cell BK435.out 7).trans rfl, (blk_cell BK435.out 8).trans rfl, (blk_cell BK435.out 9).trans rfl, (blk_cell BK435.out 10).trans rfl, (blk_cell BK435.out 11).trans rfl, (blk_cell BK435.out 12).trans rfl, (blk_cell BK435.out 13).trans rfl⟩ (fun hHeld => ?_)
            clear hK K
            refine norm_ (a' := ?_) ?_ ?_
            rotate_left
            · show Act.put _ (some 27) _ = _
              simp only [Act.put, List.setIfInBounds_toArray, List.set_cons_zero, List.set_cons_succ, i64_w, i32_w]
              rfl
            refine pure_ (i := 4) (N := some 28) (v := ?_) (a' := ?_) #[true, true, true, true, true, false, false, false, false] rfl rfl (any_of HT_.out (by kernel_rfl)) (fun _ _ _ h => h) (Or.inl ⟨by rfl, ?_⟩) ?_ ?_
            rotate_left
            · intro w'
              go_simp
              with_reducible rfl
            rotate_left
            · simp only [Act.put, List.setIfInBounds_toArray, List.set_cons_zero, List.set_cons_succ, i64_w, i32_w]
              rfl
            refine pure_ (i := 5) (N := some 29) (v := ?_) (a' := ?_) #[true, true, true, true, true, true, false, false, false] rfl rfl (any_of HT_.out (by kernel_rfl)) (fun _ _ _ h => h) (Or.inl ⟨by rfl, ?_⟩) ?_ ?_
            rotate_left
            · intro w'
              go_simp
              with_reducible rfl
            rotate_left
            · simp only [Act.put, List.setIfInBounds_toArray, List.set_cons_zero, List.set_cons_succ, i64_w, i32_w]
              rfl
            refine one_ (i := 6) (N := some 30) #[true, true, true, true, true, true, true, false, false] rfl rfl (one_of HT_.out (by kernel_rfl)) (by decide) (fun K hK => ?_)
            refine goes_ Tryd.func24 (by kernel_rfl) rfl #[] (by rfl) rfl rfl (by (try simp only [List.map_toArray, List.map_cons, List.map_nil]); first | done | rfl | (simp only [List.length_drop, List.length_take]; rfl)) ?_
            with_reducible refine (hourglasslaw22_awake.calls k1  t441 _ A19.out (Env.below HE.out (by repeat (first | (with_reducible first | exact HB.out | apply below_alloc | apply pw_below_drewN | apply below_drew1) | exact HB.out)))).mono ?_
            rintro e w24 ⟨rfl, hb⟩
            refine ⟨_, rfl, ?_⟩
            have n0_ := Aside0.mk (blk_below (g := gb435) (o := .cells #[.int .i64 a0_0, .int .i64 a0_1, .int .i64 a0_2, .int .i64 a0_3, .int .i64 a0_4, .int .i64 a0_5, .int .i64 a0_6, .int .i64 a0_7, .int .i64 a0_8, .int .i64 a0_9, .int .i64 a0_10, .int .i64 a0_11, .int .i64 a0_12, .slice A0_13 l0_13.length c0_13] 65 (0, 0)) (by (with_reducible repeat (first | refine blk_drewN ?_ _ | refine blk_drew ?_ | refine blk_alloc ?_ _)); exact BK435.out) hb)
            have n1_ := Aside0.mk (below_step (by repeat (first | (with_reducible first | exact HB.out | apply below_alloc | apply pw_below_drewN | apply below_drew1 | refine below_set ?_ GE435.out) | exact HB.out)) hb)
            clear BK435
            clear HB
            have BK435 := n0_
            have HB := n1_
            clear n0_ n1_
            (try clear hb)
            (try clear hb2)
            (try clear hk)
            (try clear hi)
            refine hK.out _ _ ⟨(blk_cell BK435.out 0).trans rfl, (blk_cell BK435.out 1).trans rfl, (blk_cell BK435.out 2).trans rfl, (blk_cell BK435.out 3).trans rfl, (blk_cell BK435.out 4).trans rfl, (blk_cell BK435.out 5).trans rfl, (blk_cell BK435.out 6).trans rfl, (blk_cell BK435.out 7).trans rfl, (blk_cell BK435.out 8).trans rfl, (blk_cell BK435.out 9).trans rfl, (blk_cell BK435.out 10).trans rfl, (blk_cell BK435.out 11).trans rfl, (blk_cell BK435.out 12).trans rfl, (blk_cell BK435.out 13).trans rfl⟩ (fun hHeld => ?_)
            clear hK K
            refine norm_ (a' := ?_) ?_ ?_
            rotate_left
            · show Act.put _ (some 30) _ = _
              simp only [Act.put, List.setIfInBounds_toArray, List.set_cons_zero, List.set_cons_succ, i64_w, i32_w]
              rfl
            refine pure_ (i := 7) (N := some 31) (v := ?_) (a' := ?_) #[true, true, true, true, true, true, true, true, false] rfl rfl (any_of HT_.out (by kernel_rfl)) (fun _ _ _ h => h) (Or.inl ⟨by rfl, ?_⟩) ?_ ?_
            rotate_left
            · intro w'
              go_simp
              with_reducible rfl
            rotate_left
            · simp only [Act.put, List.setIfInBounds_toArray, List.set_cons_zero, List.set_cons_succ, i64_w, i32_w]
              rfl
            refine pure_ (i := 8) (N := some 2) (v := ?_) (a' := ?_) #[true, true, true, true, true, true, true, true, true] rfl rfl (any_of HT_.out (by kernel_rfl)) (fun _ _ _ h => h) (Or.inl ⟨by rfl, ?_⟩) ?_ ?_
            rotate_left
            · intro w'
              go_simp
              with_reducible rfl
            rotate_left
            · simp only [Act.put, List.setIfInBounds_toArray, List.set_cons_zero, List.set_cons_succ, i64_w, i32_w]
              rfl
            refine done_ (done_of HT_.out (by kernel_rfl)) ?_
            try go_wp2
            go_ret
            exact ⟨by first | rfl | (simp [errW_none, errW_some] <;> rfl) | (simp [*, errW_none, errW_some] <;> rfl), by repeat (first | (with_reducible first | exact HB.out | apply below_alloc | apply pw_below_drewN | apply below_drew1 | refine below_set ?_ GE435.out) | exact HB.out)⟩
          · rw [if_neg c18] at H
            have c18b0 : (t439 == t440) = false := by simpa using c18
            (try (have c18b1 : decide (t439 = t440) = false := by simpa using c18))
            (try (have c18b2 : (t439 == t440) = false := by simpa using c18))
            (try (have c18b3 : ¬ (t439 = t440) := by simpa using c18))
            clear c18
            obtain rfl := Option.some.inj H
            have hcz25_0 : wr.cell? ⟨gb435, 0, none⟩ = some (.int .i64 a0_0) := (blk_cell BK435.out 0).trans rfl
            have hcz25_1 : wr.cell? ⟨gb435, 1, none⟩ = some (.int .i64 a0_1) := (blk_cell BK435.out 1).trans rfl
            have hcz25_2 : wr.cell? ⟨gb435, 2, none⟩ = some (.int .i64 a0_2) := (blk_cell BK435.out 2).trans rfl
            have hcz25_3 : wr.cell? ⟨gb435, 3, none⟩ = some (.int .i64 a0_3) := (blk_cell BK435.out 3).trans rfl
            have hcz25_4 : wr.cell? ⟨gb435, 4, none⟩ = some (.int .i64 a0_4) := (blk_cell BK435.out 4).trans rfl
            have hcz25_5 : wr.cell? ⟨gb435, 5, none⟩ = some (.int .i64 a0_5) := (blk_cell BK435.out 5).trans rfl
            have hcz25_6 : wr.cell? ⟨gb435, 6, none⟩ = some (.int .i64 a0_6) := (blk_cell BK435.out 6).trans rfl
            have hcz25_7 : wr.cell? ⟨gb435, 7, none⟩ = some (.int .i64 a0_7) := (blk_cell BK435.out 7).trans rfl
            have hcz25_8 : wr.cell? ⟨gb435, 8, none⟩ = some (.int .i64 a0_8) := (blk_cell BK435.out 8).trans rfl
            have hcz25_9 : wr.cell? ⟨gb435, 9, none⟩ = some (.int .i64 a0_9) := (blk_cell BK435.out 9).trans rfl
            have hcz25_10 : wr.cell? ⟨gb435, 10, none⟩ = some (.int .i64 a0_10) := (blk_cell BK435.out 10).trans rfl
            have hcz25_11 : wr.cell? ⟨gb435, 11, none⟩ = some (.int .i64 a0_11) := (blk_cell BK435.out 11).trans rfl
            have hcz25_12 : wr.cell? ⟨gb435, 12, none⟩ = some (.int .i64 a0_12) := (blk_cell BK435.out 12).trans rfl
            have hcz25_13 : wr.cell? ⟨gb435, 13, none⟩ = some (.slice A0_13 l0_13.length c0_13) := (blk_cell BK435.out 13).trans rfl
            have hfz25_0 := blk_frozen BK435.out 0
            have hfz25_1 := blk_frozen BK435.out 1
            have hfz25_2 := blk_frozen BK435.out 2
            have hfz25_3 := blk_frozen BK435.out 3
            have hfz25_4 := blk_frozen BK435.out 4
            have hfz25_5 := blk_frozen BK435.out 5
            have hfz25_6 := blk_frozen BK435.out 6
            have hfz25_7 := blk_frozen BK435.out 7
            have hfz25_8 := blk_frozen BK435.out 8
            have hfz25_9 := blk_frozen BK435.out 9
            have hfz25_10 := blk_frozen BK435.out 10
            have hfz25_11 := blk_frozen BK435.out 11
            have hfz25_12 := blk_frozen BK435.out 12
            have hfz25_13 := blk_frozen BK435.out 13
            try go_wp2
            have n0_ := Aside0.mk (blk_drew BK435.out)
            have n1_ := Aside0.mk (below_drew1 HB.out)
            clear BK435
            clear HB
            have BK435 := n0_
            have HB := n1_
            clear n0_ n1_
            refine start_ (n := 9) (S := fun w' => w'.cell? ⟨gb435, 0, none⟩ = some (.int .i64 a0_0) ∧ w'.cell? ⟨gb435, 1, none⟩ = some (.int .i64 a0_1) ∧ w'.cell? ⟨gb435, 2, none⟩ = some (.int .i64 a0_2) ∧ w'.cell? ⟨gb435, 3, none⟩ = some (.int .i64 a0_3) ∧ w'.cell? ⟨gb435, 4, none⟩ = some (.int .i64 a0_4) ∧ w'.cell? ⟨gb435, 5, none⟩ = some (.int .i64 a0_5) ∧ w'.cell? ⟨gb435, 6, none⟩ = some (.int .i64 a0_6) ∧ w'.cell? ⟨gb435, 7, none⟩ = some (.int .i64 a0_7) ∧ w'.cell? ⟨gb435, 8, none⟩ = some (.int .i64 a0_8) ∧ w'.cell? ⟨gb435, 9, none⟩ = some (.int .i64 a0_9) ∧ w'.cell? ⟨gb435, 10, none⟩ = some (.int .i64 a0_10) ∧ w'.cell? ⟨gb435, 11, none⟩ = some (.int .i64 a0_11) ∧ w'.cell? ⟨gb435, 12, none⟩ = some (.int .i64 a0_12) ∧ w'.cell? ⟨gb435, 13, none⟩ = some (.slice A0_13 l0_13.length c0_13)) (ds := []) #[false, false, false, false, false, false, false, false, false] (by kernel_rfl) rfl rfl ⟨(blk_cell BK435.out 0).trans rfl, (blk_cell BK435.out 1).trans rfl, (blk_cell BK435.out 2).trans rfl, (blk_cell BK435.out 3).trans rfl, (blk_cell BK435.out 4).trans rfl, (blk_cell BK435.out 5).trans rfl, (blk_cell BK435.out 6).trans rfl, (blk_cell BK435.out 7).trans rfl, (blk_cell BK435.out 8).trans rfl, (blk_cell BK435.out 9).trans rfl, (blk_cell BK435.out 10).trans rfl, (blk_cell BK435.out 11).trans rfl, (blk_cell BK435.out 12).trans rfl, (blk_cell BK435.out 13).trans rfl⟩ (fun hHeld => ?_); refine with_tabW hourglasslaw22_ProgramAll.tab8 hourglasslaw22_ProgramAll.bits8 (fun HT_ HW_ => ?_)
            generalize wr.drew = w26 at BK435 HB hHeld ⊢
            refine take_ (i := 0) (N := some 24) (v := ?_) (a' := ?_) #[true, false, false, false, false, false, false, false, false] rfl rfl (take_ofW HT_.out HW_.out (by kernel_rfl)) (fun _ _ _ h => h) (Or.inl ⟨by rfl, ?_⟩) hHeld ?_ ?_
            rotate_left
            · rintro w' ⟨s0, s1, s2, s3, s4, s5, s6, s7, s8, s9, s10, s11, s12, s13⟩
              go_simp
              with_reducible rfl
            rotate_left
            · simp only [Act.put, List.setIfInBounds_toArray, List.set_cons_zero, List.set_cons_succ, i64_w, i32_w]
              rfl
            refine take_ (i := 2) (N := some 26) (v := ?_) (a' := ?_) #[true, false, true, false, false, false, false, false, false] rfl rfl (take_ofW HT_.out HW_.out (by kernel_rfl)) (fun _ _ _ h => h) (Or.inl ⟨by rfl, ?_⟩) hHeld ?_ ?_
            rotate_left
            · rintro w' ⟨s0, s1, s2, s3, s4, s5, s6, s7, s8, s9, s10, s11, s12, s13⟩
              go_simp
              with_reducible rfl
            rotate_left
            · simp only [Act.put, List.setIfInBounds_toArray, List.set_cons_zero, List.set_cons_succ, i64_w, i32_w]
              rfl
            refine one_ (i := 1) (N := some 25) #[true, true, true, false, false, false, false, false, false] rfl rfl (one_of HT_.out (by kernel_rfl)) (by decide) (fun K hK => ?_)
            refine goes_ Tryd.func37 (by kernel_rfl) rfl #[.agg #[.int .i64 a0_0, .int .i64 a0_1, .int .i64 a0_2, .int .i64 a0_3, .int .i64 a0_4, .int .i64 a0_5, .int .i64 a0_6, .int .i64 a0_7, .int .i64 a0_8, .int .i64 a0_9, .int .i64 a0_10, .int .i64 a0_11, .int .i64 a0_12, .slice A0_13 l0_13.length c0_13]] (by rfl) rfl rfl (by (try simp only [List.map_toArray, List.map_cons, List.map_nil]); first | done | rfl | (simp only [List.length_drop, List.length_take]; rfl)) ?_
            with_reducible refine (program_All.calls a0_0 a0_1 a0_2 a0_3 a0_4 a0_5 a0_6 a0_7 a0_8 a0_9 a0_10 a0_11 a0_12 _ _ l0_13 t439 _ ?side1 ?side2 A16.out).mono ?_
            (case side1 => repeat (first | exact (Kd.C_below HR0_13.out HB.out) | (with_reducible refine Kd.C_alloc ?_ _) | (with_reducible refine Kd.C_drewN ?_ _) | (with_reducible refine Kd.C_drew ?_)))
            (case side2 => exact HC0_13.out)
            rintro e w27 ⟨rfl, hb⟩
            refine ⟨_, rfl, ?_⟩
            have n0_ := Aside0.mk (blk_below (g := gb435) (o := .cells #[.int .i64 a0_0, .int .i64 a0_1, .int .i64 a0_2, .int .i64 a0_3, .int .i64 a0_4, .int .i64 a0_5, .int .i64 a0_6, .int .i64 a0_7, .int .i64 a0_8, .int .i64 a0_9, .int .i64 a0_10, .int .i64 a0_11, .int .i64 a0_12, .slice A0_13 l0_13.length c0_13] 65 (0, 0)) (by (with_reducible repeat (first | refine blk_drewN ?_ _ | refine blk_drew ?_ | refine blk_alloc ?_ _)); exact BK435.out) hb)
            have n1_ := Aside0.mk (below_step (by repeat (first | (with_reducible first | exact HB.out | apply below_alloc | apply pw_below_drewN | apply below_drew1 | refine below_set ?_ GE435.out) | exact HB.out)) hb)
            clear BK435
            clear HB
            have BK435 := n0_
            have HB := n1_
            clear n0_ n1_
            (try clear hb)
            (try clear hb2)
            (try clear hk)
            (try clear hi)
            refine hK.out _ _ ⟨(blk_cell BK435.out 0).trans rfl, (blk_cell BK435.out 1).trans rfl, (blk_cell BK435.out 2).trans rfl, (blk_cell BK435.out 3).trans rfl, (blk_cell BK435.out 4).trans rfl, (blk_cell BK435.out 5).trans rfl, (blk_cell BK435.out 6).trans rfl, (blk_cell BK435.out 7).trans rfl, (blk_cell BK435.out 8).trans rfl, (blk_cell BK435.out 9).trans rfl, (blk_cell BK435.out 10).trans rfl, (blk_cell BK435.out 11).trans rfl, (blk_cell BK435.out 12).trans rfl, (blk_cell BK435.out 13).trans rfl⟩ (fun hHeld => ?_)
            clear hK K
            refine norm_ (a' := ?_) ?_ ?_
            rotate_left
            · show Act.put _ (some 25) _ = _
              simp only [Act.put, List.setIfInBounds_toArray, List.set_cons_zero, List.set_cons_succ, i64_w, i32_w]
              rfl
            refine one_ (i := 3) (N := some 27) #[true, true, true, true, false, false, false, false, false] rfl rfl (one_of HT_.out (by kernel_rfl)) (by decide) (fun K hK => ?_)
            refine goes_ Tryd.func38 (by kernel_rfl) rfl #[.agg #[.int .i64 a0_0, .int .i64 a0_1, .int .i64 a0_2, .int .i64 a0_3, .int .i64 a0_4, .int .i64 a0_5, .int .i64 a0_6, .int .i64 a0_7, .int .i64 a0_8, .int .i64 a0_9, .int .i64 a0_10, .int .i64 a0_11, .int .i64 a0_12, .slice A0_13 l0_13.length c0_13]] (by rfl) rfl rfl (by (try simp only [List.map_toArray, List.map_cons, List.map_nil]); first | done | rfl | (simp only [List.length_drop, List.length_take]; rfl)) ?_
            with_reducible refine (hourglassref22_All.calls k1 a0_0 a0_1 a0_2 a0_3 a0_4 a0_5 a0_6 a0_7 a0_8 a0_9 a0_10 a0_11 a0_12 _ _ l0_13 t440 _ ?side1 ?side2 A17.out).mono ?_
            (case side1 => repeat (first | exact (Kd.C_below HR0_13.out HB.out) | (with_reducible refine Kd.C_alloc ?_ _) | (with_reducible refine Kd.C_drewN ?_ _) | (with_reducible refine Kd.C_drew ?_)))
            (case side2 => exact HC0_13.out)
            rintro e w28 ⟨rfl, hb⟩
            refine ⟨_, rfl, ?_⟩
            have n0_ := Aside0.mk (blk_below (g := gb435) (o := .cells #[.int .i64 a0_0, .int .i64 a0_1, .int .i64 a0_2, .int .i64 a0_3, .int .i64 a0_4, .int .i64 a0_5, .int .i64 a0_6, .int .i64 a0_7, .int .i64 a0_8, .int .i64 a0_9, .int .i64 a0_10, .int .i64 a0_11, .int .i64 a0_12, .slice A0_13 l0_13.length c0_13] 65 (0, 0)) (by (with_reducible repeat (first | refine blk_drewN ?_ _ | refine blk_drew ?_ | refine blk_alloc ?_ _)); exact BK435.out) hb)
            have n1_ := Aside0.mk (below_step (by repeat (first | (with_reducible first | exact HB.out | apply below_alloc | apply pw_below_drewN | apply below_drew1 | refine below_set ?_ GE435.out) | exact HB.out)) hb)
            clear BK435
            clear HB
            have BK435 := n0_
            have HB := n1_
            clear n0_ n1_
            (try clear hb)
            (try clear hb2)
            (try clear hk)
            (try clear hi)
            refine hK.out _ _ ⟨(blk_cell BK435.out 0).trans rfl, (blk_cell BK435.out 1).trans rfl, (blk_cell BK435.out 2).trans rfl, (blk_cell BK435.out 3).trans rfl, (blk_cell BK435.out 4).trans rfl, (blk_cell BK435.out 5).trans rfl, (blk_cell BK435.out 6).trans rfl, (blk_cell BK435.out 7).trans rfl, (blk_cell BK435.out 8).trans rfl, (blk_cell BK435.out 9).trans rfl, (blk_cell BK435.out 10).trans rfl, (blk_cell BK435.out 11).trans rfl, (blk_cell BK435.out 12).trans rfl, (blk_cell BK435.out 13).trans rfl⟩ (fun hHeld => ?_)
            clear hK K
            refine norm_ (a' := ?_) ?_ ?_
            rotate_left
            · show Act.put _ (some 27) _ = _
              simp only [Act.put, List.setIfInBounds_toArray, List.set_cons_zero, List.set_cons_succ, i64_w, i32_w]
              rfl
            refine pure_ (i := 4) (N := some 28) (v := ?_) (a' := ?_) #[true, true, true, true, true, false, false, false, false] rfl rfl (any_of HT_.out (by kernel_rfl)) (fun _ _ _ h => h) (Or.inl ⟨by rfl, ?_⟩) ?_ ?_
            rotate_left
            · intro w'
              go_simp
              with_reducible rfl
            rotate_left
            · simp only [Act.put, List.setIfInBounds_toArray, List.set_cons_zero, List.set_cons_succ, i64_w, i32_w]
              rfl
            refine pure_ (i := 5) (N := some 29) (v := ?_) (a' := ?_) #[true, true, true, true, true, true, false, false, false] rfl rfl (any_of HT_.out (by kernel_rfl)) (fun _ _ _ h => h) (Or.inl ⟨by rfl, ?_⟩) ?_ ?_
            rotate_left
            · intro w'
              go_simp
              with_reducible rfl
            rotate_left
            · simp only [Act.put, List.setIfInBounds_toArray, List.set_cons_zero, List.set_cons_succ, i64_w, i32_w]
              rfl
            refine pure_ (i := 6) (N := some 30) (v := undef) (a' := ?_) #[true, true, true, true, true, true, true, false, false] rfl rfl (any_of HT_.out (by kernel_rfl)) (fun _ _ _ h => h) (Or.inr ⟨by rfl, rfl⟩) ?_ ?_
            rotate_left
            · simp only [Act.put, List.setIfInBounds_toArray, List.set_cons_zero, List.set_cons_succ, i64_w, i32_w]
              rfl
            refine pure_ (i := 7) (N := some 31) (v := ?_) (a' := ?_) #[true, true, true, true, true, true, true, true, false] rfl rfl (any_of HT_.out (by kernel_rfl)) (fun _ _ _ h => h) (Or.inl ⟨by rfl, ?_⟩) ?_ ?_
            rotate_left
            · intro w'
              go_simp
              with_reducible rfl
            rotate_left
            · simp only [Act.put, List.setIfInBounds_toArray, List.set_cons_zero, List.set_cons_succ, i64_w, i32_w]
              rfl
            refine pure_ (i := 8) (N := some 2) (v := ?_) (a' := ?_) #[true, true, true, true, true, true, true, true, true] rfl rfl (any_of HT_.out (by kernel_rfl)) (fun _ _ _ h => h) (Or.inl ⟨by rfl, ?_⟩) ?_ ?_
            rotate_left
            · intro w'
              go_simp
              with_reducible rfl
            rotate_left
            · simp only [Act.put, List.setIfInBounds_toArray, List.set_cons_zero, List.set_cons_succ, i64_w, i32_w]
              rfl
            refine done_ (done_of HT_.out (by kernel_rfl)) ?_
            try go_wp2
            go_ret
            exact ⟨by first | rfl | (simp [errW_none, errW_some] <;> rfl) | (simp [*, errW_none, errW_some] <;> rfl), by repeat (first | (with_reducible first | exact HB.out | apply below_alloc | apply pw_below_drewN | apply below_drew1 | refine below_set ?_ GE435.out) | exact HB.out)⟩

end Go.Proofs.YthfjjdkaplibmaaDoor.Pr
