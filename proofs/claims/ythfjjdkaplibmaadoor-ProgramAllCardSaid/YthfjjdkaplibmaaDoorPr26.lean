import Derived.Test.YthfjjdkaplibmaaDoorGB
import Derived.Test.YthfjjdkaplibmaaDoorPr20
-- Written by wip/pr.py over the translation. Lean checks it.
namespace Go.Proofs.YthfjjdkaplibmaaDoor.Pr
open Go.RowKit Go.Proofs.YthfjjdkaplibmaaDoorW.PrintWords Go.Proofs.YthfjjdkaplibmaaDoorW.PrintLast Go.Proofs.YthfjjdkaplibmaaDoorW.PrintMore
attribute [local go_sem] max2_int min2_int max_two min_two max_three min_three max_four min_four   -- for this text's walks alone
set_option linter.unusedVariables false
set_option linter.unusedSimpArgs false

/-! ### hourglassref22_All: function 38 -/
def hourglassref22_All.l0 : Nat → Int → Int → Int → Int → Int → Int → Int → Int → Int → Int → Int → Int → Int → Int → List (List (S51)) → Option (Bool)
  | 0, _, _, _, _, _, _, _, _, _, _, _, _, _, _, _ => none
  | k + 1, x3, x433000, x433001, x433002, x433003, x433004, x433005, x433006, x433007, x433008, x433009, x433010, x433011, x433012, x433013 => if x3 < (x433013.length : Int) then (if 0 ≤ x3 then ((hourglassref22_Right.f k (rd_L5 x433013 x3) x433000 (x433013.length : Int)).bind fun t434 => (if t434 = true then (hourglassref22_All.l0 k (wrap64 (x3 + 1)) x433000 x433001 x433002 x433003 x433004 x433005 x433006 x433007 x433008 x433009 x433010 x433011 x433012 x433013) else (some false))) else (none)) else (some true)
def hourglassref22_All.f (k : Nat) (a0_0 : Int) (a0_1 : Int) (a0_2 : Int) (a0_3 : Int) (a0_4 : Int) (a0_5 : Int) (a0_6 : Int) (a0_7 : Int) (a0_8 : Int) (a0_9 : Int) (a0_10 : Int) (a0_11 : Int) (a0_12 : Int) (l0_13 : List (List (S51))) : Option (Bool) := hourglassref22_All.l0 k 0 a0_0 a0_1 a0_2 a0_3 a0_4 a0_5 a0_6 a0_7 a0_8 a0_9 a0_10 a0_11 a0_12 l0_13
theorem hourglassref22_All.mono_l : ∀ k, (∀ y0 y1 y2 y3 y4 y5 y6 y7 y8 y9 y10 y11 y12 y13 y14, LeO (hourglassref22_All.l0 k y0 y1 y2 y3 y4 y5 y6 y7 y8 y9 y10 y11 y12 y13 y14) (hourglassref22_All.l0 (k + 1) y0 y1 y2 y3 y4 y5 y6 y7 y8 y9 y10 y11 y12 y13 y14))
  | 0 => fun _ _ _ _ _ _ _ _ _ _ _ _ _ _ _ r h => by simp [hourglassref22_All.l0] at h
  | k + 1 => by
    have ih0 := hourglassref22_All.mono_l k
    · intro y0 y1 y2 y3 y4 y5 y6 y7 y8 y9 y10 y11 y12 y13 y14
      unfold hourglassref22_All.l0
      repeat' first
      | (with_reducible exact ih0 _ _ _ _ _ _ _ _ _ _ _ _ _ _ _)
      | (with_reducible exact hourglassref22_Right.mono _ _ _ _)
      | (with_reducible exact LeO.refl _)
      | (with_reducible exact LeO.none _)
      | (with_reducible refine LeO.ite ?_ ?_)
      | (with_reducible refine LeO.bind ?_ (fun _ => ?_))
      | exact ih0 _ _ _ _ _ _ _ _ _ _ _ _ _ _ _
      | exact hourglassref22_Right.mono _ _ _ _
      | exact LeO.none _
      | refine LeO.ite ?_ ?_
      | refine LeO.bind ?_ (fun _ => ?_)
theorem hourglassref22_All.mono : ∀ a0 a1 a2 a3 a4 a5 a6 a7 a8 a9 a10 a11 a12 a13 k, LeO (hourglassref22_All.f k a0 a1 a2 a3 a4 a5 a6 a7 a8 a9 a10 a11 a12 a13) (hourglassref22_All.f (k + 1) a0 a1 a2 a3 a4 a5 a6 a7 a8 a9 a10 a11 a12 a13) := by
  intro a0 a1 a2 a3 a4 a5 a6 a7 a8 a9 a10 a11 a12 a13 k
  have ih0 := hourglassref22_All.mono_l k
  unfold hourglassref22_All.f
  repeat' first
      | (with_reducible exact ih0 _ _ _ _ _ _ _ _ _ _ _ _ _ _ _)
      | (with_reducible exact hourglassref22_Right.mono _ _ _ _)
      | (with_reducible exact LeO.refl _)
      | (with_reducible exact LeO.none _)
      | (with_reducible refine LeO.ite ?_ ?_)
      | (with_reducible refine LeO.bind ?_ (fun _ => ?_))
      | exact ih0 _ _ _ _ _ _ _ _ _ _ _ _ _ _ _
      | exact hourglassref22_Right.mono _ _ _ _
      | exact LeO.none _
      | refine LeO.ite ?_ ?_
      | refine LeO.bind ?_ (fun _ => ?_)
def hourglassref22_All.T4 : Bool × List (List Nat × List Nat) := (true, [([], []), ([0], [0]), ([], []), ([1, 2], [1, 2]), ([3], [3]), ([], []), ([5], [5]), ([], []), ([7], [7]), ([8], [8]), ([4, 6, 9], [4, 6, 9]), ([10], [10])])
def hourglassref22_All.B4 : List Nat := [0, 1, 0, 7, 15, 0, 32, 0, 128, 384, 1023, 2047]
theorem hourglassref22_All.tab4 : rtab .any (opsOf Tryd.f38 4) = hourglassref22_All.T4 := by kernel_rfl
theorem hourglassref22_All.bits4 : waitsOk hourglassref22_All.T4.2 hourglassref22_All.B4 = true := by kernel_rfl
set_option maxHeartbeats 8000000 in
set_option maxRecDepth 100000 in
theorem hourglassref22_All.calls (k : Nat) (a0_0 : Int) (a0_1 : Int) (a0_2 : Int) (a0_3 : Int) (a0_4 : Int) (a0_5 : Int) (a0_6 : Int) (a0_7 : Int) (a0_8 : Int) (a0_9 : Int) (a0_10 : Int) (a0_11 : Int) (a0_12 : Int) (A0_13 : Option Addr) (c0_13 : Nat) (l0_13 : List (List (S51))) (r : Bool) (w : World) (hr0_13 : Kd.C (Kd.slice 51 k51) w A0_13 l0_13.length l0_13) (hc0_13 : l0_13.length ≤ c0_13) (h : hourglassref22_All.f k a0_0 a0_1 a0_2 a0_3 a0_4 a0_5 a0_6 a0_7 a0_8 a0_9 a0_10 a0_11 a0_12 l0_13 = some r) :
    Calls Tryd.prog 38 #[.agg #[.int .i64 a0_0, .int .i64 a0_1, .int .i64 a0_2, .int .i64 a0_3, .int .i64 a0_4, .int .i64 a0_5, .int .i64 a0_6, .int .i64 a0_7, .int .i64 a0_8, .int .i64 a0_9, .int .i64 a0_10, .int .i64 a0_11, .int .i64 a0_12, .slice A0_13 l0_13.length c0_13]] w fun e w' => e = .returned (.bool r) ∧ Below w.heap.size w w' := by
  have hu65 := Tryd.underlying65
  have HR0_13 := Aside0.mk hr0_13
  have HC0_13 := Aside0.mk hc0_13
  clear hr0_13 hc0_13
  have HB := Aside0.mk (Below.refl w.heap.size w)
  have H : (hourglassref22_All.l0 k 0 a0_0 a0_1 a0_2 a0_3 a0_4 a0_5 a0_6 a0_7 a0_8 a0_9 a0_10 a0_11 a0_12 l0_13) = some r := h
  clear h
  have H' := Aside0.mk H
  clear H
  go_enter Tryd.func38, Tryd.ntmps38
  go_wp2_with (first | ((with_reducible refine gate_dst (N := 1) rfl ?_); refine box_event ?hg (N := 1) ?hd (cs := #[.int .i64 a0_0, .int .i64 a0_1, .int .i64 a0_2, .int .i64 a0_3, .int .i64 a0_4, .int .i64 a0_5, .int .i64 a0_6, .int .i64 a0_7, .int .i64 a0_8, .int .i64 a0_9, .int .i64 a0_10, .int .i64 a0_11, .int .i64 a0_12, .slice A0_13 l0_13.length c0_13]) (t := 65) ?hr ?_; (case hd => rfl); (case hg => rfl); (case hr => first | (go_simp; done) | (go_simp; rfl)); intro gb432 hg w2 hbox hb; have n0_ := Aside0.mk (below_step (by repeat (first | (with_reducible first | exact HB.out | apply below_alloc | apply pw_below_drewN | apply below_drew1) | exact HB.out)) hb); have n1_ := Aside0.mk (hbox); have n2_ := Aside0.mk ((by rw [hg]; exact (below_size (by repeat (first | (with_reducible first | exact HB.out | apply below_alloc | apply pw_below_drewN | apply below_drew1) | exact HB.out))) : w.heap.size ≤ gb432)); have n3_ := Aside0.mk ((by rw [hg]; exact (below_size (by repeat (first | (with_reducible first | exact HB.out | apply below_alloc | apply pw_below_drewN | apply below_drew1) | exact HB.out))) : w.heap.size ≤ gb432)); clear HB; have HB := n0_; have BK432 := n1_; have GW432 := n2_; have GE432 := n3_; clear n0_ n1_ n2_ n3_; clear hb hbox hg))
  go_loopg [3] k (fun kq v3 w' => ∃ (x3_1 : Int), v3 = .int .i64 x3_1 ∧ Aside0 (hourglassref22_All.l0 kq x3_1 a0_0 a0_1 a0_2 a0_3 a0_4 a0_5 a0_6 a0_7 a0_8 a0_9 a0_10 a0_11 a0_12 l0_13 = some r) ∧ Aside0 (kq ≤ k) ∧ Aside0 (w'.heap[gb432]? = some (.cells #[.int .i64 a0_0, .int .i64 a0_1, .int .i64 a0_2, .int .i64 a0_3, .int .i64 a0_4, .int .i64 a0_5, .int .i64 a0_6, .int .i64 a0_7, .int .i64 a0_8, .int .i64 a0_9, .int .i64 a0_10, .int .i64 a0_11, .int .i64 a0_12, (.slice A0_13 l0_13.length c0_13)] 65 (0, 0))) ∧ Aside0 (Below w.heap.size w w'))
  case atStart => exact ⟨(0), (by first | rfl | (simp; done) | (simp [*]; done)), H', ⟨Nat.le_refl _⟩, ⟨by (with_reducible repeat (first | refine blk_drewN ?_ _ | refine blk_drew ?_ | refine blk_alloc ?_ _)); exact BK432.out⟩, ⟨by repeat (first | (with_reducible first | exact HB.out | apply below_alloc | apply pw_below_drewN | apply below_drew1 | refine below_set ?_ GE432.out) | exact HB.out)⟩⟩
  case round =>
    clear H'
    try clear p2
    obtain ⟨x3_1, rfl, HA, HK1, BK432, HB⟩ := hrel
    cases gk with
    | zero => exact absurd HA.out (by simp [hourglassref22_All.l0])
    | succ k1 =>
      have H := HA.out
      clear HA
      simp only [hourglassref22_All.l0] at H
      by_cases c3 : x3_1 < (l0_13.length : Int)
      · rw [if_pos c3] at H
        have c3b0 : decide (x3_1 < (l0_13.length : Int)) = true := decide_eq_true c3
        clear c3
        by_cases c4 : 0 ≤ x3_1
        · rw [if_pos c4] at H
          have c4b0 : decide (0 ≤ x3_1) = true := decide_eq_true c4
          clear c4
          replace H := Option.bind_eq_some_iff.mp H
          obtain ⟨t434, A50, H⟩ := H
          replace H : (if t434 = true then (hourglassref22_All.l0 k1 (wrap64 (x3_1 + 1)) a0_0 a0_1 a0_2 a0_3 a0_4 a0_5 a0_6 a0_7 a0_8 a0_9 a0_10 a0_11 a0_12 l0_13) else (some false)) = some r := H
          have A5 := Aside0.mk A50
          clear A50
          by_cases c6 : t434 = true
          · subst c6
            have H1 : (hourglassref22_All.l0 k1 (wrap64 (x3_1 + 1)) a0_0 a0_1 a0_2 a0_3 a0_4 a0_5 a0_6 a0_7 a0_8 a0_9 a0_10 a0_11 a0_12 l0_13) = some r := by rw [if_pos rfl] at H; exact H
            clear H
            have H := H1
            clear H1
            have H' := Aside0.mk H
            clear H
            have hcz7_0 : wr.cell? ⟨gb432, 0, none⟩ = some (.int .i64 a0_0) := (blk_cell BK432.out 0).trans rfl
            have hcz7_1 : wr.cell? ⟨gb432, 1, none⟩ = some (.int .i64 a0_1) := (blk_cell BK432.out 1).trans rfl
            have hcz7_2 : wr.cell? ⟨gb432, 2, none⟩ = some (.int .i64 a0_2) := (blk_cell BK432.out 2).trans rfl
            have hcz7_3 : wr.cell? ⟨gb432, 3, none⟩ = some (.int .i64 a0_3) := (blk_cell BK432.out 3).trans rfl
            have hcz7_4 : wr.cell? ⟨gb432, 4, none⟩ = some (.int .i64 a0_4) := (blk_cell BK432.out 4).trans rfl
            have hcz7_5 : wr.cell? ⟨gb432, 5, none⟩ = some (.int .i64 a0_5) := (blk_cell BK432.out 5).trans rfl
            have hcz7_6 : wr.cell? ⟨gb432, 6, none⟩ = some (.int .i64 a0_6) := (blk_cell BK432.out 6).trans rfl
            have hcz7_7 : wr.cell? ⟨gb432, 7, none⟩ = some (.int .i64 a0_7) := (blk_cell BK432.out 7).trans rfl
            have hcz7_8 : wr.cell? ⟨gb432, 8, none⟩ = some (.int .i64 a0_8) := (blk_cell BK432.out 8).trans rfl
            have hcz7_9 : wr.cell? ⟨gb432, 9, none⟩ = some (.int .i64 a0_9) := (blk_cell BK432.out 9).trans rfl
            have hcz7_10 : wr.cell? ⟨gb432, 10, none⟩ = some (.int .i64 a0_10) := (blk_cell BK432.out 10).trans rfl
            have hcz7_11 : wr.cell? ⟨gb432, 11, none⟩ = some (.int .i64 a0_11) := (blk_cell BK432.out 11).trans rfl
            have hcz7_12 : wr.cell? ⟨gb432, 12, none⟩ = some (.int .i64 a0_12) := (blk_cell BK432.out 12).trans rfl
            have hcz7_13 : wr.cell? ⟨gb432, 13, none⟩ = some (.slice A0_13 l0_13.length c0_13) := (blk_cell BK432.out 13).trans rfl
            have hfz7_0 := blk_frozen BK432.out 0
            have hfz7_1 := blk_frozen BK432.out 1
            have hfz7_2 := blk_frozen BK432.out 2
            have hfz7_3 := blk_frozen BK432.out 3
            have hfz7_4 := blk_frozen BK432.out 4
            have hfz7_5 := blk_frozen BK432.out 5
            have hfz7_6 := blk_frozen BK432.out 6
            have hfz7_7 := blk_frozen BK432.out 7
            have hfz7_8 := blk_frozen BK432.out 8
            have hfz7_9 := blk_frozen BK432.out 9
            have hfz7_10 := blk_frozen BK432.out 10
            have hfz7_11 := blk_frozen BK432.out 11
            have hfz7_12 := blk_frozen BK432.out 12
            have hfz7_13 := blk_frozen BK432.out 13
            try go_wp2
            have n0_ := Aside0.mk (blk_drew BK432.out)
            have n1_ := Aside0.mk (below_drew1 HB.out)
            clear BK432
            clear HB
            have BK432 := n0_
            have HB := n1_
            clear n0_ n1_
            have p433 : 0 ≤ (x3_1 : Int) := of_decide_eq_true (by first | (with_reducible assumption) | assumption)
            have q433 : x3_1 < (l0_13.length : Int) := of_decide_eq_true (by first | (with_reducible assumption) | assumption)
            obtain ⟨ad433, A433_0, c433_0, e433, hx433_0, hl433_0, hi433_0⟩ := at_L5 HR0_13.out x3_1 p433 q433
            have hw433_0 := hx433_0
            cases e433
            replace hx433_0 := (HB.out.cell (World.block_lt_of_cell? w _ hx433_0)).trans hx433_0
            have HR433_0 := Aside0.mk hi433_0
            have HC433_0 := Aside0.mk hl433_0
            clear hi433_0 hl433_0
            replace p433 := eq_true p433
            replace q433 := eq_true q433
            refine start_ (n := 12) (S := fun w' => w'.cell? ⟨gb432, 0, none⟩ = some (.int .i64 a0_0) ∧ w'.cell? ⟨gb432, 1, none⟩ = some (.int .i64 a0_1) ∧ w'.cell? ⟨gb432, 2, none⟩ = some (.int .i64 a0_2) ∧ w'.cell? ⟨gb432, 3, none⟩ = some (.int .i64 a0_3) ∧ w'.cell? ⟨gb432, 4, none⟩ = some (.int .i64 a0_4) ∧ w'.cell? ⟨gb432, 5, none⟩ = some (.int .i64 a0_5) ∧ w'.cell? ⟨gb432, 6, none⟩ = some (.int .i64 a0_6) ∧ w'.cell? ⟨gb432, 7, none⟩ = some (.int .i64 a0_7) ∧ w'.cell? ⟨gb432, 8, none⟩ = some (.int .i64 a0_8) ∧ w'.cell? ⟨gb432, 9, none⟩ = some (.int .i64 a0_9) ∧ w'.cell? ⟨gb432, 10, none⟩ = some (.int .i64 a0_10) ∧ w'.cell? ⟨gb432, 11, none⟩ = some (.int .i64 a0_11) ∧ w'.cell? ⟨gb432, 12, none⟩ = some (.int .i64 a0_12) ∧ w'.cell? ⟨gb432, 13, none⟩ = some (.slice (some ad433) l0_13.length c0_13) ∧ w'.cell? (ad433.add (x3_1).toNat) = some (.slice A433_0 (rd_L5 l0_13 x3_1).length c433_0)) (ds := []) #[false, false, false, false, false, false, false, false, false, false, false, false] (by kernel_rfl) rfl rfl ⟨(blk_cell BK432.out 0).trans rfl, (blk_cell BK432.out 1).trans rfl, (blk_cell BK432.out 2).trans rfl, (blk_cell BK432.out 3).trans rfl, (blk_cell BK432.out 4).trans rfl, (blk_cell BK432.out 5).trans rfl, (blk_cell BK432.out 6).trans rfl, (blk_cell BK432.out 7).trans rfl, (blk_cell BK432.out 8).trans rfl, (blk_cell BK432.out 9).trans rfl, (blk_cell BK432.out 10).trans rfl, (blk_cell BK432.out 11).trans rfl, (blk_cell BK432.out 12).trans rfl, (blk_cell BK432.out 13).trans rfl, ((HB.out.cell (World.block_lt_of_cell? w _ hw433_0)).trans hw433_0)⟩ (fun hHeld => ?_); refine with_tabW hourglassref22_All.tab4 hourglassref22_All.bits4 (fun HT_ HW_ => ?_)
            generalize wr.drew = w8 at BK432 HB HR433_0 hx433_0 hHeld ⊢
            refine pure_ (i := 0) (N := some 11) (v := ?_) (a' := ?_) #[true, false, false, false, false, false, false, false, false, false, false, false] rfl rfl (any_of HT_.out (by kernel_rfl)) (fun _ _ _ h => h) (Or.inl ⟨by rfl, ?_⟩) ?_ ?_
            rotate_left
            · intro w'
              go_simp
              with_reducible rfl
            rotate_left
            · simp only [Act.put, List.setIfInBounds_toArray, List.set_cons_zero, List.set_cons_succ, i64_w, i32_w]
              rfl
            refine pure_ (i := 2) (N := some 13) (v := ?_) (a' := ?_) #[true, false, true, false, false, false, false, false, false, false, false, false] rfl rfl (any_of HT_.out (by kernel_rfl)) (fun _ _ _ h => h) (Or.inl ⟨by rfl, ?_⟩) ?_ ?_
            rotate_left
            · intro w'
              go_simp
              with_reducible rfl
            rotate_left
            · simp only [Act.put, List.setIfInBounds_toArray, List.set_cons_zero, List.set_cons_succ, i64_w, i32_w]
              rfl
            refine pure_ (i := 5) (N := some 16) (v := ?_) (a' := ?_) #[true, false, true, false, false, true, false, false, false, false, false, false] rfl rfl (any_of HT_.out (by kernel_rfl)) (fun _ _ _ h => h) (Or.inl ⟨by rfl, ?_⟩) ?_ ?_
            rotate_left
            · intro w'
              go_simp
              with_reducible rfl
            rotate_left
            · simp only [Act.put, List.setIfInBounds_toArray, List.set_cons_zero, List.set_cons_succ, i64_w, i32_w]
              rfl
            refine pure_ (i := 7) (N := some 18) (v := ?_) (a' := ?_) #[true, false, true, false, false, true, false, true, false, false, false, false] rfl rfl (any_of HT_.out (by kernel_rfl)) (fun _ _ _ h => h) (Or.inl ⟨by rfl, ?_⟩) ?_ ?_
            rotate_left
            · intro w'
              go_simp
              with_reducible rfl
            rotate_left
            · simp only [Act.put, List.setIfInBounds_toArray, List.set_cons_zero, List.set_cons_succ, i64_w, i32_w]
              rfl
            refine take_ (i := 1) (N := some 12) (v := ?_) (a' := ?_) #[true, true, true, false, false, true, false, true, false, false, false, false] rfl rfl (take_ofW HT_.out HW_.out (by kernel_rfl)) (fun _ _ _ h => h) (Or.inl ⟨by rfl, ?_⟩) hHeld ?_ ?_
            rotate_left
            · rintro w' ⟨s0, s1, s2, s3, s4, s5, s6, s7, s8, s9, s10, s11, s12, s13, s14⟩
              go_simp
              with_reducible rfl
            rotate_left
            · simp only [Act.put, List.setIfInBounds_toArray, List.set_cons_zero, List.set_cons_succ, i64_w, i32_w]
              rfl
            refine pure_ (i := 3) (N := some 14) (v := ?_) (a' := ?_) #[true, true, true, true, false, true, false, true, false, false, false, false] rfl rfl (any_of HT_.out (by kernel_rfl)) (fun _ _ _ h => h) (Or.inl ⟨by rfl, ?_⟩) ?_ ?_
            rotate_left
            · intro w'
              go_simp
              with_reducible rfl
            rotate_left
            · simp only [Act.put, List.setIfInBounds_toArray, List.set_cons_zero, List.set_cons_succ, i64_w, i32_w]
              rfl
            refine take_ (i := 4) (N := some 15) (v := ?_) (a' := ?_) #[true, true, true, true, true, true, false, true, false, false, false, false] rfl rfl (take_ofW HT_.out HW_.out (by kernel_rfl)) (fun _ _ _ h => h) (Or.inl ⟨by rfl, ?_⟩) hHeld ?_ ?_
            rotate_left
            · rintro w' ⟨s0, s1, s2, s3, s4, s5, s6, s7, s8, s9, s10, s11, s12, s13, s14⟩
              go_simp
              with_reducible rfl
            rotate_left
            · simp only [Act.put, List.setIfInBounds_toArray, List.set_cons_zero, List.set_cons_succ, i64_w, i32_w]
              rfl
            refine take_ (i := 6) (N := some 17) (v := ?_) (a' := ?_) #[true, true, true, true, true, true, true, true, false, false, false, false] rfl rfl (take_ofW HT_.out HW_.out (by kernel_rfl)) (fun _ _ _ h => h) (Or.inl ⟨by rfl, ?_⟩) hHeld ?_ ?_
            rotate_left
            · rintro w' ⟨s0, s1, s2, s3, s4, s5, s6, s7, s8, s9, s10, s11, s12, s13, s14⟩
              go_simp
              with_reducible rfl
            rotate_left
            · simp only [Act.put, List.setIfInBounds_toArray, List.set_cons_zero, List.set_cons_succ, i64_w, i32_w]
              rfl
            refine take_ (i := 8) (N := some 19) (v := ?_) (a' := ?_) #[true, true, true, true, true, true, true, true, true, false, false, false] rfl rfl (take_ofW HT_.out HW_.out (by kernel_rfl)) (fun _ _ _ h => h) (Or.inl ⟨by rfl, ?_⟩) hHeld ?_ ?_
            rotate_left
            · rintro w' ⟨s0, s1, s2, s3, s4, s5, s6, s7, s8, s9, s10, s11, s12, s13, s14⟩
              go_simp
              with_reducible rfl
            rotate_left
            · simp only [Act.put, List.setIfInBounds_toArray, List.set_cons_zero, List.set_cons_succ, i64_w, i32_w]
              rfl
            refine pure_ (i := 9) (N := some 20) (v := ?_) (a' := ?_) #[true, true, true, true, true, true, true, true, true, true, false, false] rfl rfl (any_of HT_.out (by kernel_rfl)) (fun _ _ _ h => h) (Or.inl ⟨by rfl, ?_⟩) ?_ ?_
            rotate_left
            · intro w'
              go_simp
              with_reducible rfl
            rotate_left
            · simp only [Act.put, List.setIfInBounds_toArray, List.set_cons_zero, List.set_cons_succ, i64_w, i32_w]
              rfl
            refine one_ (i := 10) (N := some 21) #[true, true, true, true, true, true, true, true, true, true, true, false] rfl rfl (one_of HT_.out (by kernel_rfl)) (by decide) (fun K hK => ?_)
            refine goes_ Tryd.func28 (by kernel_rfl) rfl #[.slice A433_0 (rd_L5 l0_13 x3_1).length c433_0, .int .i64 a0_0, .int .i64 (l0_13.length : Int)] (by rfl) rfl rfl (by (try simp only [List.map_toArray, List.map_cons, List.map_nil]); first | done | rfl | (simp only [List.length_drop, List.length_take]; rfl)) ?_
            with_reducible refine (hourglassref22_Right.calls k1 _ _ (rd_L5 l0_13 x3_1) a0_0 (l0_13.length : Int) true _ ?side1 ?side2 A5.out).mono ?_
            (case side1 => repeat (first | exact (Kd.C_below HR433_0.out HB.out) | (with_reducible refine Kd.C_alloc ?_ _) | (with_reducible refine Kd.C_drewN ?_ _) | (with_reducible refine Kd.C_drew ?_)))
            (case side2 => exact HC433_0.out)
            rintro e w9 ⟨rfl, hb⟩
            refine ⟨_, rfl, ?_⟩
            have n0_ := Aside0.mk (blk_below (g := gb432) (o := .cells #[.int .i64 a0_0, .int .i64 a0_1, .int .i64 a0_2, .int .i64 a0_3, .int .i64 a0_4, .int .i64 a0_5, .int .i64 a0_6, .int .i64 a0_7, .int .i64 a0_8, .int .i64 a0_9, .int .i64 a0_10, .int .i64 a0_11, .int .i64 a0_12, .slice (some ad433) l0_13.length c0_13] 65 (0, 0)) (by (with_reducible repeat (first | refine blk_drewN ?_ _ | refine blk_drew ?_ | refine blk_alloc ?_ _)); exact BK432.out) hb)
            have n1_ := Aside0.mk (below_step (by repeat (first | (with_reducible first | exact HB.out | apply below_alloc | apply pw_below_drewN | apply below_drew1 | refine below_set ?_ GE432.out) | exact HB.out)) hb)
            clear BK432
            clear HB
            have BK432 := n0_
            have HB := n1_
            clear n0_ n1_
            (try clear hb)
            (try clear hb2)
            (try clear hk)
            (try clear hi)
            refine hK.out _ _ ⟨(blk_cell BK432.out 0).trans rfl, (blk_cell BK432.out 1).trans rfl, (blk_cell BK432.out 2).trans rfl, (blk_cell BK432.out 3).trans rfl, (blk_cell BK432.out 4).trans rfl, (blk_cell BK432.out 5).trans rfl, (blk_cell BK432.out 6).trans rfl, (blk_cell BK432.out 7).trans rfl, (blk_cell BK432.out 8).trans rfl, (blk_cell BK432.out 9).trans rfl, (blk_cell BK432.out 10).trans rfl, (blk_cell BK432.out 11).trans rfl, (blk_cell BK432.out 12).trans rfl, (blk_cell BK432.out 13).trans rfl, ((HB.out.cell (World.block_lt_of_cell? w _ hw433_0)).trans hw433_0)⟩ (fun hHeld => ?_)
            clear hK K
            refine norm_ (a' := ?_) ?_ ?_
            rotate_left
            · show Act.put _ (some 21) _ = _
              simp only [Act.put, List.setIfInBounds_toArray, List.set_cons_zero, List.set_cons_succ, i64_w, i32_w]
              rfl
            refine pure_ (i := 11) (N := some 22) (v := ?_) (a' := ?_) #[true, true, true, true, true, true, true, true, true, true, true, true] rfl rfl (any_of HT_.out (by kernel_rfl)) (fun _ _ _ h => h) (Or.inl ⟨by rfl, ?_⟩) ?_ ?_
            rotate_left
            · intro w'
              go_simp
              with_reducible rfl
            rotate_left
            · simp only [Act.put, List.setIfInBounds_toArray, List.set_cons_zero, List.set_cons_succ, i64_w, i32_w]
              rfl
            refine done_ (done_of HT_.out (by kernel_rfl)) ?_
            try go_wp2
            go_roundg k1
            case measure => have := HK1.out; omega
            case rel => exact ⟨(wrap64 (x3_1 + 1)), (by first | rfl | (simp; done) | (simp [*]; done)), H', ⟨by have := HK1.out; omega⟩, ⟨by (with_reducible repeat (first | refine blk_drewN ?_ _ | refine blk_drew ?_ | refine blk_alloc ?_ _)); exact BK432.out⟩, ⟨by repeat (first | (with_reducible first | exact HB.out | apply below_alloc | apply pw_below_drewN | apply below_drew1 | refine below_set ?_ GE432.out) | exact HB.out)⟩⟩
          · replace c6 := Bool.eq_false_iff.mpr c6
            subst c6
            have H1 : (some false) = some r := by rw [if_neg (show ¬ (false = true) by decide)] at H; exact H
            clear H
            have H := H1
            clear H1
            obtain rfl := Option.some.inj H
            have hcz10_0 : wr.cell? ⟨gb432, 0, none⟩ = some (.int .i64 a0_0) := (blk_cell BK432.out 0).trans rfl
            have hcz10_1 : wr.cell? ⟨gb432, 1, none⟩ = some (.int .i64 a0_1) := (blk_cell BK432.out 1).trans rfl
            have hcz10_2 : wr.cell? ⟨gb432, 2, none⟩ = some (.int .i64 a0_2) := (blk_cell BK432.out 2).trans rfl
            have hcz10_3 : wr.cell? ⟨gb432, 3, none⟩ = some (.int .i64 a0_3) := (blk_cell BK432.out 3).trans rfl
            have hcz10_4 : wr.cell? ⟨gb432, 4, none⟩ = some (.int .i64 a0_4) := (blk_cell BK432.out 4).trans rfl
            have hcz10_5 : wr.cell? ⟨gb432, 5, none⟩ = some (.int .i64 a0_5) := (blk_cell BK432.out 5).trans rfl
            have hcz10_6 : wr.cell? ⟨gb432, 6, none⟩ = some (.int .i64 a0_6) := (blk_cell BK432.out 6).trans rfl
            have hcz10_7 : wr.cell? ⟨gb432, 7, none⟩ = some (.int .i64 a0_7) := (blk_cell BK432.out 7).trans rfl
            have hcz10_8 : wr.cell? ⟨gb432, 8, none⟩ = some (.int .i64 a0_8) := (blk_cell BK432.out 8).trans rfl
            have hcz10_9 : wr.cell? ⟨gb432, 9, none⟩ = some (.int .i64 a0_9) := (blk_cell BK432.out 9).trans rfl
            have hcz10_10 : wr.cell? ⟨gb432, 10, none⟩ = some (.int .i64 a0_10) := (blk_cell BK432.out 10).trans rfl
            have hcz10_11 : wr.cell? ⟨gb432, 11, none⟩ = some (.int .i64 a0_11) := (blk_cell BK432.out 11).trans rfl
            have hcz10_12 : wr.cell? ⟨gb432, 12, none⟩ = some (.int .i64 a0_12) := (blk_cell BK432.out 12).trans rfl
            have hcz10_13 : wr.cell? ⟨gb432, 13, none⟩ = some (.slice A0_13 l0_13.length c0_13) := (blk_cell BK432.out 13).trans rfl
            have hfz10_0 := blk_frozen BK432.out 0
            have hfz10_1 := blk_frozen BK432.out 1
            have hfz10_2 := blk_frozen BK432.out 2
            have hfz10_3 := blk_frozen BK432.out 3
            have hfz10_4 := blk_frozen BK432.out 4
            have hfz10_5 := blk_frozen BK432.out 5
            have hfz10_6 := blk_frozen BK432.out 6
            have hfz10_7 := blk_frozen BK432.out 7
            have hfz10_8 := blk_frozen BK432.out 8
            have hfz10_9 := blk_frozen BK432.out 9
            have hfz10_10 := blk_frozen BK432.out 10
            have hfz10_11 := blk_frozen BK432.out 11
            have hfz10_12 := blk_frozen BK432.out 12
            have hfz10_13 := blk_frozen BK432.out 13
            try go_wp2
            have n0_ := Aside0.mk (blk_drew BK432.out)
            have n1_ := Aside0.mk (below_drew1 HB.out)
            clear BK432
            clear HB
            have BK432 := n0_
            have HB := n1_
            clear n0_ n1_
            have p433 : 0 ≤ (x3_1 : Int) := of_decide_eq_true (by first | (with_reducible assumption) | assumption)
            have q433 : x3_1 < (l0_13.length : Int) := of_decide_eq_true (by first | (with_reducible assumption) | assumption)
            obtain ⟨ad433, A433_0, c433_0, e433, hx433_0, hl433_0, hi433_0⟩ := at_L5 HR0_13.out x3_1 p433 q433
            have hw433_0 := hx433_0
            cases e433
            replace hx433_0 := (HB.out.cell (World.block_lt_of_cell? w _ hx433_0)).trans hx433_0
            have HR433_0 := Aside0.mk hi433_0
            have HC433_0 := Aside0.mk hl433_0
            clear hi433_0 hl433_0
            replace p433 := eq_true p433
            replace q433 := eq_true q433
            refine start_ (n := 12) (S := fun w' => w'.cell? ⟨gb432, 0, none⟩ = some (.int .i64 a0_0) ∧ w'.cell? ⟨gb432, 1, none⟩ = some (.int .i64 a0_1) ∧ w'.cell? ⟨gb432, 2, none⟩ = some (.int .i64 a0_2) ∧ w'.cell? ⟨gb432, 3, none⟩ = some (.int .i64 a0_3) ∧ w'.cell? ⟨gb432, 4, none⟩ = some (.int .i64 a0_4) ∧ w'.cell? ⟨gb432, 5, none⟩ = some (.int .i64 a0_5) ∧ w'.cell? ⟨gb432, 6, none⟩ = some (.int .i64 a0_6) ∧ w'.cell? ⟨gb432, 7, none⟩ = some (.int .i64 a0_7) ∧ w'.cell? ⟨gb432, 8, none⟩ = some (.int .i64 a0_8) ∧ w'.cell? ⟨gb432, 9, none⟩ = some (.int .i64 a0_9) ∧ w'.cell? ⟨gb432, 10, none⟩ = some (.int .i64 a0_10) ∧ w'.cell? ⟨gb432, 11, none⟩ = some (.int .i64 a0_11) ∧ w'.cell? ⟨gb432, 12, none⟩ = some (.int .i64 a0_12) ∧ w'.cell? ⟨gb432, 13, none⟩ = some (.slice (some ad433) l0_13.length c0_13) ∧ w'.cell? (ad433.add (x3_1).toNat) = some (.slice A433_0 (rd_L5 l0_13 x3_1).length c433_0)) (ds := []) #[false, false, false, false, false, false, false, false, false, false, false, false] (by kernel_rfl) rfl rfl ⟨(blk_cell BK432.out 0).trans rfl, (blk_cell BK432.out 1).trans rfl, (blk_cell BK432.out 2).trans rfl, (blk_cell BK432.out 3).trans rfl, (blk_cell BK432.out 4).trans rfl, (blk_cell BK432.out 5).trans rfl, (blk_cell BK432.out 6).trans rfl, (blk_cell BK432.out 7).trans rfl, (blk_cell BK432.out 8).trans rfl, (blk_cell BK432.out 9).trans rfl, (blk_cell BK432.out 10).trans rfl, (blk_cell BK432.out 11).trans rfl, (blk_cell BK432.out 12).trans rfl, (blk_cell BK432.out 13).trans rfl, ((HB.out.cell (World.block_lt_of_cell? w _ hw433_0)).trans hw433_0)⟩ (fun hHeld => ?_); refine with_tabW hourglassref22_All.tab4 hourglassref22_All.bits4 (fun HT_ HW_ => ?_)
            generalize wr.drew = w11 at BK432 HB HR433_0 hx433_0 hHeld ⊢
            refine pure_ (i := 0) (N := some 11) (v := ?_) (a' := ?_) #[true, false, false, false, false, false, false, false, false, false, false, false] rfl rfl (any_of HT_.out (by kernel_rfl)) (fun _ _ _ h => h) (Or.inl ⟨by rfl, ?_⟩) ?_ ?_
            rotate_left
            · intro w'
              go_simp
              with_reducible rfl
            rotate_left
            · simp only [Act.put, List.setIfInBounds_toArray, List.set_cons_zero, List.set_cons_succ, i64_w, i32_w]
              rfl
            refine pure_ (i := 2) (N := some 13) (v := ?_) (a' := ?_) #[true, false, true, false, false, false, false, false, false, false, false, false] rfl rfl (any_of HT_.out (by kernel_rfl)) (fun _ _ _ h => h) (Or.inl ⟨by rfl, ?_⟩) ?_ ?_
            rotate_left
            · intro w'
              go_simp
              with_reducible rfl
            rotate_left
            · simp only [Act.put, List.setIfInBounds_toArray, List.set_cons_zero, List.set_cons_succ, i64_w, i32_w]
              rfl
            refine pure_ (i := 5) (N := some 16) (v := ?_) (a' := ?_) #[true, false, true, false, false, true, false, false, false, false, false, false] rfl rfl (any_of HT_.out (by kernel_rfl)) (fun _ _ _ h => h) (Or.inl ⟨by rfl, ?_⟩) ?_ ?_
            rotate_left
            · intro w'
              go_simp
              with_reducible rfl
            rotate_left
            · simp only [Act.put, List.setIfInBounds_toArray, List.set_cons_zero, List.set_cons_succ, i64_w, i32_w]
              rfl
            refine pure_ (i := 7) (N := some 18) (v := ?_) (a' := ?_) #[true, false, true, false, false, true, false, true, false, false, false, false] rfl rfl (any_of HT_.out (by kernel_rfl)) (fun _ _ _ h => h) (Or.inl ⟨by rfl, ?_⟩) ?_ ?_
            rotate_left
            · intro w'
              go_simp
              with_reducible rfl
            rotate_left
            · simp only [Act.put, List.setIfInBounds_toArray, List.set_cons_zero, List.set_cons_succ, i64_w, i32_w]
              rfl
            refine take_ (i := 1) (N := some 12) (v := ?_) (a' := ?_) #[true, true, true, false, false, true, false, true, false, false, false, false] rfl rfl (take_ofW HT_.out HW_.out (by kernel_rfl)) (fun _ _ _ h => h) (Or.inl ⟨by rfl, ?_⟩) hHeld ?_ ?_
            rotate_left
            · rintro w' ⟨s0, s1, s2, s3, s4, s5, s6, s7, s8, s9, s10, s11, s12, s13, s14⟩
              go_simp
              with_reducible rfl
            rotate_left
            · simp only [Act.put, List.setIfInBounds_toArray, List.set_cons_zero, List.set_cons_succ, i64_w, i32_w]
              rfl
            refine pure_ (i := 3) (N := some 14) (v := ?_) (a' := ?_) #[true, true, true, true, false, true, false, true, false, false, false, false] rfl rfl (any_of HT_.out (by kernel_rfl)) (fun _ _ _ h => h) (Or.inl ⟨by rfl, ?_⟩) ?_ ?_
            rotate_left
            · intro w'
              go_simp
              with_reducible rfl
            rotate_left
            · simp only [Act.put, List.setIfInBounds_toArray, List.set_cons_zero, List.set_cons_succ, i64_w, i32_w]
              rfl
            refine take_ (i := 4) (N := some 15) (v := ?_) (a' := ?_) #[true, true, true, true, true, true, false, true, false, false, false, false] rfl rfl (take_ofW HT_.out HW_.out (by kernel_rfl)) (fun _ _ _ h => h) (Or.inl ⟨by rfl, ?_⟩) hHeld ?_ ?_
            rotate_left
            · rintro w' ⟨s0, s1, s2, s3, s4, s5, s6, s7, s8, s9, s10, s11, s12, s13, s14⟩
              go_simp
              with_reducible rfl
            rotate_left
            · simp only [Act.put, List.setIfInBounds_toArray, List.set_cons_zero, List.set_cons_succ, i64_w, i32_w]
              rfl
            refine take_ (i := 6) (N := some 17) (v := ?_) (a' := ?_) #[true, true, true, true, true, true, true, true, false, false, false, false] rfl rfl (take_ofW HT_.out HW_.out (by kernel_rfl)) (fun _ _ _ h => h) (Or.inl ⟨by rfl, ?_⟩) hHeld ?_ ?_
            rotate_left
            · rintro w' ⟨s0, s1, s2, s3, s4, s5, s6, s7, s8, s9, s10, s11, s12, s13, s14⟩
              go_simp
              with_reducible rfl
            rotate_left
            · simp only [Act.put, List.setIfInBounds_toArray, List.set_cons_zero, List.set_cons_succ, i64_w, i32_w]
              rfl
            refine take_ (i := 8) (N := some 19) (v := ?_) (a' := ?_) #[true, true, true, true, true, true, true, true, true, false, false, false] rfl rfl (take_ofW HT_.out HW_.out (by kernel_rfl)) (fun _ _ _ h => h) (Or.inl ⟨by rfl, ?_⟩) hHeld ?_ ?_
            rotate_left
            · rintro w' ⟨s0, s1, s2, s3, s4, s5, s6, s7, s8, s9, s10, s11, s12, s13, s14⟩
              go_simp
              with_reducible rfl
            rotate_left
            · simp only [Act.put, List.setIfInBounds_toArray, List.set_cons_zero, List.set_cons_succ, i64_w, i32_w]
              rfl
            refine pure_ (i := 9) (N := some 20) (v := ?_) (a' := ?_) #[true, true, true, true, true, true, true, true, true, true, false, false] rfl rfl (any_of HT_.out (by kernel_rfl)) (fun _ _ _ h => h) (Or.inl ⟨by rfl, ?_⟩) ?_ ?_
            rotate_left
            · intro w'
              go_simp
              with_reducible rfl
            rotate_left
            · simp only [Act.put, List.setIfInBounds_toArray, List.set_cons_zero, List.set_cons_succ, i64_w, i32_w]
              rfl
            refine one_ (i := 10) (N := some 21) #[true, true, true, true, true, true, true, true, true, true, true, false] rfl rfl (one_of HT_.out (by kernel_rfl)) (by decide) (fun K hK => ?_)
            refine goes_ Tryd.func28 (by kernel_rfl) rfl #[.slice A433_0 (rd_L5 l0_13 x3_1).length c433_0, .int .i64 a0_0, .int .i64 (l0_13.length : Int)] (by rfl) rfl rfl (by (try simp only [List.map_toArray, List.map_cons, List.map_nil]); first | done | rfl | (simp only [List.length_drop, List.length_take]; rfl)) ?_
            with_reducible refine (hourglassref22_Right.calls k1 _ _ (rd_L5 l0_13 x3_1) a0_0 (l0_13.length : Int) false _ ?side1 ?side2 A5.out).mono ?_
            (case side1 => repeat (first | exact (Kd.C_below HR433_0.out HB.out) | (with_reducible refine Kd.C_alloc ?_ _) | (with_reducible refine Kd.C_drewN ?_ _) | (with_reducible refine Kd.C_drew ?_)))
            (case side2 => exact HC433_0.out)
            rintro e w12 ⟨rfl, hb⟩
            refine ⟨_, rfl, ?_⟩
            have n0_ := Aside0.mk (blk_below (g := gb432) (o := .cells #[.int .i64 a0_0, .int .i64 a0_1, .int .i64 a0_2, .int .i64 a0_3, .int .i64 a0_4, .int .i64 a0_5, .int .i64 a0_6, .int .i64 a0_7, .int .i64 a0_8, .int .i64 a0_9, .int .i64 a0_10, .int .i64 a0_11, .int .i64 a0_12, .slice (some ad433) l0_13.length c0_13] 65 (0, 0)) (by (with_reducible repeat (first | refine blk_drewN ?_ _ | refine blk_drew ?_ | refine blk_alloc ?_ _)); exact BK432.out) hb)
            have n1_ := Aside0.mk (below_step (by repeat (first | (with_reducible first | exact HB.out | apply below_alloc | apply pw_below_drewN | apply below_drew1 | refine below_set ?_ GE432.out) | exact HB.out)) hb)
            clear BK432
            clear HB
            have BK432 := n0_
            have HB := n1_
            clear n0_ n1_
            (try clear hb)
            (try clear hb2)
            (try clear hk)
            (try clear hi)
            refine hK.out _ _ ⟨(blk_cell BK432.out 0).trans rfl, (blk_cell BK432.out 1).trans rfl, (blk_cell BK432.out 2).trans rfl, (blk_cell BK432.out 3).trans rfl, (blk_cell BK432.out 4).trans rfl, (blk_cell BK432.out 5).trans rfl, (blk_cell BK432.out 6).trans rfl, (blk_cell BK432.out 7).trans rfl, (blk_cell BK432.out 8).trans rfl, (blk_cell BK432.out 9).trans rfl, (blk_cell BK432.out 10).trans rfl, (blk_cell BK432.out 11).trans rfl, (blk_cell BK432.out 12).trans rfl, (blk_cell BK432.out 13).trans rfl, ((HB.out.cell (World.block_lt_of_cell? w _ hw433_0)).trans hw433_0)⟩ (fun hHeld => ?_)
            clear hK K
            refine norm_ (a' := ?_) ?_ ?_
            rotate_left
            · show Act.put _ (some 21) _ = _
              simp only [Act.put, List.setIfInBounds_toArray, List.set_cons_zero, List.set_cons_succ, i64_w, i32_w]
              rfl
            refine pure_ (i := 11) (N := some 22) (v := ?_) (a' := ?_) #[true, true, true, true, true, true, true, true, true, true, true, true] rfl rfl (any_of HT_.out (by kernel_rfl)) (fun _ _ _ h => h) (Or.inl ⟨by rfl, ?_⟩) ?_ ?_
            rotate_left
            · intro w'
              go_simp
              with_reducible rfl
            rotate_left
            · simp only [Act.put, List.setIfInBounds_toArray, List.set_cons_zero, List.set_cons_succ, i64_w, i32_w]
              rfl
            refine done_ (done_of HT_.out (by kernel_rfl)) ?_
            try go_wp2
            go_ret
            exact ⟨by first | rfl | (simp [errW_none, errW_some] <;> rfl) | (simp [*, errW_none, errW_some] <;> rfl), by repeat (first | (with_reducible first | exact HB.out | apply below_alloc | apply pw_below_drewN | apply below_drew1 | refine below_set ?_ GE432.out) | exact HB.out)⟩
        · rw [if_neg c4] at H
          exact absurd H (by simp)
      · rw [if_neg c3] at H
        have c3b0 : decide (x3_1 < (l0_13.length : Int)) = false := decide_eq_false c3
        clear c3
        obtain rfl := Option.some.inj H
        have hcz13_0 : wr.cell? ⟨gb432, 0, none⟩ = some (.int .i64 a0_0) := (blk_cell BK432.out 0).trans rfl
        have hcz13_1 : wr.cell? ⟨gb432, 1, none⟩ = some (.int .i64 a0_1) := (blk_cell BK432.out 1).trans rfl
        have hcz13_2 : wr.cell? ⟨gb432, 2, none⟩ = some (.int .i64 a0_2) := (blk_cell BK432.out 2).trans rfl
        have hcz13_3 : wr.cell? ⟨gb432, 3, none⟩ = some (.int .i64 a0_3) := (blk_cell BK432.out 3).trans rfl
        have hcz13_4 : wr.cell? ⟨gb432, 4, none⟩ = some (.int .i64 a0_4) := (blk_cell BK432.out 4).trans rfl
        have hcz13_5 : wr.cell? ⟨gb432, 5, none⟩ = some (.int .i64 a0_5) := (blk_cell BK432.out 5).trans rfl
        have hcz13_6 : wr.cell? ⟨gb432, 6, none⟩ = some (.int .i64 a0_6) := (blk_cell BK432.out 6).trans rfl
        have hcz13_7 : wr.cell? ⟨gb432, 7, none⟩ = some (.int .i64 a0_7) := (blk_cell BK432.out 7).trans rfl
        have hcz13_8 : wr.cell? ⟨gb432, 8, none⟩ = some (.int .i64 a0_8) := (blk_cell BK432.out 8).trans rfl
        have hcz13_9 : wr.cell? ⟨gb432, 9, none⟩ = some (.int .i64 a0_9) := (blk_cell BK432.out 9).trans rfl
        have hcz13_10 : wr.cell? ⟨gb432, 10, none⟩ = some (.int .i64 a0_10) := (blk_cell BK432.out 10).trans rfl
        have hcz13_11 : wr.cell? ⟨gb432, 11, none⟩ = some (.int .i64 a0_11) := (blk_cell BK432.out 11).trans rfl
        have hcz13_12 : wr.cell? ⟨gb432, 12, none⟩ = some (.int .i64 a0_12) := (blk_cell BK432.out 12).trans rfl
        have hcz13_13 : wr.cell? ⟨gb432, 13, none⟩ = some (.slice A0_13 l0_13.length c0_13) := (blk_cell BK432.out 13).trans rfl
        have hfz13_0 := blk_frozen BK432.out 0
        have hfz13_1 := blk_frozen BK432.out 1
        have hfz13_2 := blk_frozen BK432.out 2
        have hfz13_3 := blk_frozen BK432.out 3
        have hfz13_4 := blk_frozen BK432.out 4
        have hfz13_5 := blk_frozen BK432.out 5
        have hfz13_6 := blk_frozen BK432.out 6
        have hfz13_7 := blk_frozen BK432.out 7
        have hfz13_8 := blk_frozen BK432.out 8
        have hfz13_9 := blk_frozen BK432.out 9
        have hfz13_10 := blk_frozen BK432.out 10
        have hfz13_11 := blk_frozen BK432.out 11
        have hfz13_12 := blk_frozen BK432.out 12
        have hfz13_13 := blk_frozen BK432.out 13
        go_wp2
        go_ret
        exact ⟨by first | rfl | (simp [errW_none, errW_some] <;> rfl) | (simp [*, errW_none, errW_some] <;> rfl), by repeat (first | (with_reducible first | exact HB.out | apply below_alloc | apply pw_below_drewN | apply below_drew1 | refine below_set ?_ GE432.out) | exact HB.out)⟩

end Go.Proofs.YthfjjdkaplibmaaDoor.Pr
