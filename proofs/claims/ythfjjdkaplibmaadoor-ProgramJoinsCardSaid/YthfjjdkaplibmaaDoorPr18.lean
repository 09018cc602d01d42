import Derived.Test.YthfjjdkaplibmaaDoorGB
import Derived.Test.YthfjjdkaplibmaaDoorPr16
import Derived.Test.YthfjjdkaplibmaaDoorPr17
import Derived.Test.YthfjjdkaplibmaaDoorHand3
import Derived.Test.YthfjjdkaplibmaaDoorGA
-- Written by wip/pr.py over the translation. Lean checks it.
namespace Go.Proofs.YthfjjdkaplibmaaDoor.Pr
open Go.RowKit Go.Proofs.YthfjjdkaplibmaaDoorW.PrintWords Go.Proofs.YthfjjdkaplibmaaDoorW.PrintLast Go.Proofs.YthfjjdkaplibmaaDoorW.PrintMore
attribute [local go_sem] max2_int min2_int max_two min_two max_three min_three max_four min_four   -- for this text's walks alone
set_option linter.unusedVariables false
set_option linter.unusedSimpArgs false

/-! ### hourglasslaw22_awake: function 24 -/
def hourglasslaw22_awake.f (k : Nat)  : Option (Bool) := (program_Parse.f (⟨#[119, 111, 114, 107, 32, 51, 59, 32, 115, 112, 97, 119, 110, 32, 49, 32, 50, 59, 32, 106, 111, 105, 110, 59, 32, 97, 110, 115, 119, 101, 114, 32, 53]⟩ : ByteArray) 2 3).bind fun bt323 => (if bt323.2 = 0 then (if (bt323.1.length : Int) = 4 then ((program_Units.f k bt323.1).bind fun t327 => (if t327 = 6 then ((program_Text.f k bt323.1).bind fun t328 => (some (t328.toList == ([119, 111, 114, 107, 32, 51, 59, 32, 115, 112, 97, 119, 110, 32, 49, 32, 50, 59, 32, 106, 111, 105, 110, 59, 32, 97, 110, 115, 119, 101, 114, 32, 53] : List UInt8)))) else (some false))) else (some false)) else (some false))
theorem hourglasslaw22_awake.mono : ∀ k, LeO (hourglasslaw22_awake.f k ) (hourglasslaw22_awake.f (k + 1) ) := by
  intro  k
  unfold hourglasslaw22_awake.f
  repeat' first
      | (with_reducible exact program_Text.mono _ _)
      | (with_reducible exact program_Units.mono _ _)
      | (with_reducible exact LeO.refl _)
      | (with_reducible exact LeO.none _)
      | (with_reducible refine LeO.ite ?_ ?_)
      | (with_reducible refine LeO.bind ?_ (fun _ => ?_))
      | exact program_Text.mono _ _
      | exact program_Units.mono _ _
      | exact LeO.none _
      | refine LeO.ite ?_ ?_
      | refine LeO.bind ?_ (fun _ => ?_)
set_option maxHeartbeats 8000000 in
set_option maxRecDepth 100000 in
theorem hourglasslaw22_awake.calls (k : Nat)  (r : Bool) (w : World) (h : hourglasslaw22_awake.f k  = some r) (hE : Env w) :
    Calls Tryd.prog 24 #[] w fun e w' => e = .returned (.bool r) ∧ Below w.heap.size w w' := by
  have HE := Aside0.mk hE
  clear hE
  have HB := Aside0.mk (Below.refl w.heap.size w)
  have H : ((program_Parse.f (⟨#[119, 111, 114, 107, 32, 51, 59, 32, 115, 112, 97, 119, 110, 32, 49, 32, 50, 59, 32, 106, 111, 105, 110, 59, 32, 97, 110, 115, 119, 101, 114, 32, 53]⟩ : ByteArray) 2 3).bind fun bt323 => (if bt323.2 = 0 then (if (bt323.1.length : Int) = 4 then ((program_Units.f k bt323.1).bind fun t327 => (if t327 = 6 then ((program_Text.f k bt323.1).bind fun t328 => (some (t328.toList == ([119, 111, 114, 107, 32, 51, 59, 32, 115, 112, 97, 119, 110, 32, 49, 32, 50, 59, 32, 106, 111, 105, 110, 59, 32, 97, 110, 115, 119, 101, 114, 32, 53] : List UInt8)))) else (some false))) else (some false)) else (some false))) = some r := h
  clear h
  replace H := Option.bind_eq_some_iff.mp H
  obtain ⟨⟨t323, t324⟩, A10, H⟩ := H
  replace H : (if t324 = 0 then (if (t323.length : Int) = 4 then ((program_Units.f k t323).bind fun t327 => (if t327 = 6 then ((program_Text.f k t323).bind fun t328 => (some (t328.toList == ([119, 111, 114, 107, 32, 51, 59, 32, 115, 112, 97, 119, 110, 32, 49, 32, 50, 59, 32, 106, 111, 105, 110, 59, 32, 97, 110, 115, 119, 101, 114, 32, 53] : List UInt8)))) else (some false))) else (some false)) else (some false)) = some r := H
  have A1 := Aside0.mk A10
  clear A10
  by_cases c2 : t324 = 0
  · rw [if_pos c2] at H
    have c2b0 : (t324 == 0) = true := beq_iff_eq.mpr c2
    have c2b1 : (t324 != 0) = false := bne_eq_false_iff_eq.mpr c2
    clear c2
    by_cases c3 : (t323.length : Int) = 4
    · rw [if_pos c3] at H
      have c3b0 : ((t323.length : Int) == 4) = true := beq_iff_eq.mpr c3
      have c3b1 : ((t323.length : Int) != 4) = false := bne_eq_false_iff_eq.mpr c3
      clear c3
      replace H := Option.bind_eq_some_iff.mp H
      obtain ⟨t327, A40, H⟩ := H
      replace H : (if t327 = 6 then ((program_Text.f k t323).bind fun t328 => (some (t328.toList == ([119, 111, 114, 107, 32, 51, 59, 32, 115, 112, 97, 119, 110, 32, 49, 32, 50, 59, 32, 106, 111, 105, 110, 59, 32, 97, 110, 115, 119, 101, 114, 32, 53] : List UInt8)))) else (some false)) = some r := H
      have A4 := Aside0.mk A40
      clear A40
      by_cases c5 : t327 = 6
      · rw [if_pos c5] at H
        have c5b0 : (t327 == 6) = true := beq_iff_eq.mpr c5
        have c5b1 : (t327 != 6) = false := bne_eq_false_iff_eq.mpr c5
        clear c5
        replace H := Option.bind_eq_some_iff.mp H
        obtain ⟨t328, A60, H⟩ := H
        replace H : (some (t328.toList == ([119, 111, 114, 107, 32, 51, 59, 32, 115, 112, 97, 119, 110, 32, 49, 32, 50, 59, 32, 106, 111, 105, 110, 59, 32, 97, 110, 115, 119, 101, 114, 32, 53] : List UInt8))) = some r := H
        have A6 := Aside0.mk A60
        clear A60
        obtain rfl := Option.some.inj H
        go_enter Tryd.func24, Tryd.ntmps24
        go_wp2_with (first | ((with_reducible refine gate_callee (f := 33) rfl ?_); refine goesL_ (some 4) rfl rfl Tryd.func33 (by kernel_rfl) rfl #[.string (⟨#[119, 111, 114, 107, 32, 51, 59, 32, 115, 112, 97, 119, 110, 32, 49, 32, 50, 59, 32, 106, 111, 105, 110, 59, 32, 97, 110, 115, 119, 101, 114, 32, 53]⟩ : ByteArray), .int .i64 2, .int .i64 3] rfl (by (try simp only [List.map_toArray, List.map_cons, List.map_nil]); first | done | rfl | (simp only [List.length_drop, List.length_take]; rfl)) ?_; (with_reducible refine (program_Parse.calls (⟨#[119, 111, 114, 107, 32, 51, 59, 32, 115, 112, 97, 119, 110, 32, 49, 32, 50, 59, 32, 106, 111, 105, 110, 59, 32, 97, 110, 115, 119, 101, 114, 32, 53]⟩ : ByteArray) 2 3 t323 t324 _ A1.out (Env.below HE.out (by repeat (first | (with_reducible first | exact HB.out | apply below_alloc | apply pw_below_drewN | apply below_drew1) | exact HB.out)))).mono ?_); rintro e w7 ⟨v325, rfl, ho0, hb⟩; refine ⟨_, rfl, ?_⟩; have n0_ := Aside0.mk (Kd.R_lower ho0 (below_size (by repeat (first | (with_reducible first | exact HB.out | apply below_alloc | apply pw_below_drewN | apply below_drew1) | exact HB.out)))); have n1_ := Aside0.mk (below_step (by repeat (first | (with_reducible first | exact HB.out | apply below_alloc | apply pw_below_drewN | apply below_drew1) | exact HB.out)) hb); clear HB; have HO326 := n0_; have HB := n1_; clear n0_ n1_; (try clear hb); (try clear hb2); (try clear hk); (try clear hi); (try clear ho0); obtain ⟨Ao8, co8, eo8⟩ := Kd.R_slice HO326.out; subst eo8) | (go_at_call 29; (with_reducible refine (program_Units.calls k _ _ t323 t327 _ ?side1 ?side2 A4.out).mono ?_); (case side1 => repeat (first | exact (Kd.R_reads' HO326.out).2.2 | (with_reducible refine Kd.C_alloc ?_ _) | (with_reducible refine Kd.C_drewN ?_ _) | (with_reducible refine Kd.C_drew ?_))); (case side2 => exact (Kd.R_reads' HO326.out).2.1); rintro e w9 ⟨rfl, hb⟩; have n0_ := Aside0.mk (Kd.R_below (by (with_reducible repeat (first | apply Kd.R_alloc | apply Kd.R_drewN | apply Kd.R_drew)); exact HO326.out) hb); have n1_ := Aside0.mk (below_step (by repeat (first | (with_reducible first | exact HB.out | apply below_alloc | apply pw_below_drewN | apply below_drew1) | exact HB.out)) hb); clear HO326; clear HB; have HO326 := n0_; have HB := n1_; clear n0_ n1_; (try clear hb); (try clear hb2); (try clear hk); (try clear hi)) | (go_at_call 31; (with_reducible refine (program_Text.calls k _ _ t323 t328 _ ?side1 ?side2 A6.out (Env.below HE.out (by repeat (first | (with_reducible first | exact HB.out | apply below_alloc | apply pw_below_drewN | apply below_drew1) | exact HB.out)))).mono ?_); (case side1 => repeat (first | exact (Kd.R_reads' HO326.out).2.2 | (with_reducible refine Kd.C_alloc ?_ _) | (with_reducible refine Kd.C_drewN ?_ _) | (with_reducible refine Kd.C_drew ?_))); (case side2 => exact (Kd.R_reads' HO326.out).2.1); rintro e w10 ⟨rfl, hb⟩; have n0_ := Aside0.mk (Kd.R_below (by (with_reducible repeat (first | apply Kd.R_alloc | apply Kd.R_drewN | apply Kd.R_drew)); exact HO326.out) hb); have n1_ := Aside0.mk (below_step (by repeat (first | (with_reducible first | exact HB.out | apply below_alloc | apply pw_below_drewN | apply below_drew1) | exact HB.out)) hb); clear HO326; clear HB; have HO326 := n0_; have HB := n1_; clear n0_ n1_; (try clear hb); (try clear hb2); (try clear hk); (try clear hi)))
        go_ret
        exact ⟨by first | rfl | (simp [errW_none, errW_some] <;> rfl) | (simp [*, errW_none, errW_some] <;> rfl), by repeat (first | (with_reducible first | exact HB.out | apply below_alloc | apply pw_below_drewN | apply below_drew1) | exact HB.out)⟩
      · rw [if_neg c5] at H
        have c5b0 : (t327 == 6) = false := beq_eq_false_iff_ne.mpr c5
        have c5b1 : (t327 != 6) = true := bne_iff_ne.mpr c5
        obtain rfl := Option.some.inj H
        go_enter Tryd.func24, Tryd.ntmps24
        go_wp2_with (first | ((with_reducible refine gate_callee (f := 33) rfl ?_); refine goesL_ (some 4) rfl rfl Tryd.func33 (by kernel_rfl) rfl #[.string (⟨#[119, 111, 114, 107, 32, 51, 59, 32, 115, 112, 97, 119, 110, 32, 49, 32, 50, 59, 32, 106, 111, 105, 110, 59, 32, 97, 110, 115, 119, 101, 114, 32, 53]⟩ : ByteArray), .int .i64 2, .int .i64 3] rfl (by (try simp only [List.map_toArray, List.map_cons, List.map_nil]); first | done | rfl | (simp only [List.length_drop, List.length_take]; rfl)) ?_; (with_reducible refine (program_Parse.calls (⟨#[119, 111, 114, 107, 32, 51, 59, 32, 115, 112, 97, 119, 110, 32, 49, 32, 50, 59, 32, 106, 111, 105, 110, 59, 32, 97, 110, 115, 119, 101, 114, 32, 53]⟩ : ByteArray) 2 3 t323 t324 _ A1.out (Env.below HE.out (by repeat (first | (with_reducible first | exact HB.out | apply below_alloc | apply pw_below_drewN | apply below_drew1) | exact HB.out)))).mono ?_); rintro e w11 ⟨v325, rfl, ho0, hb⟩; refine ⟨_, rfl, ?_⟩; have n0_ := Aside0.mk (Kd.R_lower ho0 (below_size (by repeat (first | (with_reducible first | exact HB.out | apply below_alloc | apply pw_below_drewN | apply below_drew1) | exact HB.out)))); have n1_ := Aside0.mk (below_step (by repeat (first | (with_reducible first | exact HB.out | apply below_alloc | apply pw_below_drewN | apply below_drew1) | exact HB.out)) hb); clear HB; have HO326 := n0_; have HB := n1_; clear n0_ n1_; (try clear hb); (try clear hb2); (try clear hk); (try clear hi); (try clear ho0); obtain ⟨Ao12, co12, eo12⟩ := Kd.R_slice HO326.out; subst eo12) | (go_at_call 29; (with_reducible refine (program_Units.calls k _ _ t323 t327 _ ?side1 ?side2 A4.out).mono ?_); (case side1 => repeat (first | exact (Kd.R_reads' HO326.out).2.2 | (with_reducible refine Kd.C_alloc ?_ _) | (with_reducible refine Kd.C_drewN ?_ _) | (with_reducible refine Kd.C_drew ?_))); (case side2 => exact (Kd.R_reads' HO326.out).2.1); rintro e w13 ⟨rfl, hb⟩; have n0_ := Aside0.mk (Kd.R_below (by (with_reducible repeat (first | apply Kd.R_alloc | apply Kd.R_drewN | apply Kd.R_drew)); exact HO326.out) hb); have n1_ := Aside0.mk (below_step (by repeat (first | (with_reducible first | exact HB.out | apply below_alloc | apply pw_below_drewN | apply below_drew1) | exact HB.out)) hb); clear HO326; clear HB; have HO326 := n0_; have HB := n1_; clear n0_ n1_; (try clear hb); (try clear hb2); (try clear hk); (try clear hi)))
        go_ret
        exact ⟨by first | rfl | (simp [errW_none, errW_some] <;> rfl) | (simp [*, errW_none, errW_some] <;> rfl), by repeat (first | (with_reducible first | exact HB.out | apply below_alloc | apply pw_below_drewN | apply below_drew1) | exact HB.out)⟩
    · rw [if_neg c3] at H
      have c3b0 : ((t323.length : Int) == 4) = false := beq_eq_false_iff_ne.mpr c3
      have c3b1 : ((t323.length : Int) != 4) = true := bne_iff_ne.mpr c3
      obtain rfl := Option.some.inj H
      go_enter Tryd.func24, Tryd.ntmps24
      go_wp2_with (first | ((with_reducible refine gate_callee (f := 33) rfl ?_); refine goesL_ (some 4) rfl rfl Tryd.func33 (by kernel_rfl) rfl #[.string (⟨#[119, 111, 114, 107, 32, 51, 59, 32, 115, 112, 97, 119, 110, 32, 49, 32, 50, 59, 32, 106, 111, 105, 110, 59, 32, 97, 110, 115, 119, 101, 114, 32, 53]⟩ : ByteArray), .int .i64 2, .int .i64 3] rfl (by (try simp only [List.map_toArray, List.map_cons, List.map_nil]); first | done | rfl | (simp only [List.length_drop, List.length_take]; rfl)) ?_; (with_reducible refine (program_Parse.calls (⟨#[119, 111, 114, 107, 32, 51, 59, 32, 115, 112, 97, 119, 110, 32, 49, 32, 50, 59, 32, 106, 111, 105, 110, 59, 32, 97, 110, 115, 119, 101, 114, 32, 53]⟩ : ByteArray) 2 3 t323 t324 _ A1.out (Env.below HE.out (by repeat (first | (with_reducible first | exact HB.out | apply below_alloc | apply pw_below_drewN | apply below_drew1) | exact HB.out)))).mono ?_); rintro e w14 ⟨v325, rfl, ho0, hb⟩; refine ⟨_, rfl, ?_⟩; have n0_ := Aside0.mk (Kd.R_lower ho0 (below_size (by repeat (first | (with_reducible first | exact HB.out | apply below_alloc | apply pw_below_drewN | apply below_drew1) | exact HB.out)))); have n1_ := Aside0.mk (below_step (by repeat (first | (with_reducible first | exact HB.out | apply below_alloc | apply pw_below_drewN | apply below_drew1) | exact HB.out)) hb); clear HB; have HO326 := n0_; have HB := n1_; clear n0_ n1_; (try clear hb); (try clear hb2); (try clear hk); (try clear hi); (try clear ho0); obtain ⟨Ao15, co15, eo15⟩ := Kd.R_slice HO326.out; subst eo15))
      go_ret
      exact ⟨by first | rfl | (simp [errW_none, errW_some] <;> rfl) | (simp [*, errW_none, errW_some] <;> rfl), by repeat (first | (with_reducible first | exact HB.out | apply below_alloc | apply pw_below_drewN | apply below_drew1) | exact HB.out)⟩
  · rw [if_neg c2] at H
    have c2b0 : (t324 == 0) = false := beq_eq_false_iff_ne.mpr c2
    have c2b1 : (t324 != 0) = true := bne_iff_ne.mpr c2
    obtain rfl := Option.some.inj H
    go_enter Tryd.func24, Tryd.ntmps24
    go_wp2_with (first | ((with_reducible refine gate_callee (f := 33) rfl ?_); refine goesL_ (some 4) rfl rfl Tryd.func33 (by kernel_rfl) rfl #[.string (⟨#[119, 111, 114, 107, 32, 51, 59, 32, 115, 112, 97, 119, 110, 32, 49, 32, 50, 59, 32, 106, 111, 105, 110, 59, 32, 97, 110, 115, 119, 101, 114, 32, 53]⟩ : ByteArray), .int .i64 2, .int .i64 3] rfl (by (try simp only [List.map_toArray, List.map_cons, List.map_nil]); first | done | rfl | (simp only [List.length_drop, List.length_take]; rfl)) ?_; (with_reducible refine (program_Parse.calls (⟨#[119, 111, 114, 107, 32, 51, 59, 32, 115, 112, 97, 119, 110, 32, 49, 32, 50, 59, 32, 106, 111, 105, 110, 59, 32, 97, 110, 115, 119, 101, 114, 32, 53]⟩ : ByteArray) 2 3 t323 t324 _ A1.out (Env.below HE.out (by repeat (first | (with_reducible first | exact HB.out | apply below_alloc | apply pw_below_drewN | apply below_drew1) | exact HB.out)))).mono ?_); rintro e w16 ⟨v325, rfl, ho0, hb⟩; refine ⟨_, rfl, ?_⟩; have n0_ := Aside0.mk (Kd.R_lower ho0 (below_size (by repeat (first | (with_reducible first | exact HB.out | apply below_alloc | apply pw_below_drewN | apply below_drew1) | exact HB.out)))); have n1_ := Aside0.mk (below_step (by repeat (first | (with_reducible first | exact HB.out | apply below_alloc | apply pw_below_drewN | apply below_drew1) | exact HB.out)) hb); clear HB; have HO326 := n0_; have HB := n1_; clear n0_ n1_; (try clear hb); (try clear hb2); (try clear hk); (try clear hi); (try clear ho0)))
    go_ret
    exact ⟨by first | rfl | (simp [errW_none, errW_some] <;> rfl) | (simp [*, errW_none, errW_some] <;> rfl), by repeat (first | (with_reducible first | exact HB.out | apply below_alloc | apply pw_below_drewN | apply below_drew1) | exact HB.out)⟩

end Go.Proofs.YthfjjdkaplibmaaDoor.Pr
