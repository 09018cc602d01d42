import Derived.Test.YthfjjdkaplibmaaDoorQ2
namespace Go.Proofs.YthfjjdkaplibmaaDoor.Pr
open Go Go.RowKit Go.Proofs.YthfjjdkaplibmaaDoorW.PrintWords Go.Proofs.YthfjjdkaplibmaaDoorW.PrintLast Go.Proofs.YthfjjdkaplibmaaDoorW.PrintMore
attribute [local go_sem] Oper.semAt_some
set_option linter.unusedVariables false
set_option linter.unusedSimpArgs false

theorem mag_bounds {l : List UInt8} {v : Int} (h : Lib.atoiAll l = .ok v) : -9223372036854775808 ≤ v ∧ v ≤ 9223372036854775807 := by
  unfold Lib.atoiAll at h
  split at h
  · cases h
  · dsimp only at h
    split at h
    · cases h
    · cases h
    · split at h
      · cases h
      · split at h
        · cases h
        · injection h with h
          split at h <;> omega
theorem atoiV_64 (s : ByteArray) : is64 (atoiV s) = true := by
  unfold is64
  refine decide_eq_true ?_
  rcases atoi_ends s.data.toList with ⟨v, h⟩ | h | h
  · have ev : atoiV s = v := by unfold atoiV; rw [h]
    rw [ev]
    exact mag_bounds h
  · have ev : atoiV s = 0 := by unfold atoiV; rw [h]; rfl
    rw [ev]
    omega
  · have ev : atoiV s = Lib.atoiSat s.data.toList := by unfold atoiV; rw [h]
    rw [ev]
    unfold Lib.atoiSat
    split <;> omega
theorem sNum_64 (ps : List ByteArray) (i : Nat) : is64 (sNum ps i) = true := by
  unfold sNum
  split
  · exact atoiV_64 _
  · rfl
theorem step_ok (s : ByteArray) : ok51 (pStep s) = true := by
  unfold ok51 pStep
  rw [sNum_64, sNum_64]
  rfl
theorem steps_ok (s : ByteArray) : (pSteps s).all ok51 = true := by
  unfold pSteps
  split
  · rfl
  · rw [List.all_eq_true]
    intro o ho
    obtain ⟨x, _, rfl⟩ := List.mem_map.1 ho
    exact step_ok x
theorem right_len {l : List S51} {n p : Int} (h : pRight l n p = true) : l.length ≤ 16 := by
  unfold pRight at h
  rw [Bool.and_eq_true] at h
  exact of_decide_eq_true h.1
theorem ptext_calls (l : List S51) (hl : l.length ≤ 100000) (hok : l.all ok51 = true) (A : Option Addr) (c : Nat) (w' : World) (hC : Kd.C k51 w' A l.length l) (hc : l.length ≤ c) (hE : Env w') : Calls Tryd.prog 31 #[.slice A l.length c] w' fun e w'' => e = .returned (.string (pText l)) ∧ Below w'.heap.size w' w'' :=
  program_Text.calls (6 * l.length + 10) A c l (pText l) w' hC hc (text_f l hl hok _ (Nat.le_refl _)) hE
set_option maxRecDepth 100000 in
set_option maxHeartbeats 4000000 in
theorem parse_empty (a1 a2 : Int) (w : World) (HE : Aside0 (Env w)) :
    Calls Tryd.prog 33 #[.string ⟨#[]⟩, .int .i64 a1, .int .i64 a2] w fun e w' => ∃ v0_ : Value, e = .returned (.tuple #[v0_, .int .i64 0]) ∧ Kd.R k51 51 w' w.heap.size (fun _ => True) v0_ [] ∧ Below w.heap.size w w' := by
  have hmx := pmixed
  have HR : Aside0 (∀ w' : World, Calls Tryd.prog 27 #[.slice none 0 0, .int .i64 a1, .int .i64 a2] w' fun e w'' => e = .returned (.bool true) ∧ Below w'.heap.size w' w'') := ⟨fun w' => program_Right.calls none 0 [] a1 a2 true w' (Kd.C_nil _ _) (Nat.le_refl _) rfl⟩
  have HT : Aside0 (∀ w' : World, Env w' → Calls Tryd.prog 31 #[.slice none 0 0] w' fun e w'' => e = .returned (.string ⟨#[]⟩) ∧ Below w'.heap.size w' w'') := ⟨fun w' hE => ptext_calls [] (by simp) rfl none 0 w' (Kd.C_nil _ _) (Nat.le_refl _) hE⟩
  obtain ⟨W, hW⟩ : ∃ W, w.alloc (.cells #[.slice none 0 0] 48) = W := ⟨_, rfl⟩
  have hB : Below w.heap.size w W := by rw [← hW]; exact below_alloc (Below.refl _ _) _
  have hb0 : Boxed W w.heap.size 48 (.slice none 0 0) := by rw [← hW]; exact Boxed.new w 48 (.slice none 0 0)
  have HB := Aside0.mk hB
  have HB0 := Aside0.mk hb0
  have HEW := Aside0.mk (Env.below HE.out hB)
  have t3 := hb0.cell
  clear hB hb0
  refine (callsIn_wide (n := 3)).1 ?_
  refine callsIn_of_wp_marks Tryd.func33 rfl trivial ?_ rfl
  simp only [Tryd.ntmps33, List.size_toArray, List.length_cons, List.length_nil, Nat.reduceAdd, Nat.reduceSub, Array.replicate_succ, Array.replicate_zero, List.push_toArray, List.append_toArray, List.nil_append, List.cons_append]
  gi_wp2_with (first | (refine ⟨trivial, ?_⟩; gi_at_call 27; (try rw [hW]); refine (callsIn_wide.2 (HR.out _)).mono ?_; rintro e w1 ⟨rfl, hb1⟩; have HB1 := Aside0.mk hb1; have t3' := (px_below HB0.out hb1).cell; clear hb1))
  refine ⟨trivial, ?_⟩
  refine (callsIn_wide.2 (HT.out _ (Env.below HEW.out HB1.out))).mono ?_
  rintro e w2 ⟨rfl, hb2⟩
  have HB2 := Aside0.mk hb2
  have t3b := (px_below (px_below HB0.out HB1.out) hb2).cell
  clear hb2
  gi_wp2
  exact ⟨_, results_tmp2 rfl _ _ _, _, rfl, Kd.R_nil _ _ _ _ _, below_step (below_step HB.out HB1.out) HB2.out⟩
theorem program_Parse.calls (a0 : ByteArray) (a1 : Int) (a2 : Int) (r1 : List (S51)) (r2 : Int) (w : World) (h : program_Parse.f a0 a1 a2 = some (r1, r2)) (hE : Env w) :
    Calls Tryd.prog 33 #[.string a0, .int .i64 a1, .int .i64 a2] w fun e w' => ∃ v0_ : Value, e = .returned (.tuple #[v0_, .int .i64 r2]) ∧ Kd.R k51 51 w' w.heap.size (fun _ => True) v0_ r1 ∧ Below w.heap.size w w' := by
  unfold program_Parse.f at h
  split at h
  · rename_i hs
    have h := Option.some.inj h
    by_cases h0 : a0.size = 0
    · obtain rfl : a0 = ⟨#[]⟩ := by cases a0 with | mk a => congr 1; exact Array.size_eq_zero_iff.1 h0
      have he : pParse ⟨#[]⟩ a1 a2 = ([], 0) := rfl
      rw [he] at h
      injection h with h1 h2
      subst h1 h2
      exact parse_empty a1 a2 w ⟨hE⟩
    · have hps : pSteps a0 = (splitAll a0 semiB).map pStep := by unfold pSteps; rw [if_neg h0]
      have hok := steps_ok a0
      rw [hps] at hok
      unfold pParse at h
      rw [hps] at h
      refine parse_in a0 a1 a2 (splitAll a0 semiB) rfl hs h0 w ⟨hE⟩ ((splitAll a0 semiB).map pStep) ⟨rfl⟩ _ _ ⟨rfl⟩ (pText ((splitAll a0 semiB).map pStep)) ⟨?_⟩ rfl r1 r2 ⟨?_⟩ ⟨?_⟩
      · intro hg A c w' hC hc hE'
        exact ptext_calls _ (by have := right_len hg; omega) hok A c w' hC hc hE'
      · intro hg
        rw [ByteArray.toList_eq, ByteArray.toList_eq] at hg
        rw [if_pos hg] at h
        injection h with h1 h2
        exact ⟨h1.symm, h2.symm⟩
      · intro hg
        rw [ByteArray.toList_eq, ByteArray.toList_eq] at hg
        rw [if_neg (by rw [hg]; simp)] at h
        injection h with h1 h2
        exact ⟨h1.symm, h2.symm⟩
  · cases h
end Go.Proofs.YthfjjdkaplibmaaDoor.Pr
