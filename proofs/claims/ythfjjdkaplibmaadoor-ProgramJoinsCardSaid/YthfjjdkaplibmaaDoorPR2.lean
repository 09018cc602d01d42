import Derived.Test.YthfjjdkaplibmaaDoorPR1
namespace Go.Proofs.YthfjjdkaplibmaaDoor.Pr
open Go Go.RowKit Go.Proofs.YthfjjdkaplibmaaDoorW.PrintWords
set_option linter.unusedVariables false
set_option linter.unusedSimpArgs false

abbrev cfgCells (a0 a1 a2 a3 a4 a5 a6 a7 a8 a9 a10 a11 a12 : Int) (v : Value) : Array Value := #[.int .i64 a0, .int .i64 a1, .int .i64 a2, .int .i64 a3, .int .i64 a4, .int .i64 a5, .int .i64 a6, .int .i64 a7, .int .i64 a8, .int .i64 a9, .int .i64 a10, .int .i64 a11, .int .i64 a12, v]
theorem right_calls (q : List S51) (A : Option Addr) (c : Nat) (n p : Int) (w : World) (hq : Kd.C k51 w A q.length q) (hc : q.length ≤ c) : Calls Tryd.prog 27 #[.slice A q.length c, .int .i64 n, .int .i64 p] w fun e w' => e = .returned (.bool (pRight q n p)) ∧ Below w.heap.size w w' :=
  program_Right.calls A c q n p _ w hq hc rfl
/-- The closure in All: a program that may not be. -/
theorem all_fn (q : List S51) (A : Option Addr) (c : Nat) (W : World) (hq : Kd.C k51 W A q.length q) (hc : q.length ≤ c) (gB : Nat) (a0 a1 a2 a3 a4 a5 a6 a7 a8 a9 a10 a11 a12 : Int) (A' : Option Addr) (c' n : Nat)
    (h : W.heap[gB]? = some (.cells (cfgCells a0 a1 a2 a3 a4 a5 a6 a7 a8 a9 a10 a11 a12 (.slice A' n c')) 65 (0, 0))) :
    Calls Tryd.prog 69 #[.slice A q.length c, .pointer (some ⟨gB, 0, none⟩)] W fun e w' => e = .returned (.bool (!pRight q a0 (n : Int))) ∧ Below W.heap.size W w' := by
  have hu65 := Tryd.underlying65
  have HQ := Aside0.mk hq
  have c0 : W.cell? ⟨gB, 0, none⟩ = some (.int .i64 a0) := (blk_cell h 0).trans rfl
  have c13 : W.cell? ⟨gB, 13, none⟩ = some (.slice A' n c') := (blk_cell h 13).trans rfl
  clear hq h
  go_enter Tryd.func69, Tryd.ntmps69
  go_wp2_with (first | (go_at_call 27; refine (right_calls q A c a0 (n : Int) _ HQ.out hc).mono ?_; rintro e w' ⟨rfl, hb⟩))
  go_ret
  exact ⟨rfl, hb⟩
theorem rdL_at {l : List (List S51)} {i : Nat} (h : i < l.length) : rd_L5 l (i : Int) = l[i] := by unfold rd_L5; simp [List.getD, h]
set_option maxRecDepth 100000 in
set_option maxHeartbeats 2000000 in
/-- slices.IndexFunc over programs: is there one? -/
theorem index_48 (g : Nat) (eg : ∀ args w, (callFunc g args).run Tryd.prog w = .ok (.enter g args) w) (lb : Array Value) (q : List S51 → Bool) (A : Option Addr) (c : Nat) (l : List (List S51)) (w : World) (hC : Kd.C (Kd.slice 51 k51) w A l.length l)
    (hp : ∀ (x : List S51) (A1 : Option Addr) (c1 : Nat) (W : World), Below w.heap.size w W → Kd.C k51 W A1 x.length x → x.length ≤ c1 → Calls Tryd.prog g (#[.slice A1 x.length c1] ++ lb) W fun e w' => e = .returned (.bool (q x)) ∧ Below W.heap.size W w') :
    Calls Tryd.prog 82 #[.slice A l.length c, .func (.func g) #[] lb] w fun e w' => (∃ i : Int, e = .returned (.int .i64 i) ∧ decide (i ≥ 0) = l.any q) ∧ Below w.heap.size w w' := by
  have hlen : l.length ≤ 9223372036854775807 := by have := hC.2.1; exact this
  have HC := Aside0.mk hC
  have HP := Aside0.mk hp
  clear hC hp
  go_enter Tryd.func82, Tryd.ntmps82
  go_wp2
  go_loopg [5, 8] l.length (fun gg _ s8 wr => ∃ kk : Nat, kk ≤ l.length ∧ l.length - kk ≤ gg ∧ s8 = .int .i64 kk ∧ Aside0 (Below w.heap.size w wr) ∧ Aside0 (l.any q = (l.drop kk).any q))
  case atStart => exact ⟨0, Nat.zero_le _, by omega, rfl, ⟨Below.refl _ _⟩, ⟨rfl⟩⟩
  case round =>
    obtain ⟨kk, hkk, hg, rfl, HB, HA⟩ := hrel
    by_cases hlt : kk < l.length
    · have hltz : decide ((kk : Int) < (l.length : Int)) = true := decide_eq_true (by omega)
      have hlt0 : decide (0 ≤ (kk : Int)) = true := decide_eq_true (by omega)
      obtain ⟨x, hx⟩ : ∃ x, l[kk] = x := ⟨_, rfl⟩
      obtain ⟨ad, A1, c1, e0, x0, hc1, hC1⟩ := at_L5 HC.out (kk : Int) (by omega) (by omega)
      subst e0
      rw [rdL_at hlt, hx] at x0 hc1 hC1
      rw [Int.toNat_natCast] at x0
      replace x0 := (HB.out.cell (World.block_lt_of_cell? w _ x0)).trans x0
      have hcall := HP.out x A1 c1 wr HB.out (Kd.C_below hC1 HB.out) hc1
      have HX := Aside0.mk hx
      have HC1 := Aside0.mk hC1
      clear hx hC1
      cases hq : q x with
      | true =>
        rw [hq] at hcall
        go_wp2_with (go_at_fn g; refine hcall.mono ?_; rintro e w' ⟨rfl, hb⟩)
        go_ret
        refine ⟨⟨_, rfl, ?_⟩, below_step HB.out hb⟩
        rw [HA.out, any_drop q l kk hlt, HX.out, hq, decide_eq_true (by omega)]
        rfl
      | false =>
        rw [hq] at hcall
        go_wp2_with (go_at_fn g; refine hcall.mono ?_; rintro e w' ⟨rfl, hb⟩)
        go_roundg (l.length - (kk + 1))
        case measure => omega
        case rel =>
          refine ⟨kk + 1, by omega, by omega, by go_num, ⟨below_step HB.out hb⟩, ⟨?_⟩⟩
          rw [HA.out, any_drop q l kk hlt, HX.out, hq, Bool.false_or]
    · have hltz : decide ((kk : Int) < (l.length : Int)) = false := decide_eq_false (by omega)
      go_wp2
      go_ret
      refine ⟨⟨_, rfl, ?_⟩, HB.out⟩
      rw [HA.out, List.drop_eq_nil_iff.2 (by omega)]
      rfl
theorem contains_48 (g : Nat) (eg : ∀ args w, (callFunc g args).run Tryd.prog w = .ok (.enter g args) w) (lb : Array Value) (q : List S51 → Bool) (A : Option Addr) (c : Nat) (l : List (List S51)) (w : World) (hC : Kd.C (Kd.slice 51 k51) w A l.length l)
    (hp : ∀ (x : List S51) (A1 : Option Addr) (c1 : Nat) (W : World), Below w.heap.size w W → Kd.C k51 W A1 x.length x → x.length ≤ c1 → Calls Tryd.prog g (#[.slice A1 x.length c1] ++ lb) W fun e w' => e = .returned (.bool (q x)) ∧ Below W.heap.size W w') :
    Calls Tryd.prog 68 #[.slice A l.length c, .func (.func g) #[] lb] w fun e w' => e = .returned (.bool (l.any q)) ∧ Below w.heap.size w w' := by
  have HI := Aside0.mk (index_48 g eg lb q A c l w hC hp)
  clear hC hp
  go_enter Tryd.func68, Tryd.ntmps68
  go_wp2_with (first | (go_at_call 82; refine HI.out.mono ?_; rintro e w' ⟨⟨i, rfl, hi⟩, hb⟩))
  go_ret
  exact ⟨rfl, hb⟩
set_option maxRecDepth 100000 in
theorem program_All.calls (a0_0 : Int) (a0_1 : Int) (a0_2 : Int) (a0_3 : Int) (a0_4 : Int) (a0_5 : Int) (a0_6 : Int) (a0_7 : Int) (a0_8 : Int) (a0_9 : Int) (a0_10 : Int) (a0_11 : Int) (a0_12 : Int) (A0_13 : Option Addr) (c0_13 : Nat) (l0_13 : List (List (S51))) (r : Bool) (w : World) (hr0_13 : Kd.C (Kd.slice 51 k51) w A0_13 l0_13.length l0_13) (hc0_13 : l0_13.length ≤ c0_13) (h : program_All.f a0_0 a0_1 a0_2 a0_3 a0_4 a0_5 a0_6 a0_7 a0_8 a0_9 a0_10 a0_11 a0_12 l0_13 = some r) :
    Calls Tryd.prog 37 #[.agg #[.int .i64 a0_0, .int .i64 a0_1, .int .i64 a0_2, .int .i64 a0_3, .int .i64 a0_4, .int .i64 a0_5, .int .i64 a0_6, .int .i64 a0_7, .int .i64 a0_8, .int .i64 a0_9, .int .i64 a0_10, .int .i64 a0_11, .int .i64 a0_12, .slice A0_13 l0_13.length c0_13]] w fun e w' => e = .returned (.bool r) ∧ Below w.heap.size w w' := by
  have hr : r = l0_13.all fun q => pRight q a0_0 (l0_13.length : Int) := (Option.some.inj h).symm
  clear h
  have hu65 := Tryd.underlying65
  obtain ⟨W, hW⟩ : ∃ W, w.alloc (.cells (cfgCells a0_0 a0_1 a0_2 a0_3 a0_4 a0_5 a0_6 a0_7 a0_8 a0_9 a0_10 a0_11 a0_12 (.slice A0_13 l0_13.length c0_13)) 65) = W := ⟨_, rfl⟩
  have hB : Below w.heap.size w W := by rw [← hW]; exact below_alloc (Below.refl _ _) _
  have k1 : W.heap[w.heap.size]? = some (.cells (cfgCells a0_0 a0_1 a0_2 a0_3 a0_4 a0_5 a0_6 a0_7 a0_8 a0_9 a0_10 a0_11 a0_12 (.slice A0_13 l0_13.length c0_13)) 65 (0, 0)) := by rw [← hW]; exact blk_new _ _
  have hcall := contains_48 69 (enters_of Tryd.func69 (by kernel_rfl) rfl) #[.pointer (some ⟨w.heap.size, 0, none⟩)] (fun q => !pRight q a0_0 (l0_13.length : Int)) A0_13 c0_13 l0_13 W (Kd.C_below hr0_13 hB) (by
    intro x A1 c1 W' hb hx hc
    exact all_fn x A1 c1 W' hx hc w.heap.size a0_0 a0_1 a0_2 a0_3 a0_4 a0_5 a0_6 a0_7 a0_8 a0_9 a0_10 a0_11 a0_12 A0_13 c0_13 l0_13.length (blk_below k1 hb))
  have c13 : W.cell? ⟨w.heap.size, 13, none⟩ = some (.slice A0_13 l0_13.length c0_13) := (blk_cell k1 13).trans rfl
  have HI := Aside0.mk hcall
  have HB := Aside0.mk hB
  clear hcall hB k1 hr0_13
  go_enter Tryd.func37, Tryd.ntmps37
  go_wp2_with (first | (go_at_call 68; (try simp only [hW]); (try rw [hW]); refine HI.out.mono ?_; rintro e w' ⟨rfl, hb⟩))
  go_ret
  refine ⟨?_, below_step HB.out hb⟩
  rw [hr, List.all_eq_not_any_not]
  rfl
end Go.Proofs.YthfjjdkaplibmaaDoor.Pr
